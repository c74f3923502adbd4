/- Typed functions that tell what the Go functions of this seat answer, and proofs of it, by program (gen.py). -/
import Derived.Test.YtddefjokgaajfaaGreatDoorUF0
set_option linter.all false
set_option linter.unusedVariables false
set_option linter.unusedSimpArgs false
set_option maxRecDepth 1000000
set_option maxHeartbeats 0
namespace Go.Proofs.YtddefjokgaajfaaGreatDoor.AM
open Go Go.RowKit
noncomputable section
def AB (n:Nat) {R:Type} (kind:Int) (k:BA→Option R):Option R:=if 0≤kind∧kind<(10:Int) then k (List.getD (α:=BA) [(⟨#[]⟩:BA),(⟨#[72,69,76,79]⟩:BA),(⟨#[69,72,76,79]⟩:BA),(⟨#[77,65,73,76]⟩:BA),(⟨#[82,67,80,84]⟩:BA),(⟨#[68,65,84,65]⟩:BA),(⟨#[82,83,69,84]⟩:BA),(⟨#[78,79,79,80]⟩:BA),(⟨#[81,85,73,84]⟩:BA),(⟨#[86,82,70,89]⟩:BA)] (Int.toNat kind) (ua .str)) else none
def PF (n:Nat) (kind:Int):Option BA:=AB n kind some
theorem MP (n:Nat) {S:Type}:∀ kind (φ:_→Option S),(PF n kind).bind φ=AB n kind φ:=by
  intros;unfold PF AB;first | (simp only [ia,ba,iB,bB,oL,oX,nB,Option.bind_some]) | rfl
def Ox (n:Nat):Hint Out:={ live:=fun c=>[],run:=fun c=>none,xm:=fun c q=>none }
theorem vI (n:Nat):ya tys (fa Out (Xh n)) (Ox n) n (aa Tryz.f157) 0:=pa (fun _=>rfl) _ _ (by kernel_rfl)
theorem DK (n:Nat):Enters Tryz.prog 157:=enters_of (c:=aa Tryz.f157) Tryz.func157 (by kernel_rfl) (by kernel_rfl)
def VD (n:Nat):Entry:=⟨157,nY (.pair (.int .i64) .unit) (.one .str) (fun xs=>PF n xs.1),none,none⟩
theorem AN (n:Nat):EntryOk Tryz.prog gl (VD n):=Ea (DK n) fun xs y h=>ma tys_ok (Wi n) mixed (hint:=Ox n) (n:=n) Tryz.func157 (Ha (vI n)) (oa (φ:=(fun y=>some (Out.ret (Ub (.one .str) y)))) (by kernel_rfl) (MP n xs.1 _) h)
def ml (n:Nat):List Entry:=VD n::Xh n
theorem Qu (n:Nat):AllOk Tryz.prog gl (ml n):=.cons (AN n) (Wi n)
def Pu (n:Nat) {R:Type} (s1 word1:BA) (t13 t14:Int) (kn:BA→BA→Int→Int→Option R) (ko:(Unit)→Option R) (kr:(Bool)→Option R) (kp:Int→Option R):Option R:=if (decide (t14<t13))=true then if 0≤t14∧t14<(s1.size:Int) then if (decide ((bt s1 t14)≥(97:Int)))=true then if (decide ((bt s1 t14)≤(122:Int)))=true then if 0≤t14∧t14<(word1.size:Int) then if ((IntKind.wrap .u8 ((bt s1 t14) - (32:Int))) !=(bt word1 t14))=true then kr false else kn s1 word1 t13 (IntKind.wrap .i64 (t14+(1:Int))) else none else if 0≤t14∧t14<(word1.size:Int) then if ((bt s1 t14) !=(bt word1 t14))=true then kr false else kn s1 word1 t13 (IntKind.wrap .i64 (t14+(1:Int))) else none else if 0≤t14∧t14<(word1.size:Int) then if ((bt s1 t14) !=(bt word1 t14))=true then kr false else kn s1 word1 t13 (IntKind.wrap .i64 (t14+(1:Int))) else none else none else ko ()
def Eg (n:Nat):Nat→BA→BA→Int→Int→Option (Lx (Unit) (Bool))
 | 0,_,_,_,_=>none
 | m+1,s1,word1,t13,t14=>Pu n s1 word1 t13 t14 (Eg n m) (fun a=>some (.out a)) (fun a=>some (.ret a)) (fun p=>some (.pan p))
theorem BK (n m:Nat) {S:Type}:∀ s1 word1 t13 t14 (φ:_→Option S),(Eg n (m+1) s1 word1 t13 t14).bind φ=Pu n s1 word1 t13 t14 (fun s1 word1 t13 t14=>(Eg n m s1 word1 t13 t14).bind φ) (fun a=>φ (.out a)) (fun a=>φ (.ret a)) (fun p=>φ (.pan p)):=by
  intros;first | (simp only [Eg,Pu,ia,ba,iB,bB,oL,oX,nB,Option.bind_some]) | rfl
def Fo:List Sl:=.dat .str::.dat .str::tp 11 (.dat (.int .i64)::.dat (.int .i64)::tp 19 [])
def Eo:List RS:=[]
def Qy:List Sl:=tp 34 []
def Py:List RS:=[]
def Sy:List Sl:=tp 4 (.dat .bool::tp 29 [])
def Ry:List RS:=[]
def Pe (K:XE→List AV→la→Option Out):Lx (Unit) (Bool)→Option Out:=fun x=>iY x (fun a=>Jh Qy Py () () (K (.exit 0))) (fun a=>Jh Sy Ry (a,()) () (K .ret)) (fun _=>none)
def NF (n:Nat) {R:Type} (s word:BA) (k:Bool→Option R):Option R:=if ((s.size:Int) !=(word.size:Int))=true then k false else (Eg n n s word (s.size:Int) (0:Int)).bind fun x_1=>iY x_1 (fun a_2=>k true) (fun a_3=>k a_3) (fun _=>none)
def rI (n:Nat) (s word:BA):Option Bool:=NF n s word some
theorem zR (n:Nat) {S:Type}:∀ s word (φ:_→Option S),(rI n s word).bind φ=NF n s word φ:=by
  intros;unfold rI NF;first | (simp only [ia,ba,iB,bB,oL,oX,nB,Option.bind_some]) | rfl
def fm (n:Nat):Hint Out:={ live:=fun c=>(cond (Nat.beq c 0) (lv [0,1,13,14]) []),run:=fun c=>(cond (Nat.beq c 0) (some (vp Fo Eo fun σ ρ K=>(Eg n n σ.1 σ.2.1 σ.2.2.1 σ.2.2.2.1).bind (Pe K))) none),xm:=fun c q=>(cond (Nat.beq c 0&&Nat.beq (q.getD 1000000) 0&&q.isSome) (some []) (cond (Nat.beq c 1&&q.isNone) (some [(4,none)]) none)) }
def em (n:Nat) (K:XE→List AV→la→Option Out) (m:Nat) (s1:BA) (word1:BA) (t13:Int) (t14:Int):Option Out:=lf tys (fa Out (ml n)) (fm n) n (Da [1,1,0,1,0,0] (aa Tryz.f156)) 0 Fo Eo K m (s1,(word1,(t13,(t14,())))) ()
theorem xB (n:Nat) (K:XE→List AV→la→Option Out):∀ (m:Nat) s1 word1 t13 t14,em n K m s1 word1 t13 t14=(Eg n m s1 word1 t13 t14).bind (Pe K)
  | 0,_,_,_,_=>by kernel_rfl
  | m+1,s1,word1,t13,t14=>by
    have h1:em n K (m+1) s1 word1 t13 t14=Pu n s1 word1 t13 t14 (em n K m) (fun a=>Pe K (.out a)) (fun a=>Pe K (.ret a)) (fun p=>Pe K (.pan p)):=by kernel_rfl
    have h2:em n K m=fun s1 word1 t13 t14=>(Eg n m s1 word1 t13 t14).bind (Pe K):=by
      repeat (refine funext fun _=>?_)
      exact xB n K m _ _ _ _
    rw [h1,h2];exact (BK n m _ _ _ _ (Pe K)).symm
theorem sI (n:Nat):le tys (fa Out (ml n)) (fm n) n (Da [1,1,0,1,0,0] (aa Tryz.f156)) 0:=Oa (sp:=Fo) (rp:=Eo) (by kernel_rfl) fun K σ ρ=>xB n K n σ.1 σ.2.1 σ.2.2.1 σ.2.2.2.1
theorem CK (n:Nat):ya tys (fa Out (ml n)) (fm n) n (aa Tryz.f156) 0:=⟨trivial,⟨⟨trivial,⟨⟨trivial,trivial⟩,trivial⟩⟩,⟨⟨trivial,⟨sI n,⟨trivial,⟨⟨trivial,trivial⟩,⟨⟨trivial,⟨trivial,⟨⟨trivial,⟨trivial,trivial⟩⟩,⟨trivial,⟨⟨trivial,trivial⟩,trivial⟩⟩⟩⟩⟩,trivial⟩⟩⟩⟩⟩,⟨trivial,trivial⟩⟩⟩⟩
theorem yN (n:Nat):Enters Tryz.prog 156:=enters_of (c:=aa Tryz.f156) Tryz.func156 (by kernel_rfl) (by kernel_rfl)
def tI (n:Nat):Entry:=⟨156,nY (.pair .str (.pair .str .unit)) (.one .bool) (fun xs=>rI n xs.1 xs.2.1),none,none⟩
theorem KP (n:Nat):EntryOk Tryz.prog gl (tI n):=Ea (yN n) fun xs y h=>ma tys_ok (Qu n) mixed (hint:=fm n) (n:=n) Tryz.func156 (Ha (CK n)) (oa (φ:=(fun y=>some (Out.ret (Ub (.one .bool) y)))) (by kernel_rfl) (zR n xs.1 xs.2.1 _) h)
def Ho (n:Nat):List Entry:=tI n::ml n
theorem Nx (n:Nat):AllOk Tryz.prog gl (Ho n):=.cons (KP n) (Qu n)
def Ou (n:Nat) {R:Type} (s1:BA) (k0:Int) (kn:BA→Int→Option R) (ko:(Unit)→Option R) (kr:(Int)→Option R) (kp:Int→Option R):Option R:=if (decide (k0≤(9:Int)))=true then (PF n k0).bind fun v=>(rI n s1 v).bind fun v1=>if v1=true then kr k0 else kn s1 (IntKind.wrap .i64 (k0+(1:Int))) else ko ()
def Dg (n:Nat):Nat→BA→Int→Option (Lx (Unit) (Int))
 | 0,_,_=>none
 | m+1,s1,k0=>Ou n s1 k0 (Dg n m) (fun a=>some (.out a)) (fun a=>some (.ret a)) (fun p=>some (.pan p))
theorem zK (n m:Nat) {S:Type}:∀ s1 k0 (φ:_→Option S),(Dg n (m+1) s1 k0).bind φ=Ou n s1 k0 (fun s1 k0=>(Dg n m s1 k0).bind φ) (fun a=>φ (.out a)) (fun a=>φ (.ret a)) (fun p=>φ (.pan p)):=by
  intros;first | (simp only [Dg,Ou,ia,ba,iB,bB,oL,oX,nB,Option.bind_some]) | rfl
def Bo:List Sl:=.dat .str::.top::.top::.dat (.int .i64)::tp 9 []
def Ao:List RS:=[]
def My:List Sl:=tp 13 []
def Ly:List RS:=[]
def Oy:List Sl:=.top::.top::.dat (.int .i64)::tp 10 []
def Ny:List RS:=[]
def Oe (K:XE→List AV→la→Option Out):Lx (Unit) (Int)→Option Out:=fun x=>iY x (fun a=>Jh My Ly () () (K (.exit 0))) (fun a=>Jh Oy Ny (a,()) () (K .ret)) (fun _=>none)
def MF (n:Nat) {R:Type} (s:BA) (k:Int→Option R):Option R:=(Dg n n s (1:Int)).bind fun x_1=>iY x_1 (fun a_2=>k (0:Int)) (fun a_3=>k a_3) (fun _=>none)
def ll (n:Nat) (s:BA):Option Int:=MF n s some
theorem yR (n:Nat) {S:Type}:∀ s (φ:_→Option S),(ll n s).bind φ=MF n s φ:=by
  intros;unfold ll MF;first | (simp only [ia,ba,iB,bB,oL,oX,nB,Option.bind_some]) | rfl
def dm (n:Nat):Hint Out:={ live:=fun c=>(cond (Nat.beq c 0) [(0,none),(3,none)] []),run:=fun c=>(cond (Nat.beq c 0) (some (vp Bo Ao fun σ ρ K=>(Dg n n σ.1 σ.2.1).bind (Oe K))) none),xm:=fun c q=>(cond (Nat.beq c 0&&Nat.beq (q.getD 1000000) 0&&q.isSome) (some []) (cond (Nat.beq c 1&&q.isNone) (some [(2,none)]) none)) }
def cm (n:Nat) (K:XE→List AV→la→Option Out) (m:Nat) (s1:BA) (k0:Int):Option Out:=lf tys (fa Out (Ho n)) (dm n) n (Da [1,0,1,0,0] (aa Tryz.f135)) 0 Bo Ao K m (s1,(k0,())) ()
theorem vB (n:Nat) (K:XE→List AV→la→Option Out):∀ (m:Nat) s1 k0,cm n K m s1 k0=(Dg n m s1 k0).bind (Oe K)
  | 0,_,_=>by kernel_rfl
  | m+1,s1,k0=>by
    have h1:cm n K (m+1) s1 k0=Ou n s1 k0 (cm n K m) (fun a=>Oe K (.out a)) (fun a=>Oe K (.ret a)) (fun p=>Oe K (.pan p)):=by kernel_rfl
    have h2:cm n K m=fun s1 k0=>(Dg n m s1 k0).bind (Oe K):=by
      repeat (refine funext fun _=>?_)
      exact vB n K m _ _
    rw [h1,h2];exact (zK n m _ _ (Oe K)).symm
theorem pI (n:Nat):le tys (fa Out (Ho n)) (dm n) n (Da [1,0,1,0,0] (aa Tryz.f135)) 0:=Oa (sp:=Bo) (rp:=Ao) (by kernel_rfl) fun K σ ρ=>vB n K n σ.1 σ.2.1
theorem AK (n:Nat):ya tys (fa Out (Ho n)) (dm n) n (aa Tryz.f135) 0:=⟨trivial,⟨⟨trivial,⟨pI n,⟨⟨trivial,⟨trivial,trivial⟩⟩,⟨⟨trivial,⟨⟨trivial,trivial⟩,trivial⟩⟩,trivial⟩⟩⟩⟩,⟨trivial,trivial⟩⟩⟩
theorem xN (n:Nat):Enters Tryz.prog 135:=enters_of (c:=aa Tryz.f135) Tryz.func135 (by kernel_rfl) (by kernel_rfl)
def qI (n:Nat):Entry:=⟨135,nY (.pair .str .unit) (.one (.int .i64)) (fun xs=>ll n xs.1),none,none⟩
theorem JP (n:Nat):EntryOk Tryz.prog gl (qI n):=Ea (xN n) fun xs y h=>ma tys_ok (Nx n) mixed (hint:=dm n) (n:=n) Tryz.func135 (Ha (AK n)) (oa (φ:=(fun y=>some (Out.ret (Ub (.one (.int .i64)) y)))) (by kernel_rfl) (yR n xs.1 _) h)
def wB (n:Nat):List Entry:=qI n::Ho n
theorem Co (n:Nat):AllOk Tryz.prog gl (wB n):=.cons (JP n) (Nx n)
def OF (n:Nat) {R:Type} (ok:Bool) (e:Int) (k:(Unit)→Option R) (kp:Int→Option R):Option R:=if (!ok)=true then kp e else k ()
def Aa (n:Nat) (ok:Bool) (e:Int):Option (Except Int (Unit)):=OF n ok e (fun y=>some (.ok y)) (fun p=>some (.error p))
theorem aM (n:Nat) {S:Type}:∀ ok e (φ:_→Option S),(Aa n ok e).bind φ=OF n ok e (fun y=>φ (.ok y)) (fun p=>φ (.error p)):=by
  intros;unfold Aa OF;first | (simp only [ia,ba,iB,bB,oL,oX,nB,Option.bind_some]) | rfl
def Pr (n:Nat):Hint Out:={ live:=fun c=>[],run:=fun c=>none,xm:=fun c q=>none }
theorem zB (n:Nat):ya tys (fa Out (wB n)) (Pr n) n (aa Tryz.f134) 0:=pa (fun _=>rfl) _ _ (by kernel_rfl)
theorem zN (n:Nat):Enters Tryz.prog 134:=enters_of (c:=aa Tryz.f134) Tryz.func134 (by kernel_rfl) (by kernel_rfl)
def uI (n:Nat):Entry:=⟨134,oY 159 (.pair .bool (.pair (.int .i64) .unit)) (.many .unit) (fun xs=>Aa n xs.1 xs.2.1),none,none⟩
theorem LP (n:Nat):EntryOk Tryz.prog gl (uI n):=Ut (zN n) (fun xs y h=>ma tys_ok (Co n) mixed (hint:=Pr n) (n:=n) Tryz.func134 (Ha (zB n)) (oa (φ:=(fun r=>jY r (fun p=>some (Out.pan (ge 159 p))) fun y=>some (Out.ret (Ub (.many .unit) y)))) (by kernel_rfl) (aM n xs.1 xs.2.1 _) h)) (fun xs p h=>ma tys_ok (Co n) mixed (hint:=Pr n) (n:=n) Tryz.func134 (Ha (zB n)) (oa (φ:=(fun r=>jY r (fun p=>some (Out.pan (ge 159 p))) fun y=>some (Out.ret (Ub (.many .unit) y)))) (by kernel_rfl) (aM n xs.1 xs.2.1 _) h))
def yB (n:Nat):List Entry:=uI n::wB n
theorem Io (n:Nat):AllOk Tryz.prog gl (yB n):=.cons (LP n) (Co n)
def uB (n:Nat) {R:Type} (s word:BA) (k:BA→Option R) (kp:Int→Option R):Option R:=if (decide ((s.size:Int)≥(word.size:Int)))=true then if 0≤(word.size:Int)∧(word.size:Int)≤(s.size:Int) then (rI n (s.extract (Int.toNat (0:Int)) (Int.toNat (word.size:Int))) word).bind fun v=>(Aa n v (8:Int)).bind fun x_1=>jY x_1 (fun p=>kp p) (fun v1=>if 0≤(word.size:Int)∧(word.size:Int)≤(s.size:Int) then k (s.extract (Int.toNat (word.size:Int)) (Int.toNat (s.size:Int))) else none) else none else (Aa n false (8:Int)).bind fun x_2=>jY x_2 (fun p1=>kp p1) (fun v2=>if 0≤(word.size:Int)∧(word.size:Int)≤(s.size:Int) then k (s.extract (Int.toNat (word.size:Int)) (Int.toNat (s.size:Int))) else none)
def yc (n:Nat) (s word:BA):Option (Except Int BA):=uB n s word (fun y=>some (.ok y)) (fun p=>some (.error p))
theorem oI (n:Nat) {S:Type}:∀ s word (φ:_→Option S),(yc n s word).bind φ=uB n s word (fun y=>φ (.ok y)) (fun p=>φ (.error p)):=by
  intros;unfold yc uB;first | (simp only [ia,ba,iB,bB,oL,oX,nB,Option.bind_some]) | rfl
def zo (n:Nat):Hint Out:={ live:=fun c=>[],run:=fun c=>none,xm:=fun c q=>none }
theorem Mx (n:Nat):ya tys (fa Out (yB n)) (zo n) n (aa Tryz.f137) 0:=pa (fun _=>rfl) _ _ (by kernel_rfl)
theorem yK (n:Nat):Enters Tryz.prog 137:=enters_of (c:=aa Tryz.f137) Tryz.func137 (by kernel_rfl) (by kernel_rfl)
def UD (n:Nat):Entry:=⟨137,oY 159 (.pair .str (.pair .str .unit)) (.one .str) (fun xs=>yc n xs.1 xs.2.1),none,none⟩
theorem wN (n:Nat):EntryOk Tryz.prog gl (UD n):=Ut (yK n) (fun xs y h=>ma tys_ok (Io n) mixed (hint:=zo n) (n:=n) Tryz.func137 (Ha (Mx n)) (oa (φ:=(fun r=>jY r (fun p=>some (Out.pan (ge 159 p))) fun y=>some (Out.ret (Ub (.one .str) y)))) (by kernel_rfl) (oI n xs.1 xs.2.1 _) h)) (fun xs p h=>ma tys_ok (Io n) mixed (hint:=zo n) (n:=n) Tryz.func137 (Ha (Mx n)) (oa (φ:=(fun r=>jY r (fun p=>some (Out.pan (ge 159 p))) fun y=>some (Out.ret (Ub (.one .str) y)))) (by kernel_rfl) (oI n xs.1 xs.2.1 _) h))
def il (n:Nat):List Entry:=UD n::yB n
theorem Nu (n:Nat):AllOk Tryz.prog gl (il n):=.cons (wN n) (Io n)
def Ab (n:Nat) {R:Type} (s1:BA) (c1 i:Int) (kn:BA→Int→Int→Option R) (ko:(Unit)→Option R) (kr:(Int)→Option R) (kp:Int→Option R):Option R:=if (decide (i≥(0:Int)))=true then if 0≤i∧i<(s1.size:Int) then if ((bt s1 i)==c1)=true then kr i else kn s1 c1 (IntKind.wrap .i64 (i - (1:Int))) else none else ko ()
def Ga (n:Nat):Nat→BA→Int→Int→Option (Lx (Unit) (Int))
 | 0,_,_,_=>none
 | m+1,s1,c1,i=>Ab n s1 c1 i (Ga n m) (fun a=>some (.out a)) (fun a=>some (.ret a)) (fun p=>some (.pan p))
theorem di (n m:Nat) {S:Type}:∀ s1 c1 i (φ:_→Option S),(Ga n (m+1) s1 c1 i).bind φ=Ab n s1 c1 i (fun s1 c1 i=>(Ga n m s1 c1 i).bind φ) (fun a=>φ (.out a)) (fun a=>φ (.ret a)) (fun p=>φ (.pan p)):=by
  intros;first | (simp only [Ga,Ab,ia,ba,iB,bB,oL,oX,nB,Option.bind_some]) | rfl
def Jb:List Sl:=.dat .str::.dat (.int .u8)::.top::.top::.top::.dat (.int .i64)::tp 13 []
def Ib:List RS:=[]
def Gf:List Sl:=tp 19 []
def Ff:List RS:=[]
def If:List Sl:=tp 4 (.dat (.int .i64)::tp 14 [])
def Hf:List RS:=[]
def Ia (K:XE→List AV→la→Option Out):Lx (Unit) (Int)→Option Out:=fun x=>iY x (fun a=>Jh Gf Ff () () (K (.exit 0))) (fun a=>Jh If Hf (a,()) () (K .ret)) (fun _=>none)
def rc (n:Nat) {R:Type} (s:BA) (c:Int) (k:Int→Option R):Option R:=(Ga n n s c (IntKind.wrap .i64 ((s.size:Int) - (1:Int)))).bind fun x_1=>iY x_1 (fun a_2=>k (-1:Int)) (fun a_3=>k a_3) (fun _=>none)
def Sb (n:Nat) (s:BA) (c:Int):Option Int:=rc n s c some
theorem Hk (n:Nat) {S:Type}:∀ s c (φ:_→Option S),(Sb n s c).bind φ=rc n s c φ:=by
  intros;unfold Sb rc;first | (simp only [ia,ba,iB,bB,oL,oX,nB,Option.bind_some]) | rfl
def lb (n:Nat):Hint Out:={ live:=fun c=>(cond (Nat.beq c 0) (lv [0,1,5]) []),run:=fun c=>(cond (Nat.beq c 0) (some (vp Jb Ib fun σ ρ K=>(Ga n n σ.1 σ.2.1 σ.2.2.1).bind (Ia K))) none),xm:=fun c q=>(cond (Nat.beq c 0&&Nat.beq (q.getD 1000000) 0&&q.isSome) (some []) (cond (Nat.beq c 1&&q.isNone) (some [(4,none)]) none)) }
def jb (n:Nat) (K:XE→List AV→la→Option Out) (m:Nat) (s1:BA) (c1:Int) (i:Int):Option Out:=lf tys (fa Out (il n)) (lb n) n (Da [1,0,1,0,0] (aa Tryz.f177)) 0 Jb Ib K m (s1,(c1,(i,()))) ()
theorem Fd (n:Nat) (K:XE→List AV→la→Option Out):∀ (m:Nat) s1 c1 i,jb n K m s1 c1 i=(Ga n m s1 c1 i).bind (Ia K)
  | 0,_,_,_=>by kernel_rfl
  | m+1,s1,c1,i=>by
    have h1:jb n K (m+1) s1 c1 i=Ab n s1 c1 i (jb n K m) (fun a=>Ia K (.out a)) (fun a=>Ia K (.ret a)) (fun p=>Ia K (.pan p)):=by kernel_rfl
    have h2:jb n K m=fun s1 c1 i=>(Ga n m s1 c1 i).bind (Ia K):=by
      repeat (refine funext fun _=>?_)
      exact Fd n K m _ _ _
    rw [h1,h2];exact (di n m _ _ _ (Ia K)).symm
theorem rh (n:Nat):le tys (fa Out (il n)) (lb n) n (Da [1,0,1,0,0] (aa Tryz.f177)) 0:=Oa (sp:=Jb) (rp:=Ib) (by kernel_rfl) fun K σ ρ=>Fd n K n σ.1 σ.2.1 σ.2.2.1
theorem ei (n:Nat):ya tys (fa Out (il n)) (lb n) n (aa Tryz.f177) 0:=⟨trivial,⟨⟨trivial,⟨rh n,⟨⟨trivial,⟨trivial,trivial⟩⟩,⟨⟨trivial,⟨⟨trivial,trivial⟩,trivial⟩⟩,trivial⟩⟩⟩⟩,⟨trivial,trivial⟩⟩⟩
theorem Li (n:Nat):Enters Tryz.prog 177:=enters_of (c:=aa Tryz.f177) Tryz.func177 (by kernel_rfl) (by kernel_rfl)
def qe (n:Nat):Entry:=⟨177,nY (.pair .str (.pair (.int .u8) .unit)) (.one (.int .i64)) (fun xs=>Sb n xs.1 xs.2.1),none,none⟩
theorem Tj (n:Nat):EntryOk Tryz.prog gl (qe n):=Ea (Li n) fun xs y h=>ma tys_ok (Nu n) mixed (hint:=lb n) (n:=n) Tryz.func177 (Ha (ei n)) (oa (φ:=(fun y=>some (Out.ret (Ub (.one (.int .i64)) y)))) (by kernel_rfl) (Hk n xs.1 xs.2.1 _) h)
def ec (n:Nat):List Entry:=qe n::il n
theorem sd (n:Nat):AllOk Tryz.prog gl (ec n):=.cons (Tj n) (Nu n)
def xf (n:Nat) {R:Type} (s:BA) (c:Int) (k:Int→Option R):Option R:=(Sb n s c).bind fun v=>k v
def Ae (n:Nat) (s:BA) (c:Int):Option Int:=xf n s c some
theorem Hu (n:Nat) {S:Type}:∀ s c (φ:_→Option S),(Ae n s c).bind φ=xf n s c φ:=by
  intros;unfold Ae xf;first | (simp only [ia,ba,iB,bB,oL,oX,nB,Option.bind_some]) | rfl
def Bg (n:Nat):Hint Out:={ live:=fun c=>[],run:=fun c=>none,xm:=fun c q=>none }
theorem uo (n:Nat):ya tys (fa Out (ec n)) (Bg n) n (aa Tryz.f158) 0:=pa (fun _=>rfl) _ _ (by kernel_rfl)
theorem Zp (n:Nat):Enters Tryz.prog 158:=enters_of (c:=aa Tryz.f158) Tryz.func158 (by kernel_rfl) (by kernel_rfl)
def Ci (n:Nat):Entry:=⟨158,nY (.pair .str (.pair (.int .u8) .unit)) (.one (.int .i64)) (fun xs=>Ae n xs.1 xs.2.1),none,none⟩
theorem Nr (n:Nat):EntryOk Tryz.prog gl (Ci n):=Ea (Zp n) fun xs y h=>ma tys_ok (sd n) mixed (hint:=Bg n) (n:=n) Tryz.func158 (Ha (uo n)) (oa (φ:=(fun y=>some (Out.ret (Ub (.one (.int .i64)) y)))) (by kernel_rfl) (Hu n xs.1 xs.2.1 _) h)
def Ne (n:Nat):List Entry:=Ci n::ec n
theorem Jf (n:Nat):AllOk Tryz.prog gl (Ne n):=.cons (Nr n) (sd n)
def vz (n:Nat) {R:Type} (s:BA) (k:(U0×Bool×Int×Unit)→Option R):Option R:=if (s.toList==(⟨#[60,62]⟩:BA).toList)=true then k (((⟨#[]⟩:BA),((⟨#[]⟩:BA),())),(true,((0:Int),()))) else if (decide ((s.size:Int)<(2:Int)))=false then if 0≤(0:Int)∧(0:Int)<(s.size:Int) then if ((bt s (0:Int)) !=(60:Int))=false then if 0≤(IntKind.wrap .i64 ((s.size:Int) - (1:Int)))∧(IntKind.wrap .i64 ((s.size:Int) - (1:Int)))<(s.size:Int) then if ((bt s (IntKind.wrap .i64 ((s.size:Int) - (1:Int)))) !=(62:Int))=true then k (((⟨#[]⟩:BA),((⟨#[]⟩:BA),())),(false,((8:Int),()))) else if 0≤(IntKind.wrap .i64 ((s.size:Int) - (1:Int)))∧(IntKind.wrap .i64 ((s.size:Int) - (1:Int)))≤(s.size:Int) then if 0≤(1:Int)∧(1:Int)≤(IntKind.wrap .i64 ((s.size:Int) - (1:Int))) then (bh n (s.extract (Int.toNat (1:Int)) (Int.toNat (IntKind.wrap .i64 ((s.size:Int) - (1:Int)))))).bind fun v=>k ((v.1.1,(v.1.2.1,())),(false,(v.2.1,()))) else none else none else none else k (((⟨#[]⟩:BA),((⟨#[]⟩:BA),())),(false,((8:Int),()))) else none else k (((⟨#[]⟩:BA),((⟨#[]⟩:BA),())),(false,((8:Int),())))
def jE (n:Nat) (s:BA):Option (U0×Bool×Int×Unit):=vz n s some
theorem dO (n:Nat) {S:Type}:∀ s (φ:_→Option S),(jE n s).bind φ=vz n s φ:=by
  intros;unfold jE vz;first | (simp only [ia,ba,iB,bB,oL,oX,nB,Option.bind_some]) | rfl
def Tw (n:Nat):Hint Out:={ live:=fun c=>[],run:=fun c=>none,xm:=fun c q=>none }
theorem oG (n:Nat):ya tys (fa Out (Ne n)) (Tw n) n (aa Tryz.f96) 0:=pa (fun _=>rfl) _ _ (by kernel_rfl)
theorem WI (n:Nat):Enters Tryz.prog 96:=enters_of (c:=aa Tryz.f96) Tryz.func96 (by kernel_rfl) (by kernel_rfl)
def nD (n:Nat):Entry:=⟨96,nY (.pair .str .unit) (.many K8) (fun xs=>jE n xs.1),none,none⟩
theorem oM (n:Nat):EntryOk Tryz.prog gl (nD n):=Ea (WI n) fun xs y h=>ma tys_ok (Jf n) mixed (hint:=Tw n) (n:=n) Tryz.func96 (Ha (oG n)) (oa (φ:=(fun y=>some (Out.ret (Ub (.many K8) y)))) (by kernel_rfl) (dO n xs.1 _) h)
def uv (n:Nat):List Entry:=nD n::Ne n
theorem Al (n:Nat):AllOk Tryz.prog gl (uv n):=.cons (oM n) (Jf n)
def QF (n:Nat) {R:Type} (s:BA) (k:(U0×Bool×BA×Unit)→Option R) (kp:Int→Option R):Option R:=(za n s (⟨#[32]⟩:BA)).bind fun v=>(Ae n v (62:Int)).bind fun v1=>(Aa n (decide (v1≥(0:Int))) (8:Int)).bind fun x_1=>jY x_1 (fun p=>kp p) (fun v2=>if 0≤(IntKind.wrap .i64 (v1+(1:Int)))∧(IntKind.wrap .i64 (v1+(1:Int)))≤(v.size:Int) then (jE n (v.extract (Int.toNat (0:Int)) (Int.toNat (IntKind.wrap .i64 (v1+(1:Int)))))).bind fun v3=>(Aa n (v3.2.2.1==(0:Int)) v3.2.2.1).bind fun x_2=>jY x_2 (fun p1=>kp p1) (fun v4=>if 0≤(IntKind.wrap .i64 (v1+(1:Int)))∧(IntKind.wrap .i64 (v1+(1:Int)))≤(v.size:Int) then k ((v3.1.1,(v3.1.2.1,())),(v3.2.1,((v.extract (Int.toNat (IntKind.wrap .i64 (v1+(1:Int)))) (Int.toNat (v.size:Int))),()))) else none) else none)
def Bf (n:Nat) (s:BA):Option (Except Int (U0×Bool×BA×Unit)):=QF n s (fun y=>some (.ok y)) (fun p=>some (.error p))
theorem bM (n:Nat) {S:Type}:∀ s (φ:_→Option S),(Bf n s).bind φ=QF n s (fun y=>φ (.ok y)) (fun p=>φ (.error p)):=by
  intros;unfold Bf QF;first | (simp only [ia,ba,iB,bB,oL,oX,nB,Option.bind_some]) | rfl
def Qr (n:Nat):Hint Out:={ live:=fun c=>[],run:=fun c=>none,xm:=fun c q=>none,sch:=fun c=>(cond (Nat.beq c 6) (some [(1,0),(2,0),(3,0),(4,0),(5,0),(0,1),(6,2),(7,0),(8,0)]) none) }
theorem EB (n:Nat):ya tys (fa Out (uv n)) (Qr n) n (aa Tryz.f136) 0:=pa (fun _=>rfl) _ _ (by kernel_rfl)
theorem DN (n:Nat):Enters Tryz.prog 136:=enters_of (c:=aa Tryz.f136) Tryz.func136 (by kernel_rfl) (by kernel_rfl)
def yI (n:Nat):Entry:=⟨136,oY 159 (.pair .str .unit) (.many K9) (fun xs=>Bf n xs.1),none,none⟩
theorem OP (n:Nat):EntryOk Tryz.prog gl (yI n):=Ut (DN n) (fun xs y h=>ma tys_ok (Al n) mixed (hint:=Qr n) (n:=n) Tryz.func136 (Ha (EB n)) (oa (φ:=(fun r=>jY r (fun p=>some (Out.pan (ge 159 p))) fun y=>some (Out.ret (Ub (.many K9) y)))) (by kernel_rfl) (bM n xs.1 _) h)) (fun xs p h=>ma tys_ok (Al n) mixed (hint:=Qr n) (n:=n) Tryz.func136 (Ha (EB n)) (oa (φ:=(fun r=>jY r (fun p=>some (Out.pan (ge 159 p))) fun y=>some (Out.ret (Ub (.many K9) y)))) (by kernel_rfl) (bM n xs.1 _) h))
def Jo (n:Nat):List Entry:=yI n::uv n
theorem Ko (n:Nat):AllOk Tryz.prog gl (Jo n):=.cons (OP n) (Al n)
def Tu (n:Nat) {R:Type} (s1:BA) (n0 t19 t20:Int) (kn:BA→Int→Int→Int→Option R) (ko:(Int)→Option R) (kr:Unit→Option R) (kp:Int→Option R):Option R:=if (decide (t20<t19))=true then if 0≤t20∧t20<(s1.size:Int) then if (decide ((bt s1 t20)≥(48:Int)))=true then if 0≤t20∧t20<(s1.size:Int) then (Aa n (decide ((bt s1 t20)≤(57:Int))) (8:Int)).bind fun x_1=>jY x_1 (fun p2=>kp p2) (fun v2=>if 0≤t20∧t20<(s1.size:Int) then kn s1 (IntKind.wrap .i64 ((IntKind.wrap .i64 ((10:Int)*n0))+(IntKind.wrap .i64 (IntKind.wrap .u8 ((bt s1 t20) - (48:Int)))))) t19 (IntKind.wrap .i64 (t20+(1:Int))) else none) else none else (Aa n false (8:Int)).bind fun x_2=>jY x_2 (fun p3=>kp p3) (fun v3=>if 0≤t20∧t20<(s1.size:Int) then kn s1 (IntKind.wrap .i64 ((IntKind.wrap .i64 ((10:Int)*n0))+(IntKind.wrap .i64 (IntKind.wrap .u8 ((bt s1 t20) - (48:Int)))))) t19 (IntKind.wrap .i64 (t20+(1:Int))) else none) else none else ko n0
def Cf (n:Nat):Nat→BA→Int→Int→Int→Option (Lx (Int) Unit)
 | 0,_,_,_,_=>none
 | m+1,s1,n0,t19,t20=>Tu n s1 n0 t19 t20 (Cf n m) (fun a=>some (.out a)) (fun a=>some (.ret a)) (fun p=>some (.pan p))
theorem IK (n m:Nat) {S:Type}:∀ s1 n0 t19 t20 (φ:_→Option S),(Cf n (m+1) s1 n0 t19 t20).bind φ=Tu n s1 n0 t19 t20 (fun s1 n0 t19 t20=>(Cf n m s1 n0 t19 t20).bind φ) (fun a=>φ (.out a)) (fun a=>φ (.ret a)) (fun p=>φ (.pan p)):=by
  intros;first | (simp only [Cf,Tu,ia,ba,iB,bB,oL,oX,nB,Option.bind_some]) | rfl
def No:List Sl:=.dat .str::.top::.top::.dat (.int .i64)::tp 15 (.dat (.int .i64)::.dat (.int .i64)::tp 26 [])
def Mo:List RS:=[]
def Vy:List Sl:=.top::.top::.top::.dat (.int .i64)::tp 43 []
def Uy:List RS:=[]
def Qe (K:XE→List AV→la→Option Out):Lx (Int) Unit→Option Out:=fun x=>iY x (fun a=>Jh Vy Uy (a,()) () (K (.exit 0))) (fun _=>none) (fun p=>K (.panic (ge 159 p)) (List.replicate 47 .top) [])
def RF (n:Nat) {R:Type} (s:BA) (k:Int→Option R) (kp:Int→Option R):Option R:=if (s.toList==(⟨#[]⟩:BA).toList)=true then k (-1:Int) else (yc n s (⟨#[32,83,73,90,69,61]⟩:BA)).bind fun x_1=>jY x_1 (fun p=>kp p) (fun v=>if (decide ((v.size:Int)≥(1:Int)))=true then (Aa n (decide ((v.size:Int)≤(10:Int))) (8:Int)).bind fun x_2=>jY x_2 (fun p1=>kp p1) (fun v1=>(Cf n n v (0:Int) (v.size:Int) (0:Int)).bind fun x_3=>iY x_3 (fun a_4=>(Aa n (decide (a_4≤(1073741824:Int))) (8:Int)).bind fun x_5=>jY x_5 (fun p4=>kp p4) (fun v4=>k a_4)) (fun _=>none) (fun p5=>kp p5)) else (Aa n false (8:Int)).bind fun x_6=>jY x_6 (fun p6=>kp p6) (fun v5=>(Cf n n v (0:Int) (v.size:Int) (0:Int)).bind fun x_7=>iY x_7 (fun a_8=>(Aa n (decide (a_8≤(1073741824:Int))) (8:Int)).bind fun x_9=>jY x_9 (fun p7=>kp p7) (fun v6=>k a_8)) (fun _=>none) (fun p8=>kp p8)))
def Lo (n:Nat) (s:BA):Option (Except Int Int):=RF n s (fun y=>some (.ok y)) (fun p=>some (.error p))
theorem dM (n:Nat) {S:Type}:∀ s (φ:_→Option S),(Lo n s).bind φ=RF n s (fun y=>φ (.ok y)) (fun p=>φ (.error p)):=by
  intros;unfold Lo RF;first | (simp only [ia,ba,iB,bB,oL,oX,nB,Option.bind_some]) | rfl
def Fi (n:Nat):Hint Out:={ live:=fun c=>(cond (Nat.beq c 0) (lv [0,3,19,20]) []),run:=fun c=>(cond (Nat.beq c 0) (some (vp No Mo fun σ ρ K=>(Cf n n σ.1 σ.2.1 σ.2.2.1 σ.2.2.2.1).bind (Qe K))) none),xm:=fun c q=>(cond (Nat.beq c 0&&Nat.beq (q.getD 1000000) 0&&q.isSome) (some [(3,none)]) none) }
def gm (n:Nat) (K:XE→List AV→la→Option Out) (m:Nat) (s1:BA) (n0:Int) (t19:Int) (t20:Int):Option Out:=lf tys (fa Out (Jo n)) (Fi n) n (Da [1,1,1,1,1,0,1,0,0] (aa Tryz.f138)) 0 No Mo K m (s1,(n0,(t19,(t20,())))) ()
theorem IB (n:Nat) (K:XE→List AV→la→Option Out):∀ (m:Nat) s1 n0 t19 t20,gm n K m s1 n0 t19 t20=(Cf n m s1 n0 t19 t20).bind (Qe K)
  | 0,_,_,_,_=>by kernel_rfl
  | m+1,s1,n0,t19,t20=>by
    have h1:gm n K (m+1) s1 n0 t19 t20=Tu n s1 n0 t19 t20 (gm n K m) (fun a=>Qe K (.out a)) (fun a=>Qe K (.ret a)) (fun p=>Qe K (.pan p)):=by kernel_rfl
    have h2:gm n K m=fun s1 n0 t19 t20=>(Cf n m s1 n0 t19 t20).bind (Qe K):=by
      repeat (refine funext fun _=>?_)
      exact IB n K m _ _ _ _
    rw [h1,h2];exact (IK n m _ _ _ _ (Qe K)).symm
theorem BI (n:Nat):le tys (fa Out (Jo n)) (Fi n) n (Da [1,1,1,1,1,0,1,0,0] (aa Tryz.f138)) 0:=Oa (sp:=No) (rp:=Mo) (by kernel_rfl) fun K σ ρ=>IB n K n σ.1 σ.2.1 σ.2.2.1 σ.2.2.2.1
theorem JB (n:Nat):ya tys (fa Out (Jo n)) (Fi n) n (aa Tryz.f138) 0:=⟨trivial,⟨⟨trivial,⟨⟨trivial,trivial⟩,trivial⟩⟩,⟨trivial,⟨trivial,⟨trivial,⟨⟨trivial,⟨BI n,⟨trivial,⟨⟨trivial,trivial⟩,⟨⟨trivial,⟨trivial,trivial⟩⟩,trivial⟩⟩⟩⟩⟩,⟨trivial,⟨trivial,trivial⟩⟩⟩⟩⟩⟩⟩⟩
theorem GN (n:Nat):Enters Tryz.prog 138:=enters_of (c:=aa Tryz.f138) Tryz.func138 (by kernel_rfl) (by kernel_rfl)
def CI (n:Nat):Entry:=⟨138,oY 159 (.pair .str .unit) (.one (.int .i64)) (fun xs=>Lo n xs.1),none,none⟩
theorem QP (n:Nat):EntryOk Tryz.prog gl (CI n):=Ut (GN n) (fun xs y h=>ma tys_ok (Ko n) mixed (hint:=Fi n) (n:=n) Tryz.func138 (Ha (JB n)) (oa (φ:=(fun r=>jY r (fun p=>some (Out.pan (ge 159 p))) fun y=>some (Out.ret (Ub (.one (.int .i64)) y)))) (by kernel_rfl) (dM n xs.1 _) h)) (fun xs p h=>ma tys_ok (Ko n) mixed (hint:=Fi n) (n:=n) Tryz.func138 (Ha (JB n)) (oa (φ:=(fun r=>jY r (fun p=>some (Out.pan (ge 159 p))) fun y=>some (Out.ret (Ub (.one (.int .i64)) y)))) (by kernel_rfl) (dM n xs.1 _) h))
def Oo (n:Nat):List Entry:=CI n::Jo n
theorem Rx (n:Nat):AllOk Tryz.prog gl (Oo n):=.cons (QP n) (Ko n)
def Gp (n:Nat) {R:Type} (s1:BA) (blank:Bool) (t6 t7:Int) (kn:BA→Bool→Int→Int→Option R) (ko:(BA×Bool)→Option R) (kr:(Bool)→Option R) (kp:Int→Option R):Option R:=if (decide (t7<t6))=true then if 0≤t7∧t7<(s1.size:Int) then if (decide ((bt s1 t7)<(32:Int)))=false then if 0≤t7∧t7<(s1.size:Int) then if (decide ((bt s1 t7)>(126:Int)))=false then if 0≤t7∧t7<(s1.size:Int) then if ((bt s1 t7)==(32:Int))=true then if blank=true then kr false else if 0≤t7∧t7<(s1.size:Int) then kn s1 ((bt s1 t7)==(32:Int)) t6 (IntKind.wrap .i64 (t7+(1:Int))) else none else if 0≤t7∧t7<(s1.size:Int) then kn s1 ((bt s1 t7)==(32:Int)) t6 (IntKind.wrap .i64 (t7+(1:Int))) else none else none else kr false else none else kr false else none else ko (s1,blank)
def af (n:Nat):Nat→BA→Bool→Int→Int→Option (Lx (BA×Bool) (Bool))
 | 0,_,_,_,_=>none
 | m+1,s1,blank,t6,t7=>Gp n s1 blank t6 t7 (af n m) (fun a=>some (.out a)) (fun a=>some (.ret a)) (fun p=>some (.pan p))
theorem DI (n m:Nat) {S:Type}:∀ s1 blank t6 t7 (φ:_→Option S),(af n (m+1) s1 blank t6 t7).bind φ=Gp n s1 blank t6 t7 (fun s1 blank t6 t7=>(af n m s1 blank t6 t7).bind φ) (fun a=>φ (.out a)) (fun a=>φ (.ret a)) (fun p=>φ (.pan p)):=by
  intros;first | (simp only [af,Gp,ia,ba,iB,bB,oL,oX,nB,Option.bind_some]) | rfl
def jm:List Sl:=.dat .str::.top::.top::.dat .bool::.top::.top::.dat (.int .i64)::.dat (.int .i64)::tp 33 []
def im:List RS:=[]
def Gw:List Sl:=.dat .str::.top::.top::.dat .bool::tp 37 []
def Fw:List RS:=[]
def Iw:List Sl:=.top::.top::.dat .bool::tp 38 []
def Hw:List RS:=[]
def Rd (K:XE→List AV→la→Option Out):Lx (BA×Bool) (Bool)→Option Out:=fun x=>iY x (fun a=>Jh Gw Fw (a.1,(a.2,())) () (K (.exit 0))) (fun a=>Jh Iw Hw (a,()) () (K .ret)) (fun _=>none)
def KB (n:Nat) {R:Type} (s:BA) (k:Bool→Option R):Option R:=(af n n s true (s.size:Int) (0:Int)).bind fun x_1=>iY x_1 (fun a_2=>if (!a_2.2)=true then k (decide ((a_2.1.size:Int)≤(64:Int))) else k false) (fun a_3=>k a_3) (fun _=>none)
def Tr (n:Nat) (s:BA):Option Bool:=KB n s some
theorem RP (n:Nat) {S:Type}:∀ s (φ:_→Option S),(Tr n s).bind φ=KB n s φ:=by
  intros;unfold Tr KB;first | (simp only [ia,ba,iB,bB,oL,oX,nB,Option.bind_some]) | rfl
def Dj (n:Nat):Hint Out:={ live:=fun c=>(cond (Nat.beq c 0) (lv [0,3,6,7]) []),run:=fun c=>(cond (Nat.beq c 0) (some (vp jm im fun σ ρ K=>(af n n σ.1 σ.2.1 σ.2.2.1 σ.2.2.2.1).bind (Rd K))) none),xm:=fun c q=>(cond (Nat.beq c 0&&Nat.beq (q.getD 1000000) 0&&q.isSome) (some [(0,none),(3,none)]) (cond (Nat.beq c 1&&q.isNone) (some [(2,none)]) none)) }
def Cj (n:Nat) (K:XE→List AV→la→Option Out) (m:Nat) (s1:BA) (blank:Bool) (t6:Int) (t7:Int):Option Out:=lf tys (fa Out (Oo n)) (Dj n) n (Da [1,1,0,1,0,0] (aa Tryz.f113)) 0 jm im K m (s1,(blank,(t6,(t7,())))) ()
theorem Sx (n:Nat) (K:XE→List AV→la→Option Out):∀ (m:Nat) s1 blank t6 t7,Cj n K m s1 blank t6 t7=(af n m s1 blank t6 t7).bind (Rd K)
  | 0,_,_,_,_=>by kernel_rfl
  | m+1,s1,blank,t6,t7=>by
    have h1:Cj n K (m+1) s1 blank t6 t7=Gp n s1 blank t6 t7 (Cj n K m) (fun a=>Rd K (.out a)) (fun a=>Rd K (.ret a)) (fun p=>Rd K (.pan p)):=by kernel_rfl
    have h2:Cj n K m=fun s1 blank t6 t7=>(af n m s1 blank t6 t7).bind (Rd K):=by
      repeat (refine funext fun _=>?_)
      exact Sx n K m _ _ _ _
    rw [h1,h2];exact (DI n m _ _ _ _ (Rd K)).symm
theorem SF (n:Nat):le tys (fa Out (Oo n)) (Dj n) n (Da [1,1,0,1,0,0] (aa Tryz.f113)) 0:=Oa (sp:=jm) (rp:=im) (by kernel_rfl) fun K σ ρ=>Sx n K n σ.1 σ.2.1 σ.2.2.1 σ.2.2.2.1
theorem EI (n:Nat):ya tys (fa Out (Oo n)) (Dj n) n (aa Tryz.f113) 0:=⟨trivial,⟨trivial,⟨⟨trivial,⟨SF n,⟨trivial,⟨⟨trivial,trivial⟩,⟨⟨trivial,⟨⟨trivial,⟨⟨trivial,trivial⟩,trivial⟩⟩,trivial⟩⟩,trivial⟩⟩⟩⟩⟩,⟨trivial,trivial⟩⟩⟩⟩
theorem JK (n:Nat):Enters Tryz.prog 113:=enters_of (c:=aa Tryz.f113) Tryz.func113 (by kernel_rfl) (by kernel_rfl)
def YD (n:Nat):Entry:=⟨113,nY (.pair .str .unit) (.one .bool) (fun xs=>Tr n xs.1),none,none⟩
theorem JN (n:Nat):EntryOk Tryz.prog gl (YD n):=Ea (JK n) fun xs y h=>ma tys_ok (Rx n) mixed (hint:=Dj n) (n:=n) Tryz.func113 (Ha (EI n)) (oa (φ:=(fun y=>some (Out.ret (Ub (.one .bool) y)))) (by kernel_rfl) (RP n xs.1 _) h)
def Jw (n:Nat):List Entry:=YD n::Oo n
theorem Uu (n:Nat):AllOk Tryz.prog gl (Jw n):=.cons (JN n) (Rx n)
def Ru (n:Nat) {R:Type} (v:T1) (k:(T1×Bool×Unit)→Option R):Option R:=if (v.1==(1:Int))=true then (wb n v.2.1).bind fun v1=>k ((v.1,(v.2.1,(false,(((⟨#[]⟩:BA),((⟨#[]⟩:BA),())),((0:Int),()))))),(v1,())) else if (v.1==(2:Int))=true then (wb n v.2.1).bind fun v2=>k ((v.1,(v.2.1,(false,(((⟨#[]⟩:BA),((⟨#[]⟩:BA),())),((0:Int),()))))),(v2,())) else if (v.1==(3:Int))=true then xX 1 (if (!v.2.2.1)=true then if v.2.2.1=false then (Oi n (v.2.2.2.1.1,(v.2.2.2.1.2.1,()))).bind fun v3=>if v3=true then if (decide (v.2.2.2.2.1≥(-1:Int)))=true then xX 1 (k ((v.1,((⟨#[]⟩:BA),(v.2.2.1,((v.2.2.2.1.1,(v.2.2.2.1.2.1,())),(v.2.2.2.2.1,()))))),((decide (v.2.2.2.2.1≤(1073741824:Int))),()))) else xX 1 (k ((v.1,((⟨#[]⟩:BA),(v.2.2.1,((v.2.2.2.1.1,(v.2.2.2.1.2.1,())),(v.2.2.2.2.1,()))))),(false,()))) else xX 1 (k ((v.1,((⟨#[]⟩:BA),(v.2.2.1,((v.2.2.2.1.1,(v.2.2.2.1.2.1,())),(v.2.2.2.2.1,()))))),(false,()))) else if (decide (v.2.2.2.2.1≥(-1:Int)))=true then xX 1 (k ((v.1,((⟨#[]⟩:BA),(v.2.2.1,((v.2.2.2.1.1,(v.2.2.2.1.2.1,())),(v.2.2.2.2.1,()))))),((decide (v.2.2.2.2.1≤(1073741824:Int))),()))) else xX 1 (k ((v.1,((⟨#[]⟩:BA),(v.2.2.1,((v.2.2.2.1.1,(v.2.2.2.1.2.1,())),(v.2.2.2.2.1,()))))),(false,()))) else if v.2.2.1=false then (Oi n (v.2.2.2.1.1,(v.2.2.2.1.2.1,()))).bind fun v4=>
 if v4=true then if (decide (v.2.2.2.2.1≥(-1:Int)))=true then xX 1 (k ((v.1,((⟨#[]⟩:BA),(v.2.2.1,(((⟨#[]⟩:BA),((⟨#[]⟩:BA),())),(v.2.2.2.2.1,()))))),((decide (v.2.2.2.2.1≤(1073741824:Int))),()))) else xX 1 (k ((v.1,((⟨#[]⟩:BA),(v.2.2.1,(((⟨#[]⟩:BA),((⟨#[]⟩:BA),())),(v.2.2.2.2.1,()))))),(false,()))) else xX 1 (k ((v.1,((⟨#[]⟩:BA),(v.2.2.1,(((⟨#[]⟩:BA),((⟨#[]⟩:BA),())),(v.2.2.2.2.1,()))))),(false,()))) else if (decide (v.2.2.2.2.1≥(-1:Int)))=true then xX 1 (k ((v.1,((⟨#[]⟩:BA),(v.2.2.1,(((⟨#[]⟩:BA),((⟨#[]⟩:BA),())),(v.2.2.2.2.1,()))))),((decide (v.2.2.2.2.1≤(1073741824:Int))),()))) else xX 1 (k ((v.1,((⟨#[]⟩:BA),(v.2.2.1,(((⟨#[]⟩:BA),((⟨#[]⟩:BA),())),(v.2.2.2.2.1,()))))),(false,())))) else if (v.1==(4:Int))=true then (Oi n (v.2.2.2.1.1,(v.2.2.2.1.2.1,()))).bind fun v7=>k ((v.1,((⟨#[]⟩:BA),(false,((v.2.2.2.1.1,(v.2.2.2.1.2.1,())),((0:Int),()))))),(v7,())) else if (v.1==(7:Int))=true then (Tr n v.2.1).bind fun v8=>if v8=false then if (v.2.1.toList==(⟨#[]⟩:BA).toList)=true then xX 1 (k ((v.1,(v.2.1,(false,(((⟨#[]⟩:BA),((⟨#[]⟩:BA),())),((0:Int),()))))),((v.1==(7:Int)),()))) else xX 1 (k ((v.1,(v.2.1,(false,(((⟨#[]⟩:BA),((⟨#[]⟩:BA),())),((0:Int),()))))),(false,())))
 else xX 1 (k ((v.1,(v.2.1,(false,(((⟨#[]⟩:BA),((⟨#[]⟩:BA),())),((0:Int),()))))),(true,()))) else if (v.1==(9:Int))=true then (Tr n v.2.1).bind fun v9=>if v9=false then if (v.2.1.toList==(⟨#[]⟩:BA).toList)=true then xX 1 (k ((v.1,(v.2.1,(false,(((⟨#[]⟩:BA),((⟨#[]⟩:BA),())),((0:Int),()))))),((v.1==(7:Int)),()))) else xX 1 (k ((v.1,(v.2.1,(false,(((⟨#[]⟩:BA),((⟨#[]⟩:BA),())),((0:Int),()))))),(false,()))) else xX 1 (k ((v.1,(v.2.1,(false,(((⟨#[]⟩:BA),((⟨#[]⟩:BA),())),((0:Int),()))))),(true,()))) else if (v.1==(5:Int))=true then k ((v.1,((⟨#[]⟩:BA),(false,(((⟨#[]⟩:BA),((⟨#[]⟩:BA),())),((0:Int),()))))),(true,())) else if (v.1==(6:Int))=true then k ((v.1,((⟨#[]⟩:BA),(false,(((⟨#[]⟩:BA),((⟨#[]⟩:BA),())),((0:Int),()))))),(true,())) else if (v.1==(8:Int))=true then k ((v.1,((⟨#[]⟩:BA),(false,(((⟨#[]⟩:BA),((⟨#[]⟩:BA),())),((0:Int),()))))),(true,())) else k ((v.1,((⟨#[]⟩:BA),(false,(((⟨#[]⟩:BA),((⟨#[]⟩:BA),())),((0:Int),()))))),(false,()))
def WD (n:Nat) (v:T1):Option (T1×Bool×Unit):=Ru n v some
theorem AR (n:Nat) {S:Type}:∀ v (φ:_→Option S),(WD n v).bind φ=Ru n v φ:=by
  intros;unfold WD Ru;first | (simp only [ia,ba,iB,bB,oL,oX,nB,Option.bind_some]) | rfl
def DB (n:Nat):Hint Out:={ live:=fun c=>[],run:=fun c=>none,xm:=fun c q=>none,sch:=fun c=>(cond (Nat.beq c 18) (some [(1,0),(0,1),(2,1),(3,3),(4,0),(5,0),(6,3),(7,0),(8,0),(9,0),(14,5),(10,7),(11,6),(12,6),(13,6),(15,6)]) (cond (Nat.beq c 14) (some [(1,0),(0,1),(2,1),(3,3),(4,2),(5,0)]) (cond (Nat.beq c 11) (some [(1,0),(0,1),(2,1),(3,0),(4,0),(5,1),(6,3),(7,0),(8,0),(9,0),(10,3),(11,0),(12,0),(13,0),(14,0),(18,5),(15,7),(16,6),(17,6),(19,6)]) (cond (Nat.beq c 8) (some [(0,0),(2,0),(1,1),(4,0),(5,5),(3,7),(6,6),(7,2)]) (cond (Nat.beq c 6) (some [(1,0),(0,1),(2,1),(3,3),(4,2),(5,0)]) none))))) }
theorem FK (n:Nat):ya tys (fa Out (Jw n)) (DB n) n (aa Tryz.f81) 0:=pa (fun _=>rfl) _ _ (by kernel_rfl)
theorem CN (n:Nat):Enters Tryz.prog 81:=enters_of (c:=aa Tryz.f81) Tryz.func81 (by kernel_rfl) (by kernel_rfl)
def xI (n:Nat):Entry:=⟨81,nY bX (.many aX) (fun xs=>WD n xs.1),none,none⟩
theorem NP (n:Nat):EntryOk Tryz.prog gl (xI n):=Ea (CN n) fun xs y h=>ma tys_ok (Uu n) mixed (hint:=DB n) (n:=n) Tryz.func81 (Ha (FK n)) (oa (φ:=(fun y=>some (Out.ret (Ub (.many aX) y)))) (by kernel_rfl) (AR n xs.1 _) h)
def CB (n:Nat):List Entry:=xI n::Jw n
theorem Px (n:Nat):AllOk Tryz.prog gl (CB n):=.cons (NP n) (Uu n)
def rB (n:Nat) {R:Type} (v:T1) (k:Bool→Option R):Option R:=(WD n (v.1,(v.2.1,(v.2.2.1,((v.2.2.2.1.1,(v.2.2.2.1.2.1,())),(v.2.2.2.2.1,())))))).bind fun v1=>if v1.2.1=true then k ((v1.1.1==v.1)&&((v1.1.2.1.toList==v.2.1.toList)&&((v1.1.2.2.1==v.2.2.1)&&(((v1.1.2.2.2.1.1.toList==v.2.2.2.1.1.toList)&&((v1.1.2.2.2.1.2.1.toList==v.2.2.2.1.2.1.toList)&&true))&&((v1.1.2.2.2.2.1==v.2.2.2.2.1)&&true))))) else k false
def Cg (n:Nat) (v:T1):Option Bool:=rB n v some
theorem XT (n:Nat) {S:Type}:∀ v (φ:_→Option S),(Cg n v).bind φ=rB n v φ:=by
  intros;unfold Cg rB;first | (simp only [ia,ba,iB,bB,oL,oX,nB,Option.bind_some]) | rfl
def SD (n:Nat):Hint Out:={ live:=fun c=>[],run:=fun c=>none,xm:=fun c q=>none }
theorem uN (n:Nat):ya tys (fa Out (CB n)) (SD n) n (aa Tryz.f43) 0:=pa (fun _=>rfl) _ _ (by kernel_rfl)
theorem EP (n:Nat):Enters Tryz.prog 43:=enters_of (c:=aa Tryz.f43) Tryz.func43 (by kernel_rfl) (by kernel_rfl)
def ZL (n:Nat):Entry:=⟨43,nY bX (.one .bool) (fun xs=>Cg n xs.1),none,none⟩
theorem xR (n:Nat):EntryOk Tryz.prog gl (ZL n):=Ea (EP n) fun xs y h=>ma tys_ok (Px n) mixed (hint:=SD n) (n:=n) Tryz.func43 (Ha (uN n)) (oa (φ:=(fun y=>some (Out.ret (Ub (.one .bool) y)))) (by kernel_rfl) (XT n xs.1 _) h)
def IF (n:Nat):List Entry:=ZL n::CB n
theorem sB (n:Nat):AllOk Tryz.prog gl (IF n):=.cons (xR n) (Px n)
def Mq (n:Nat) {R:Type} (s:BA) (k:(BA×Int×Unit)→Option R):Option R:=(mh n s).bind fun v=>(wb n v).bind fun v1=>if (!v1)=true then k ((⟨#[]⟩:BA),((8:Int),())) else k (v,((0:Int),()))
def eb (n:Nat) (s:BA):Option (BA×Int×Unit):=Mq n s some
theorem SI (n:Nat) {S:Type}:∀ s (φ:_→Option S),(eb n s).bind φ=Mq n s φ:=by
  intros;unfold eb Mq;first | (simp only [ia,ba,iB,bB,oL,oX,nB,Option.bind_some]) | rfl
def gq (n:Nat):Hint Out:={ live:=fun c=>[],run:=fun c=>none,xm:=fun c q=>none }
theorem YB (n:Nat):ya tys (fa Out (IF n)) (gq n) n (aa Tryz.f139) 0:=pa (fun _=>rfl) _ _ (by kernel_rfl)
theorem fE (n:Nat):Enters Tryz.prog 139:=enters_of (c:=aa Tryz.f139) Tryz.func139 (by kernel_rfl) (by kernel_rfl)
def Qw (n:Nat):Entry:=⟨139,nY (.pair .str .unit) (.many (.pair .str (.pair (.int .i64) .unit))) (fun xs=>eb n xs.1),none,none⟩
theorem kG (n:Nat):EntryOk Tryz.prog gl (Qw n):=Ea (fE n) fun xs y h=>ma tys_ok (sB n) mixed (hint:=gq n) (n:=n) Tryz.func139 (Ha (YB n)) (oa (φ:=(fun y=>some (Out.ret (Ub (.many (.pair .str (.pair (.int .i64) .unit))) y)))) (by kernel_rfl) (SI n xs.1 _) h)
def Pm (n:Nat):List Entry:=Qw n::IF n
theorem Lh (n:Nat):AllOk Tryz.prog gl (Pm n):=.cons (kG n) (sB n)
def Su (n:Nat) {R:Type} (s:BA) (k:T1→Option R) (kp:Int→Option R):Option R:=if (decide ((s.size:Int)≥(4:Int)))=true then if 0≤(4:Int)∧(4:Int)≤(s.size:Int) then (ll n (s.extract (Int.toNat (0:Int)) (Int.toNat (4:Int)))).bind fun v=>if (decide (v>(0:Int)))=true then if ((s.size:Int)==(4:Int))=false then if 0≤(4:Int)∧(4:Int)<(s.size:Int) then (Aa n ((bt s (4:Int))==(32:Int)) (3:Int)).bind fun x_1=>jY x_1 (fun p=>kp p) (fun v1=>if 0≤(4:Int)∧(4:Int)≤(s.size:Int) then (ll n (s.extract (Int.toNat (0:Int)) (Int.toNat (4:Int)))).bind fun v2=>if 0≤(4:Int)∧(4:Int)≤(s.size:Int) then if (v2==(3:Int))=true then (yc n (s.extract (Int.toNat (4:Int)) (Int.toNat (s.size:Int))) (⟨#[32,70,82,79,77,58]⟩:BA)).bind fun x_2=>jY x_2 (fun p1=>kp p1) (fun v3=>(Bf n v3).bind fun x_3=>jY x_3 (fun p2=>kp p2) (fun v4=>(Lo n v4.2.2.1).bind fun x_4=>jY x_4 (fun p3=>kp p3) (fun v5=>(Cg n (v2,((⟨#[]⟩:BA),(v4.2.1,((v4.1.1,(v4.1.2.1,())),(v5,())))))).bind fun v6=>(Aa n v6 (8:Int)).bind fun x_5=>jY x_5 (fun p4=>kp p4) (fun v7=>k (v2,((⟨#[]⟩:BA),(v4.2.1,((v4.1.1,(v4.1.2.1,())),(v5,()))))))))) else if (v2==(4:Int))=true then (yc n (s.extract (Int.toNat (4:Int)) (Int.toNat (s.size:Int))) (⟨#[32,84,79,58]⟩:BA)).bind fun x_6=>jY x_6 (fun p5=>
 kp p5) (fun v8=>(Bf n v8).bind fun x_7=>jY x_7 (fun p6=>kp p6) (fun v9=>(Aa n (v9.2.2.1.toList==(⟨#[]⟩:BA).toList) (8:Int)).bind fun x_8=>jY x_8 (fun p7=>kp p7) (fun v10=>(Cg n (v2,((⟨#[]⟩:BA),(v9.2.1,((v9.1.1,(v9.1.2.1,())),((0:Int),())))))).bind fun v11=>(Aa n v11 (8:Int)).bind fun x_9=>jY x_9 (fun p8=>kp p8) (fun v12=>k (v2,((⟨#[]⟩:BA),(v9.2.1,((v9.1.1,(v9.1.2.1,())),((0:Int),()))))))))) else if (v2==(1:Int))=true then (za n (s.extract (Int.toNat (4:Int)) (Int.toNat (s.size:Int))) (⟨#[32]⟩:BA)).bind fun v13=>(eb n v13).bind fun v14=>(Aa n (v14.2.1==(0:Int)) (8:Int)).bind fun x_10=>jY x_10 (fun p9=>kp p9) (fun v15=>(Cg n (v2,(v14.1,(false,(((⟨#[]⟩:BA),((⟨#[]⟩:BA),())),((0:Int),())))))).bind fun v16=>(Aa n v16 (8:Int)).bind fun x_11=>jY x_11 (fun p10=>kp p10) (fun v17=>k (v2,(v14.1,(false,(((⟨#[]⟩:BA),((⟨#[]⟩:BA),())),((0:Int),()))))))) else if (v2==(2:Int))=true then (za n (s.extract (Int.toNat (4:Int)) (Int.toNat (s.size:Int))) (⟨#[32]⟩:BA)).bind fun v18=>(eb n v18).bind fun v19=>(Aa n (v19.2.1==(0:Int)) (8:Int)).bind fun x_12=>jY x_12 (fun p11=>kp p11) (fun v20=>(Cg n (v2,(v19.1,(false,(((⟨#[]⟩:BA),((⟨#[]⟩:BA),())),((0:Int),())))))).bind fun v21=>
 (Aa n v21 (8:Int)).bind fun x_13=>jY x_13 (fun p12=>kp p12) (fun v22=>k (v2,(v19.1,(false,(((⟨#[]⟩:BA),((⟨#[]⟩:BA),())),((0:Int),()))))))) else (Aa n (!((s.extract (Int.toNat (4:Int)) (Int.toNat (s.size:Int))).toList==(⟨#[32]⟩:BA).toList)) (8:Int)).bind fun x_14=>jY x_14 (fun p13=>kp p13) (fun v23=>(za n (s.extract (Int.toNat (4:Int)) (Int.toNat (s.size:Int))) (⟨#[32]⟩:BA)).bind fun v24=>(Cg n (v2,(v24,(false,(((⟨#[]⟩:BA),((⟨#[]⟩:BA),())),((0:Int),())))))).bind fun v25=>(Aa n v25 (8:Int)).bind fun x_15=>jY x_15 (fun p14=>kp p14) (fun v26=>k (v2,(v24,(false,(((⟨#[]⟩:BA),((⟨#[]⟩:BA),())),((0:Int),()))))))) else none else none) else none else (Aa n true (3:Int)).bind fun x_16=>jY x_16 (fun p15=>kp p15) (fun v27=>if 0≤(4:Int)∧(4:Int)≤(s.size:Int) then (ll n (s.extract (Int.toNat (0:Int)) (Int.toNat (4:Int)))).bind fun v28=>if 0≤(4:Int)∧(4:Int)≤(s.size:Int) then if (v28==(3:Int))=true then (yc n (s.extract (Int.toNat (4:Int)) (Int.toNat (s.size:Int))) (⟨#[32,70,82,79,77,58]⟩:BA)).bind fun x_17=>jY x_17 (fun p16=>kp p16) (fun v29=>(Bf n v29).bind fun x_18=>jY x_18 (fun p17=>kp p17) (fun v30=>(Lo n v30.2.2.1).bind fun x_19=>jY x_19 (fun p18=>kp p18) (fun v31=>(Cg n (v28,((⟨#[]⟩:BA),(v30.2.1,((v30.1.1,(v30.1.2.1,())),(v31,())))))).bind fun v32=>
 (Aa n v32 (8:Int)).bind fun x_20=>jY x_20 (fun p19=>kp p19) (fun v33=>k (v28,((⟨#[]⟩:BA),(v30.2.1,((v30.1.1,(v30.1.2.1,())),(v31,()))))))))) else if (v28==(4:Int))=true then (yc n (s.extract (Int.toNat (4:Int)) (Int.toNat (s.size:Int))) (⟨#[32,84,79,58]⟩:BA)).bind fun x_21=>jY x_21 (fun p20=>kp p20) (fun v34=>(Bf n v34).bind fun x_22=>jY x_22 (fun p21=>kp p21) (fun v35=>(Aa n (v35.2.2.1.toList==(⟨#[]⟩:BA).toList) (8:Int)).bind fun x_23=>jY x_23 (fun p22=>kp p22) (fun v36=>(Cg n (v28,((⟨#[]⟩:BA),(v35.2.1,((v35.1.1,(v35.1.2.1,())),((0:Int),())))))).bind fun v37=>(Aa n v37 (8:Int)).bind fun x_24=>jY x_24 (fun p23=>kp p23) (fun v38=>k (v28,((⟨#[]⟩:BA),(v35.2.1,((v35.1.1,(v35.1.2.1,())),((0:Int),()))))))))) else if (v28==(1:Int))=true then (za n (s.extract (Int.toNat (4:Int)) (Int.toNat (s.size:Int))) (⟨#[32]⟩:BA)).bind fun v39=>(eb n v39).bind fun v40=>(Aa n (v40.2.1==(0:Int)) (8:Int)).bind fun x_25=>jY x_25 (fun p24=>kp p24) (fun v41=>(Cg n (v28,(v40.1,(false,(((⟨#[]⟩:BA),((⟨#[]⟩:BA),())),((0:Int),())))))).bind fun v42=>(Aa n v42 (8:Int)).bind fun x_26=>jY x_26 (fun p25=>kp p25) (fun v43=>k (v28,(v40.1,(false,(((⟨#[]⟩:BA),((⟨#[]⟩:BA),())),((0:Int),()))))))) else if (v28==(2:Int))=true then
 (za n (s.extract (Int.toNat (4:Int)) (Int.toNat (s.size:Int))) (⟨#[32]⟩:BA)).bind fun v44=>(eb n v44).bind fun v45=>(Aa n (v45.2.1==(0:Int)) (8:Int)).bind fun x_27=>jY x_27 (fun p26=>kp p26) (fun v46=>(Cg n (v28,(v45.1,(false,(((⟨#[]⟩:BA),((⟨#[]⟩:BA),())),((0:Int),())))))).bind fun v47=>(Aa n v47 (8:Int)).bind fun x_28=>jY x_28 (fun p27=>kp p27) (fun v48=>k (v28,(v45.1,(false,(((⟨#[]⟩:BA),((⟨#[]⟩:BA),())),((0:Int),()))))))) else (Aa n (!((s.extract (Int.toNat (4:Int)) (Int.toNat (s.size:Int))).toList==(⟨#[32]⟩:BA).toList)) (8:Int)).bind fun x_29=>jY x_29 (fun p28=>kp p28) (fun v49=>(za n (s.extract (Int.toNat (4:Int)) (Int.toNat (s.size:Int))) (⟨#[32]⟩:BA)).bind fun v50=>(Cg n (v28,(v50,(false,(((⟨#[]⟩:BA),((⟨#[]⟩:BA),())),((0:Int),())))))).bind fun v51=>(Aa n v51 (8:Int)).bind fun x_30=>jY x_30 (fun p29=>kp p29) (fun v52=>k (v28,(v50,(false,(((⟨#[]⟩:BA),((⟨#[]⟩:BA),())),((0:Int),()))))))) else none else none) else (Aa n false (3:Int)).bind fun x_31=>jY x_31 (fun p30=>kp p30) (fun v53=>if 0≤(4:Int)∧(4:Int)≤(s.size:Int) then (ll n (s.extract (Int.toNat (0:Int)) (Int.toNat (4:Int)))).bind fun v54=>if 0≤(4:Int)∧(4:Int)≤(s.size:Int) then if (v54==(3:Int))=true then
 (yc n (s.extract (Int.toNat (4:Int)) (Int.toNat (s.size:Int))) (⟨#[32,70,82,79,77,58]⟩:BA)).bind fun x_32=>jY x_32 (fun p31=>kp p31) (fun v55=>(Bf n v55).bind fun x_33=>jY x_33 (fun p32=>kp p32) (fun v56=>(Lo n v56.2.2.1).bind fun x_34=>jY x_34 (fun p33=>kp p33) (fun v57=>(Cg n (v54,((⟨#[]⟩:BA),(v56.2.1,((v56.1.1,(v56.1.2.1,())),(v57,())))))).bind fun v58=>(Aa n v58 (8:Int)).bind fun x_35=>jY x_35 (fun p34=>kp p34) (fun v59=>k (v54,((⟨#[]⟩:BA),(v56.2.1,((v56.1.1,(v56.1.2.1,())),(v57,()))))))))) else if (v54==(4:Int))=true then (yc n (s.extract (Int.toNat (4:Int)) (Int.toNat (s.size:Int))) (⟨#[32,84,79,58]⟩:BA)).bind fun x_36=>jY x_36 (fun p35=>kp p35) (fun v60=>(Bf n v60).bind fun x_37=>jY x_37 (fun p36=>kp p36) (fun v61=>(Aa n (v61.2.2.1.toList==(⟨#[]⟩:BA).toList) (8:Int)).bind fun x_38=>jY x_38 (fun p37=>kp p37) (fun v62=>(Cg n (v54,((⟨#[]⟩:BA),(v61.2.1,((v61.1.1,(v61.1.2.1,())),((0:Int),())))))).bind fun v63=>(Aa n v63 (8:Int)).bind fun x_39=>jY x_39 (fun p38=>kp p38) (fun v64=>k (v54,((⟨#[]⟩:BA),(v61.2.1,((v61.1.1,(v61.1.2.1,())),((0:Int),()))))))))) else if (v54==(1:Int))=true then (za n (s.extract (Int.toNat (4:Int)) (Int.toNat (s.size:Int))) (⟨#[32]⟩:BA)).bind fun v65=>(eb n v65).bind fun v66=>
 (Aa n (v66.2.1==(0:Int)) (8:Int)).bind fun x_40=>jY x_40 (fun p39=>kp p39) (fun v67=>(Cg n (v54,(v66.1,(false,(((⟨#[]⟩:BA),((⟨#[]⟩:BA),())),((0:Int),())))))).bind fun v68=>(Aa n v68 (8:Int)).bind fun x_41=>jY x_41 (fun p40=>kp p40) (fun v69=>k (v54,(v66.1,(false,(((⟨#[]⟩:BA),((⟨#[]⟩:BA),())),((0:Int),()))))))) else if (v54==(2:Int))=true then (za n (s.extract (Int.toNat (4:Int)) (Int.toNat (s.size:Int))) (⟨#[32]⟩:BA)).bind fun v70=>(eb n v70).bind fun v71=>(Aa n (v71.2.1==(0:Int)) (8:Int)).bind fun x_42=>jY x_42 (fun p41=>kp p41) (fun v72=>(Cg n (v54,(v71.1,(false,(((⟨#[]⟩:BA),((⟨#[]⟩:BA),())),((0:Int),())))))).bind fun v73=>(Aa n v73 (8:Int)).bind fun x_43=>jY x_43 (fun p42=>kp p42) (fun v74=>k (v54,(v71.1,(false,(((⟨#[]⟩:BA),((⟨#[]⟩:BA),())),((0:Int),()))))))) else (Aa n (!((s.extract (Int.toNat (4:Int)) (Int.toNat (s.size:Int))).toList==(⟨#[32]⟩:BA).toList)) (8:Int)).bind fun x_44=>jY x_44 (fun p43=>kp p43) (fun v75=>(za n (s.extract (Int.toNat (4:Int)) (Int.toNat (s.size:Int))) (⟨#[32]⟩:BA)).bind fun v76=>(Cg n (v54,(v76,(false,(((⟨#[]⟩:BA),((⟨#[]⟩:BA),())),((0:Int),())))))).bind fun v77=>(Aa n v77 (8:Int)).bind fun x_45=>jY x_45 (fun p44=>
 kp p44) (fun v78=>k (v54,(v76,(false,(((⟨#[]⟩:BA),((⟨#[]⟩:BA),())),((0:Int),()))))))) else none else none) else none else (Aa n false (3:Int)).bind fun x_46=>jY x_46 (fun p45=>kp p45) (fun v79=>if 0≤(4:Int)∧(4:Int)≤(s.size:Int) then (ll n (s.extract (Int.toNat (0:Int)) (Int.toNat (4:Int)))).bind fun v80=>if 0≤(4:Int)∧(4:Int)≤(s.size:Int) then if (v80==(3:Int))=true then (yc n (s.extract (Int.toNat (4:Int)) (Int.toNat (s.size:Int))) (⟨#[32,70,82,79,77,58]⟩:BA)).bind fun x_47=>jY x_47 (fun p46=>kp p46) (fun v81=>(Bf n v81).bind fun x_48=>jY x_48 (fun p47=>kp p47) (fun v82=>(Lo n v82.2.2.1).bind fun x_49=>jY x_49 (fun p48=>kp p48) (fun v83=>(Cg n (v80,((⟨#[]⟩:BA),(v82.2.1,((v82.1.1,(v82.1.2.1,())),(v83,())))))).bind fun v84=>(Aa n v84 (8:Int)).bind fun x_50=>jY x_50 (fun p49=>kp p49) (fun v85=>k (v80,((⟨#[]⟩:BA),(v82.2.1,((v82.1.1,(v82.1.2.1,())),(v83,()))))))))) else if (v80==(4:Int))=true then (yc n (s.extract (Int.toNat (4:Int)) (Int.toNat (s.size:Int))) (⟨#[32,84,79,58]⟩:BA)).bind fun x_51=>jY x_51 (fun p50=>kp p50) (fun v86=>(Bf n v86).bind fun x_52=>jY x_52 (fun p51=>kp p51) (fun v87=>(Aa n (v87.2.2.1.toList==(⟨#[]⟩:BA).toList) (8:Int)).bind fun x_53=>jY x_53 (fun p52=>kp p52) (fun v88=>(Cg n (v80,((⟨#[]⟩:BA),(v87.2.1,((v87.1.1,(v87.1.2.1,())),((0:Int),())))))).bind fun v89=>
 (Aa n v89 (8:Int)).bind fun x_54=>jY x_54 (fun p53=>kp p53) (fun v90=>k (v80,((⟨#[]⟩:BA),(v87.2.1,((v87.1.1,(v87.1.2.1,())),((0:Int),()))))))))) else if (v80==(1:Int))=true then (za n (s.extract (Int.toNat (4:Int)) (Int.toNat (s.size:Int))) (⟨#[32]⟩:BA)).bind fun v91=>(eb n v91).bind fun v92=>(Aa n (v92.2.1==(0:Int)) (8:Int)).bind fun x_55=>jY x_55 (fun p54=>kp p54) (fun v93=>(Cg n (v80,(v92.1,(false,(((⟨#[]⟩:BA),((⟨#[]⟩:BA),())),((0:Int),())))))).bind fun v94=>(Aa n v94 (8:Int)).bind fun x_56=>jY x_56 (fun p55=>kp p55) (fun v95=>k (v80,(v92.1,(false,(((⟨#[]⟩:BA),((⟨#[]⟩:BA),())),((0:Int),()))))))) else if (v80==(2:Int))=true then (za n (s.extract (Int.toNat (4:Int)) (Int.toNat (s.size:Int))) (⟨#[32]⟩:BA)).bind fun v96=>(eb n v96).bind fun v97=>(Aa n (v97.2.1==(0:Int)) (8:Int)).bind fun x_57=>jY x_57 (fun p56=>kp p56) (fun v98=>(Cg n (v80,(v97.1,(false,(((⟨#[]⟩:BA),((⟨#[]⟩:BA),())),((0:Int),())))))).bind fun v99=>(Aa n v99 (8:Int)).bind fun x_58=>jY x_58 (fun p57=>kp p57) (fun v100=>k (v80,(v97.1,(false,(((⟨#[]⟩:BA),((⟨#[]⟩:BA),())),((0:Int),()))))))) else (Aa n (!((s.extract (Int.toNat (4:Int)) (Int.toNat (s.size:Int))).toList==(⟨#[32]⟩:BA).toList)) (8:Int)).bind fun x_59=>jY x_59 (fun p58=>
 kp p58) (fun v101=>(za n (s.extract (Int.toNat (4:Int)) (Int.toNat (s.size:Int))) (⟨#[32]⟩:BA)).bind fun v102=>(Cg n (v80,(v102,(false,(((⟨#[]⟩:BA),((⟨#[]⟩:BA),())),((0:Int),())))))).bind fun v103=>(Aa n v103 (8:Int)).bind fun x_60=>jY x_60 (fun p59=>kp p59) (fun v104=>k (v80,(v102,(false,(((⟨#[]⟩:BA),((⟨#[]⟩:BA),())),((0:Int),()))))))) else none else none)
def XD (n:Nat) (s:BA):Option (Except Int T1):=Su n s (fun y=>some (.ok y)) (fun p=>some (.error p))
theorem cM (n:Nat) {S:Type}:∀ s (φ:_→Option S),(XD n s).bind φ=Su n s (fun y=>φ (.ok y)) (fun p=>φ (.error p)):=by
  intros;unfold XD Su;first | (simp only [ia,ba,iB,bB,oL,oX,nB,Option.bind_some]) | rfl
def Sr (n:Nat):Hint Out:={ live:=fun c=>[],run:=fun c=>none,xm:=fun c q=>none }
theorem GB (n:Nat):ya tys (fa Out (Pm n)) (Sr n) n (aa Tryz.f111) 0:=pa (fun _=>rfl) _ _ (by kernel_rfl)
theorem FN (n:Nat):Enters Tryz.prog 111:=enters_of (c:=aa Tryz.f111) Tryz.func111 (by kernel_rfl) (by kernel_rfl)
def AI (n:Nat):Entry:=⟨111,oY 159 (.pair .str .unit) (.one K2) (fun xs=>XD n xs.1),none,none⟩
theorem PP (n:Nat):EntryOk Tryz.prog gl (AI n):=Ut (FN n) (fun xs y h=>ma tys_ok (Lh n) mixed (hint:=Sr n) (n:=n) Tryz.func111 (Ha (GB n)) (oa (φ:=(fun r=>jY r (fun p=>some (Out.pan (ge 159 p))) fun y=>some (Out.ret (Ub (.one K2) y)))) (by kernel_rfl) (cM n xs.1 _) h)) (fun xs p h=>ma tys_ok (Lh n) mixed (hint:=Sr n) (n:=n) Tryz.func111 (Ha (GB n)) (oa (φ:=(fun r=>jY r (fun p=>some (Out.pan (ge 159 p))) fun y=>some (Out.ret (Ub (.one K2) y)))) (by kernel_rfl) (cM n xs.1 _) h))
def nl (n:Nat):List Entry:=AI n::Pm n
theorem Qx (n:Nat):AllOk Tryz.prog gl (nl n):=.cons (PP n) (Lh n)
def el (n:Nat) {R:Type} (s:BA) (k:(T1×Int×Unit)→Option R):Option R:=(XD n s).bind fun x_1=>jY x_1 (fun p=>k (((0:Int),((⟨#[]⟩:BA),(false,(((⟨#[]⟩:BA),((⟨#[]⟩:BA),())),((0:Int),()))))),(p,()))) (fun v=>k ((v.1,(v.2.1,(v.2.2.1,((v.2.2.2.1.1,(v.2.2.2.1.2.1,())),(v.2.2.2.2.1,()))))),((0:Int),())))
def Cw (n:Nat) (s:BA):Option (T1×Int×Unit):=el n s some
theorem GP (n:Nat) {S:Type}:∀ s (φ:_→Option S),(Cw n s).bind φ=el n s φ:=by
  intros;unfold Cw el;first | (simp only [ia,ba,iB,bB,oL,oX,nB,Option.bind_some]) | rfl
def Bj (n:Nat):Hint Out:={ live:=fun c=>[],run:=fun c=>none,xm:=fun c q=>none,pm:=some [(2,none),(3,none)] }
theorem nI (n:Nat):ya tys (fa Out (nl n)) (Bj n) n (Da [0] (aa Tryz.f78)) 0∧ya tys (fa Out (nl n)) (Bj n) n (Da [1,1] (aa Tryz.f78)) 0:=⟨trivial,⟨trivial,trivial⟩⟩
theorem xK (n:Nat):Enters Tryz.prog 78:=enters_of (c:=aa Tryz.f78) Tryz.func78 (by kernel_rfl) (by kernel_rfl)
theorem tB:Tryz.prog.funcs[110]?=some Tryz.f110:=by kernel_rfl
theorem mI:Enters Tryz.prog 110:=enters_of (c:=aa Tryz.f110) tB (by kernel_rfl) (by kernel_rfl)
theorem LF (n:Nat):ya tys (fa Out (nl n)) UE n (Da [1] (aa Tryz.f110)) 0:=⟨⟨trivial,⟨trivial,trivial⟩⟩,⟨trivial,⟨⟨trivial,⟨trivial,trivial⟩⟩,trivial⟩⟩⟩
theorem FP (n:Nat) (s:BA):DX tys (fa Out (nl n)) (Bj n) n 110 Tryz.f110 Tryz.f78 (SM (.pair .str .unit) (s,())) (lK fun v=>some (.ret v))=el n s (fun y=>some (.ret (Ub (.many cX) y))):=by kernel_rfl
def TD (n:Nat):Entry:=⟨78,nY (.pair .str .unit) (.many cX) (fun xs=>Cw n xs.1),none,none⟩
theorem vN (n:Nat):EntryOk Tryz.prog gl (TD n):=Ea (xK n) fun xs y h=>tD tys_ok (Qx n) mixed (hint:=Bj n) (n:=n) (fn:=Tryz.f78) (f2:=Tryz.f110) Tryz.func78 tB mI (HU (nI n)) (UR (LF n)) (oa (φ:=(fun y=>some (Out.ret (Ub (.many cX) y)))) (FP n xs.1) (GP n xs.1 _) h)
def Ew (n:Nat):List Entry:=TD n::nl n
theorem Mu (n:Nat):AllOk Tryz.prog gl (Ew n):=.cons (vN n) (Qx n)
def Gl (n:Nat) {R:Type} (c:T0) (k:U1→Option R):Option R:=if (c.2.2.2.2.1 !=(0:Int))=true then if (c.2.2.2.2.1 !=(5:Int))=true then k (c.1,(c.2.1,(c.2.2.1,(c.2.2.2.1.1,(c.2.2.2.1.2.1,((1:Int),(c.2.2.2.2.2.1,(false,((⟨#[]⟩:BA),((⟨#[]⟩:BA),((0:Int),(false,((⟨0,fun _=>ua (.pair .str (.pair .str .unit))⟩:Sq U0),((⟨0,fun _=>ua .str⟩:Sq BA),())))))))))))))) else k (c.1,(c.2.1,(c.2.2.1,(c.2.2.2.1.1,(c.2.2.2.1.2.1,(c.2.2.2.2.1,(c.2.2.2.2.2.1,(false,((⟨#[]⟩:BA),((⟨#[]⟩:BA),((0:Int),(false,((⟨0,fun _=>ua (.pair .str (.pair .str .unit))⟩:Sq U0),((⟨0,fun _=>ua .str⟩:Sq BA),())))))))))))))) else k (c.1,(c.2.1,(c.2.2.1,(c.2.2.2.1.1,(c.2.2.2.1.2.1,(c.2.2.2.2.1,(c.2.2.2.2.2.1,(false,((⟨#[]⟩:BA),((⟨#[]⟩:BA),((0:Int),(false,((⟨0,fun _=>ua (.pair .str (.pair .str .unit))⟩:Sq U0),((⟨0,fun _=>ua .str⟩:Sq BA),()))))))))))))))
def Ad (n:Nat) (c:T0):Option U1:=Gl n c some
theorem kJ (n:Nat) {S:Type}:∀ c (φ:_→Option S),(Ad n c).bind φ=Gl n c φ:=by
  intros;unfold Ad Gl;first | (simp only [ia,ba,iB,bB,oL,oX,nB,Option.bind_some]) | rfl
def nq (n:Nat):Hint OutS:={ live:=fun c=>[],run:=fun c=>none,xm:=fun c q=>none,pr:=[(0,10,47),(0,11,9)] }
theorem lC (n:Nat):ya tys (fa OutS (Ew n)).keep (nq n) n (aa Tryz.f46) 0:=pa (fun _=>rfl) _ _ (by kernel_rfl)
theorem uE (n:Nat):Enters Tryz.prog 46:=enters_of (c:=aa Tryz.f46) Tryz.func46 (by kernel_rfl) (by kernel_rfl)
def dx:List RSp:=[.one (.dat K0)]
def cx:List RS:=[]
def vE:List Sl:=[.top]
def wE:List RSp:=[.agg [.dat (.int .i64),.dat (.int .i64),.dat (.int .i64),.dat .str,.dat .bool,.dat (.int .i64),.dat .str,.dat .bool,.dat .str,.dat .str,.row 0,.row 1,.dat (.int .i64),.dat .bool]]
def ph:List RS:=[.row 47 2 (.pair .str (.pair .str .unit)) true true,.row 9 1 .str true true]
def Wq (y:U1):OutS:=⟨false,Nm (Je ph (y.2.2.2.2.2.2.2.2.2.2.2.2.1,(y.2.2.2.2.2.2.2.2.2.2.2.2.2.1,()))) vE (),RD (GC (Je ph (y.2.2.2.2.2.2.2.2.2.2.2.2.1,(y.2.2.2.2.2.2.2.2.2.2.2.2.2.1,()))) wE ((y.1,(y.2.1,(y.2.2.1,(y.2.2.2.1,(y.2.2.2.2.1,(y.2.2.2.2.2.1,(y.2.2.2.2.2.2.1,(y.2.2.2.2.2.2.2.1,(y.2.2.2.2.2.2.2.2.1,(y.2.2.2.2.2.2.2.2.2.1,(y.2.2.2.2.2.2.2.2.2.2.1,(y.2.2.2.2.2.2.2.2.2.2.2.1,())))))))))))),())),It (Je ph (y.2.2.2.2.2.2.2.2.2.2.2.2.1,(y.2.2.2.2.2.2.2.2.2.2.2.2.2.1,()))) ph (y.2.2.2.2.2.2.2.2.2.2.2.2.1,(y.2.2.2.2.2.2.2.2.2.2.2.2.2.1,()))⟩
theorem EG (n:Nat):EntryOk Tryz.prog gl ⟨46,Vj,none,some (tX dx cx (fun σ ρ=>Ad n σ.1.1) Wq)⟩:=ai (uE n) fun σ ρ y h=>Vq tys_ok (Mu n) mixed (hint:=nq n) (n:=n) Tryz.func46 (Ha (lC n)) (oa (φ:=fun y=>some (Wq y)) (by kernel_rfl) (kJ n σ.1.1 _) h)
def an (n:Nat):List Entry:=⟨46,Vj,none,some (tX dx cx (fun σ ρ=>Ad n σ.1.1) Wq)⟩::Ew n
theorem bn (n:Nat):AllOk Tryz.prog gl (an n):=.cons (EG n) (Mu n)
def Hv (n:Nat) {R:Type} (c:T0) (v:T1) (k:(Int×BA×Unit)→Option R):Option R:=if (c.2.2.2.2.1 !=(2:Int))=true then if (c.2.2.2.2.1 !=(3:Int))=true then k ((503:Int),((⟨#[]⟩:BA),())) else if ((c.2.2.2.2.2.2.2.2.1.n:Int)==(8:Int))=true then k ((452:Int),((⟨#[]⟩:BA),())) else (rY n c.2.2.2.2.2.2.2.2.1 v.2.2.2.1).bind fun v1=>if v1=true then k ((250:Int),((⟨#[]⟩:BA),())) else k ((0:Int),((⟨#[114,99,112,116]⟩:BA),())) else if ((c.2.2.2.2.2.2.2.2.1.n:Int)==(8:Int))=true then k ((452:Int),((⟨#[]⟩:BA),())) else (rY n c.2.2.2.2.2.2.2.2.1 v.2.2.2.1).bind fun v2=>if v2=true then k ((250:Int),((⟨#[]⟩:BA),())) else k ((0:Int),((⟨#[114,99,112,116]⟩:BA),()))
def Bt (n:Nat) (c:T0) (v:T1):Option (Int×BA×Unit):=Hv n c v some
theorem GM (n:Nat) {S:Type}:∀ c v (φ:_→Option S),(Bt n c v).bind φ=Hv n c v φ:=by
  intros;unfold Bt Hv;first | (simp only [ia,ba,iB,bB,oL,oX,nB,Option.bind_some]) | rfl
def Ct (n:Nat):Hint Out:={ live:=fun c=>[],run:=fun c=>none,xm:=fun c q=>none }
theorem IE (n:Nat):ya tys (fa Out (an n)) (Ct n) n (aa Tryz.f112) 0:=pa (fun _=>rfl) _ _ (by kernel_rfl)
theorem VG (n:Nat):Enters Tryz.prog 112:=enters_of (c:=aa Tryz.f112) Tryz.func112 (by kernel_rfl) (by kernel_rfl)
def Zz (n:Nat):Entry:=⟨112,nY dX (.many (.pair (.int .i64) (.pair .str .unit))) (fun xs=>Bt n xs.1 xs.2.1),none,none⟩
theorem uJ (n:Nat):EntryOk Tryz.prog gl (Zz n):=Ea (VG n) fun xs y h=>ma tys_ok (bn n) mixed (hint:=Ct n) (n:=n) Tryz.func112 (Ha (IE n)) (oa (φ:=(fun y=>some (Out.ret (Ub (.many (.pair (.int .i64) (.pair .str .unit))) y)))) (by kernel_rfl) (GM n xs.1 xs.2.1 _) h)
def dr (n:Nat):List Entry:=Zz n::an n
theorem qq (n:Nat):AllOk Tryz.prog gl (dr n):=.cons (uJ n) (bn n)
def sn (n:Nat) {R:Type} (c:T0) (v:T1) (k:(T0×Int×BA×Unit)→Option R):Option R:=if (v.1==(1:Int))=true then (Fe n v.2.1).bind fun v1=>if (!v1)=true then k (c,((501:Int),((⟨#[]⟩:BA),()))) else (Ad n (c.1,(c.2.1,(c.2.2.1,(c.2.2.2.1,((1:Int),(v.2.1,c.2.2.2.2.2.2))))))).bind fun v2=>k ((v2.1,(v2.2.1,(v2.2.2.1,((v2.2.2.2.1,(v2.2.2.2.2.1,())),(v2.2.2.2.2.2.1,(v2.2.2.2.2.2.2.1,(v2.2.2.2.2.2.2.2.1,((v2.2.2.2.2.2.2.2.2.1,(v2.2.2.2.2.2.2.2.2.2.1,())),(v2.2.2.2.2.2.2.2.2.2.2.2.2.1,(v2.2.2.2.2.2.2.2.2.2.2.2.2.2.1,(v2.2.2.2.2.2.2.2.2.2.2.1,(v2.2.2.2.2.2.2.2.2.2.2.2.1,())))))))))))),((250:Int),((⟨#[]⟩:BA),()))) else if (v.1==(2:Int))=true then (Fe n v.2.1).bind fun v3=>if (!v3)=true then k (c,((501:Int),((⟨#[]⟩:BA),()))) else (Ad n (c.1,(c.2.1,(c.2.2.1,(c.2.2.2.1,((1:Int),(v.2.1,c.2.2.2.2.2.2))))))).bind fun v4=>k ((v4.1,(v4.2.1,(v4.2.2.1,((v4.2.2.2.1,(v4.2.2.2.2.1,())),(v4.2.2.2.2.2.1,(v4.2.2.2.2.2.2.1,(v4.2.2.2.2.2.2.2.1,((v4.2.2.2.2.2.2.2.2.1,(v4.2.2.2.2.2.2.2.2.2.1,())),(v4.2.2.2.2.2.2.2.2.2.2.2.2.1,(v4.2.2.2.2.2.2.2.2.2.2.2.2.2.1,(v4.2.2.2.2.2.2.2.2.2.2.1,(v4.2.2.2.2.2.2.2.2.2.2.2.1,())))))))))))),((250:Int),((⟨#[]⟩:BA),()))) else if (v.1==(6:Int))=true then (Ad n c).bind fun v5=>k ((v5.1,(v5.2.1,(v5.2.2.1,((v5.2.2.2.1,(v5.2.2.2.2.1,())),(v5.2.2.2.2.2.1,(v5.2.2.2.2.2.2.1,(v5.2.2.2.2.2.2.2.1,((v5.2.2.2.2.2.2.2.2.1,(v5.2.2.2.2.2.2.2.2.2.1,())),(v5.2.2.2.2.2.2.2.2.2.2.2.2.1,(v5.2.2.2.2.2.2.2.2.2.2.2.2.2.1,(v5.2.2.2.2.2.2.2.2.2.2.1,(v5.2.2.2.2.2.2.2.2.2.2.2.1,())))))))))))),((250:Int),((⟨#[]⟩:BA),())))
 else if (v.1==(7:Int))=true then k (c,((250:Int),((⟨#[]⟩:BA),()))) else if (v.1==(9:Int))=true then k (c,((252:Int),((⟨#[]⟩:BA),()))) else if (v.1==(8:Int))=true then (Ad n c).bind fun v6=>k ((v6.1,(v6.2.1,(v6.2.2.1,((v6.2.2.2.1,(v6.2.2.2.2.1,())),((5:Int),(v6.2.2.2.2.2.2.1,(v6.2.2.2.2.2.2.2.1,((v6.2.2.2.2.2.2.2.2.1,(v6.2.2.2.2.2.2.2.2.2.1,())),(v6.2.2.2.2.2.2.2.2.2.2.2.2.1,(v6.2.2.2.2.2.2.2.2.2.2.2.2.2.1,(v6.2.2.2.2.2.2.2.2.2.2.1,(v6.2.2.2.2.2.2.2.2.2.2.2.1,())))))))))))),((221:Int),((⟨#[]⟩:BA),()))) else if (v.1==(4:Int))=true then (Bt n c v).bind fun v7=>k (c,(v7.1,(v7.2.1,()))) else if (v.1==(5:Int))=true then if (c.2.2.2.2.1 !=(3:Int))=true then k (c,((503:Int),((⟨#[]⟩:BA),()))) else k ((c.1,(c.2.1,(c.2.2.1,(c.2.2.2.1,((4:Int),c.2.2.2.2.2))))),((354:Int),((⟨#[]⟩:BA),()))) else if (c.2.2.2.2.1 !=(1:Int))=true then k (c,((503:Int),((⟨#[]⟩:BA),()))) else if (decide (v.2.2.2.2.1>(8192:Int)))=true then k (c,((552:Int),((⟨#[]⟩:BA),()))) else k (c,((0:Int),((⟨#[109,97,105,108]⟩:BA),())))
def Cv (n:Nat) (c:T0) (v:T1):Option (T0×Int×BA×Unit):=sn n c v some
theorem SG (n:Nat) {S:Type}:∀ c v (φ:_→Option S),(Cv n c v).bind φ=sn n c v φ:=by
  intros;unfold Cv sn;first | (simp only [ia,ba,iB,bB,oL,oX,nB,Option.bind_some]) | rfl
def tn (n:Nat):Hint Out:={ live:=fun c=>[],run:=fun c=>none,xm:=fun c q=>none }
theorem Wz (n:Nat):ya tys (fa Out (dr n)) (tn n) n (aa Tryz.f79) 0:=pa (fun _=>rfl) _ _ (by kernel_rfl)
theorem sC (n:Nat):Enters Tryz.prog 79:=enters_of (c:=aa Tryz.f79) Tryz.func79 (by kernel_rfl) (by kernel_rfl)
def tt (n:Nat):Entry:=⟨79,nY dX (.many eX) (fun xs=>Cv n xs.1 xs.2.1),none,none⟩
theorem GE (n:Nat):EntryOk Tryz.prog gl (tt n):=Ea (sC n) fun xs y h=>ma tys_ok (qq n) mixed (hint:=tn n) (n:=n) Tryz.func79 (Ha (Wz n)) (oa (φ:=(fun y=>some (Out.ret (Ub (.many eX) y)))) (by kernel_rfl) (SG n xs.1 xs.2.1 _) h)
def Kl (n:Nat):List Entry:=tt n::dr n
theorem vm (n:Nat):AllOk Tryz.prog gl (Kl n):=.cons (GE n) (qq n)
def Xq (n:Nat) {R:Type} (c c1 c2:Int) (c3:BA) (c4:Bool) (c5:Int) (c6:BA) (c7:Bool) (c8 c9:BA) (c10:Int) (c11:Bool) (r0:(Sq U0)) (r1:(Sq BA)) (k:U1→Option R):Option R:=if (c5 !=(0:Int))=true then if (c5 !=(5:Int))=true then k (c,(c1,(c2,(c3,(c4,((1:Int),(c6,(false,((⟨#[]⟩:BA),((⟨#[]⟩:BA),((0:Int),(false,((⟨0,fun _=>ua (.pair .str (.pair .str .unit))⟩:Sq U0),((⟨0,fun _=>ua .str⟩:Sq BA),())))))))))))))) else k (c,(c1,(c2,(c3,(c4,(c5,(c6,(false,((⟨#[]⟩:BA),((⟨#[]⟩:BA),((0:Int),(false,((⟨0,fun _=>ua (.pair .str (.pair .str .unit))⟩:Sq U0),((⟨0,fun _=>ua .str⟩:Sq BA),())))))))))))))) else k (c,(c1,(c2,(c3,(c4,(c5,(c6,(false,((⟨#[]⟩:BA),((⟨#[]⟩:BA),((0:Int),(false,((⟨0,fun _=>ua (.pair .str (.pair .str .unit))⟩:Sq U0),((⟨0,fun _=>ua .str⟩:Sq BA),()))))))))))))))
def ug (n:Nat) (c c1 c2:Int) (c3:BA) (c4:Bool) (c5:Int) (c6:BA) (c7:Bool) (c8 c9:BA) (c10:Int) (c11:Bool) (r0:(Sq U0)) (r1:(Sq BA)):Option U1:=Xq n c c1 c2 c3 c4 c5 c6 c7 c8 c9 c10 c11 r0 r1 some
theorem lJ (n:Nat) {S:Type}:∀ c c1 c2 c3 c4 c5 c6 c7 c8 c9 c10 c11 r0 r1 (φ:_→Option S),(ug n c c1 c2 c3 c4 c5 c6 c7 c8 c9 c10 c11 r0 r1).bind φ=Xq n c c1 c2 c3 c4 c5 c6 c7 c8 c9 c10 c11 r0 r1 φ:=by
  intros;unfold ug Xq;first | (simp only [ia,ba,iB,bB,oL,oX,nB,Option.bind_some]) | rfl
def oq (n:Nat):Hint OutS:={ live:=fun c=>[],run:=fun c=>none,xm:=fun c q=>none,pr:=[(0,10,47),(0,11,9)] }
theorem mC (n:Nat):ya tys (fa OutS (Kl n)).keep (oq n) n (aa Tryz.f46) 0:=pa (fun _=>rfl) _ _ (by kernel_rfl)
theorem xE (n:Nat):Enters Tryz.prog 46:=enters_of (c:=aa Tryz.f46) Tryz.func46 (by kernel_rfl) (by kernel_rfl)
def gx:List RSp:=[.agg [.dat (.int .i64),.dat (.int .i64),.dat (.int .i64),.dat .str,.dat .bool,.dat (.int .i64),.dat .str,.dat .bool,.dat .str,.dat .str,.row 0,.row 1,.dat (.int .i64),.dat .bool]]
def fx:List RS:=[.row 47 2 (.pair .str (.pair .str .unit)) true true,.row 9 1 .str true true]
def yE:List Sl:=[.top]
def zE:List RSp:=[.agg [.dat (.int .i64),.dat (.int .i64),.dat (.int .i64),.dat .str,.dat .bool,.dat (.int .i64),.dat .str,.dat .bool,.dat .str,.dat .str,.row 0,.row 1,.dat (.int .i64),.dat .bool]]
def qh:List RS:=[.row 47 2 (.pair .str (.pair .str .unit)) true true,.row 9 1 .str true true]
def Yq (y:U1):OutS:=⟨false,Nm (Je qh (y.2.2.2.2.2.2.2.2.2.2.2.2.1,(y.2.2.2.2.2.2.2.2.2.2.2.2.2.1,()))) yE (),RD (GC (Je qh (y.2.2.2.2.2.2.2.2.2.2.2.2.1,(y.2.2.2.2.2.2.2.2.2.2.2.2.2.1,()))) zE ((y.1,(y.2.1,(y.2.2.1,(y.2.2.2.1,(y.2.2.2.2.1,(y.2.2.2.2.2.1,(y.2.2.2.2.2.2.1,(y.2.2.2.2.2.2.2.1,(y.2.2.2.2.2.2.2.2.1,(y.2.2.2.2.2.2.2.2.2.1,(y.2.2.2.2.2.2.2.2.2.2.1,(y.2.2.2.2.2.2.2.2.2.2.2.1,())))))))))))),())),It (Je qh (y.2.2.2.2.2.2.2.2.2.2.2.2.1,(y.2.2.2.2.2.2.2.2.2.2.2.2.2.1,()))) qh (y.2.2.2.2.2.2.2.2.2.2.2.2.1,(y.2.2.2.2.2.2.2.2.2.2.2.2.2.1,()))⟩
theorem GG (n:Nat):EntryOk Tryz.prog gl ⟨46,Vj,none,some (tX gx fx (fun σ ρ=>ug n σ.1.1 σ.1.2.1 σ.1.2.2.1 σ.1.2.2.2.1 σ.1.2.2.2.2.1 σ.1.2.2.2.2.2.1 σ.1.2.2.2.2.2.2.1 σ.1.2.2.2.2.2.2.2.1 σ.1.2.2.2.2.2.2.2.2.1 σ.1.2.2.2.2.2.2.2.2.2.1 σ.1.2.2.2.2.2.2.2.2.2.2.1 σ.1.2.2.2.2.2.2.2.2.2.2.2.1 ρ.1 ρ.2.1) Yq)⟩:=ai (xE n) fun σ ρ y h=>Vq tys_ok (vm n) mixed (hint:=oq n) (n:=n) Tryz.func46 (Ha (mC n)) (oa (φ:=fun y=>some (Yq y)) (by kernel_rfl) (lJ n σ.1.1 σ.1.2.1 σ.1.2.2.1 σ.1.2.2.2.1 σ.1.2.2.2.2.1 σ.1.2.2.2.2.2.1 σ.1.2.2.2.2.2.2.1 σ.1.2.2.2.2.2.2.2.1 σ.1.2.2.2.2.2.2.2.2.1 σ.1.2.2.2.2.2.2.2.2.2.1 σ.1.2.2.2.2.2.2.2.2.2.2.1 σ.1.2.2.2.2.2.2.2.2.2.2.2.1 ρ.1 ρ.2.1 _) h)
def dn (n:Nat):List Entry:=⟨46,Vj,none,some (tX gx fx (fun σ ρ=>ug n σ.1.1 σ.1.2.1 σ.1.2.2.1 σ.1.2.2.2.1 σ.1.2.2.2.2.1 σ.1.2.2.2.2.2.1 σ.1.2.2.2.2.2.2.1 σ.1.2.2.2.2.2.2.2.1 σ.1.2.2.2.2.2.2.2.2.1 σ.1.2.2.2.2.2.2.2.2.2.1 σ.1.2.2.2.2.2.2.2.2.2.2.1 σ.1.2.2.2.2.2.2.2.2.2.2.2.1 ρ.1 ρ.2.1) Yq)⟩::Kl n
theorem en (n:Nat):AllOk Tryz.prog gl (dn n):=.cons (GG n) (vm n)
def Th (n:Nat) {R:Type} (c c1 c2:Int) (c3:BA) (c4:Bool) (c5:Int) (c6:BA) (c7:Bool) (c8 c9:BA) (c10:Int) (c11:Bool) (v:T1) (r0:(Sq U0)) (r1:(Sq BA)) (k:(T0×Int×BA×Unit)→Option R):Option R:=if (v.1==(1:Int))=true then (Fe n v.2.1).bind fun v1=>if (!v1)=true then k ((c,(c1,(c2,((c3,(c4,())),(c5,(c6,(c7,((c8,(c9,())),(r0,(r1,(c10,(c11,())))))))))))),((501:Int),((⟨#[]⟩:BA),()))) else (ug n c c1 c2 c3 c4 (1:Int) v.2.1 c7 c8 c9 c10 c11 r0 r1).bind fun v2=>k ((v2.1,(v2.2.1,(v2.2.2.1,((v2.2.2.2.1,(v2.2.2.2.2.1,())),(v2.2.2.2.2.2.1,(v2.2.2.2.2.2.2.1,(v2.2.2.2.2.2.2.2.1,((v2.2.2.2.2.2.2.2.2.1,(v2.2.2.2.2.2.2.2.2.2.1,())),(v2.2.2.2.2.2.2.2.2.2.2.2.2.1,(v2.2.2.2.2.2.2.2.2.2.2.2.2.2.1,(v2.2.2.2.2.2.2.2.2.2.2.1,(v2.2.2.2.2.2.2.2.2.2.2.2.1,())))))))))))),((250:Int),((⟨#[]⟩:BA),()))) else if (v.1==(2:Int))=true then (Fe n v.2.1).bind fun v3=>if (!v3)=true then k ((c,(c1,(c2,((c3,(c4,())),(c5,(c6,(c7,((c8,(c9,())),(r0,(r1,(c10,(c11,())))))))))))),((501:Int),((⟨#[]⟩:BA),()))) else (ug n c c1 c2 c3 c4 (1:Int) v.2.1 c7 c8 c9 c10 c11 r0 r1).bind fun v4=>k ((v4.1,(v4.2.1,(v4.2.2.1,((v4.2.2.2.1,(v4.2.2.2.2.1,())),(v4.2.2.2.2.2.1,(v4.2.2.2.2.2.2.1,(v4.2.2.2.2.2.2.2.1,((v4.2.2.2.2.2.2.2.2.1,(v4.2.2.2.2.2.2.2.2.2.1,())),(v4.2.2.2.2.2.2.2.2.2.2.2.2.1,(v4.2.2.2.2.2.2.2.2.2.2.2.2.2.1,(v4.2.2.2.2.2.2.2.2.2.2.1,(v4.2.2.2.2.2.2.2.2.2.2.2.1,())))))))))))),((250:Int),((⟨#[]⟩:BA),())))
 else if (v.1==(6:Int))=true then (ug n c c1 c2 c3 c4 c5 c6 c7 c8 c9 c10 c11 r0 r1).bind fun v5=>k ((v5.1,(v5.2.1,(v5.2.2.1,((v5.2.2.2.1,(v5.2.2.2.2.1,())),(v5.2.2.2.2.2.1,(v5.2.2.2.2.2.2.1,(v5.2.2.2.2.2.2.2.1,((v5.2.2.2.2.2.2.2.2.1,(v5.2.2.2.2.2.2.2.2.2.1,())),(v5.2.2.2.2.2.2.2.2.2.2.2.2.1,(v5.2.2.2.2.2.2.2.2.2.2.2.2.2.1,(v5.2.2.2.2.2.2.2.2.2.2.1,(v5.2.2.2.2.2.2.2.2.2.2.2.1,())))))))))))),((250:Int),((⟨#[]⟩:BA),()))) else if (v.1==(7:Int))=true then k ((c,(c1,(c2,((c3,(c4,())),(c5,(c6,(c7,((c8,(c9,())),(r0,(r1,(c10,(c11,())))))))))))),((250:Int),((⟨#[]⟩:BA),()))) else if (v.1==(9:Int))=true then k ((c,(c1,(c2,((c3,(c4,())),(c5,(c6,(c7,((c8,(c9,())),(r0,(r1,(c10,(c11,())))))))))))),((252:Int),((⟨#[]⟩:BA),()))) else if (v.1==(8:Int))=true then (ug n c c1 c2 c3 c4 c5 c6 c7 c8 c9 c10 c11 r0 r1).bind fun v6=>k ((v6.1,(v6.2.1,(v6.2.2.1,((v6.2.2.2.1,(v6.2.2.2.2.1,())),((5:Int),(v6.2.2.2.2.2.2.1,(v6.2.2.2.2.2.2.2.1,((v6.2.2.2.2.2.2.2.2.1,(v6.2.2.2.2.2.2.2.2.2.1,())),(v6.2.2.2.2.2.2.2.2.2.2.2.2.1,(v6.2.2.2.2.2.2.2.2.2.2.2.2.2.1,(v6.2.2.2.2.2.2.2.2.2.2.1,(v6.2.2.2.2.2.2.2.2.2.2.2.1,())))))))))))),((221:Int),((⟨#[]⟩:BA),()))) else if (v.1==(4:Int))=true then (Bt n (c,(c1,(c2,((c3,(c4,())),(c5,(c6,(c7,((c8,(c9,())),(r0,(r1,(c10,(c11,())))))))))))) v).bind fun v7=>k ((c,(c1,(c2,((c3,(c4,())),(c5,(c6,(c7,((c8,(c9,())),(r0,(r1,(c10,(c11,())))))))))))),(v7.1,(v7.2.1,())))
 else if (v.1==(5:Int))=true then if (c5 !=(3:Int))=true then k ((c,(c1,(c2,((c3,(c4,())),(c5,(c6,(c7,((c8,(c9,())),(r0,(r1,(c10,(c11,())))))))))))),((503:Int),((⟨#[]⟩:BA),()))) else k ((c,(c1,(c2,((c3,(c4,())),((4:Int),(c6,(c7,((c8,(c9,())),(r0,(r1,(c10,(c11,())))))))))))),((354:Int),((⟨#[]⟩:BA),()))) else if (c5 !=(1:Int))=true then k ((c,(c1,(c2,((c3,(c4,())),(c5,(c6,(c7,((c8,(c9,())),(r0,(r1,(c10,(c11,())))))))))))),((503:Int),((⟨#[]⟩:BA),()))) else if (decide (v.2.2.2.2.1>(8192:Int)))=true then k ((c,(c1,(c2,((c3,(c4,())),(c5,(c6,(c7,((c8,(c9,())),(r0,(r1,(c10,(c11,())))))))))))),((552:Int),((⟨#[]⟩:BA),()))) else k ((c,(c1,(c2,((c3,(c4,())),(c5,(c6,(c7,((c8,(c9,())),(r0,(r1,(c10,(c11,())))))))))))),((0:Int),((⟨#[109,97,105,108]⟩:BA),())))
def Vd (n:Nat) (c c1 c2:Int) (c3:BA) (c4:Bool) (c5:Int) (c6:BA) (c7:Bool) (c8 c9:BA) (c10:Int) (c11:Bool) (v:T1) (r0:(Sq U0)) (r1:(Sq BA)):Option (T0×Int×BA×Unit):=Th n c c1 c2 c3 c4 c5 c6 c7 c8 c9 c10 c11 v r0 r1 some
theorem Xz (n:Nat) {S:Type}:∀ c c1 c2 c3 c4 c5 c6 c7 c8 c9 c10 c11 v r0 r1 (φ:_→Option S),(Vd n c c1 c2 c3 c4 c5 c6 c7 c8 c9 c10 c11 v r0 r1).bind φ=Th n c c1 c2 c3 c4 c5 c6 c7 c8 c9 c10 c11 v r0 r1 φ:=by
  intros;unfold Vd Th;first | (simp only [ia,ba,iB,bB,oL,oX,nB,Option.bind_some]) | rfl
def Ui (n:Nat):Hint OutS:={ live:=fun c=>[],run:=fun c=>none,xm:=fun c q=>none,fz:=true }
theorem ut (n:Nat):ya tys (fa OutS (dn n)) (Ui n) n (aa Tryz.f79) 0:=pa (fun _=>rfl) _ _ (by kernel_rfl)
theorem Dv (n:Nat):Enters Tryz.prog 79:=enters_of (c:=aa Tryz.f79) Tryz.func79 (by kernel_rfl) (by kernel_rfl)
def ym:List RSp:=[.agg [.dat (.int .i64),.dat (.int .i64),.dat (.int .i64),.dat .str,.dat .bool,.dat (.int .i64),.dat .str,.dat .bool,.dat .str,.dat .str,.row 0,.row 1,.dat (.int .i64),.dat .bool],.one (.dat K2)]
def wm:List RS:=[.row 47 2 (.pair .str (.pair .str .unit)) true true,.row 9 1 .str true true]
def Ev:List Sl:=[.top,.top]
def Fv:List RSp:=[.one (.dat K0),.one (.dat (.int .i64)),.one (.dat .str)]
def Wd:List RS:=[]
def Uh (y:(T0×Int×BA×Unit)):OutS:=⟨false,Nm (Je Wd ()) Ev (),RD (GC (Je Wd ()) Fv ((y.1,()),((y.2.1,()),((y.2.2.1,()),())))),It (Je Wd ()) Wd ()⟩
theorem Zx (n:Nat):EntryOk Tryz.prog gl ⟨79,Vj,none,some (tX ym wm (fun σ ρ=>Vd n σ.1.1 σ.1.2.1 σ.1.2.2.1 σ.1.2.2.2.1 σ.1.2.2.2.2.1 σ.1.2.2.2.2.2.1 σ.1.2.2.2.2.2.2.1 σ.1.2.2.2.2.2.2.2.1 σ.1.2.2.2.2.2.2.2.2.1 σ.1.2.2.2.2.2.2.2.2.2.1 σ.1.2.2.2.2.2.2.2.2.2.2.1 σ.1.2.2.2.2.2.2.2.2.2.2.2.1 σ.2.1.1 ρ.1 ρ.2.1) Uh)⟩:=ai (Dv n) fun σ ρ y h=>nc tys_ok (en n) mixed (hint:=Ui n) (n:=n) Tryz.func79 (Ha (ut n)) (oa (φ:=fun y=>some (Uh y)) (by kernel_rfl) (Xz n σ.1.1 σ.1.2.1 σ.1.2.2.1 σ.1.2.2.2.1 σ.1.2.2.2.2.1 σ.1.2.2.2.2.2.1 σ.1.2.2.2.2.2.2.1 σ.1.2.2.2.2.2.2.2.1 σ.1.2.2.2.2.2.2.2.2.1 σ.1.2.2.2.2.2.2.2.2.2.1 σ.1.2.2.2.2.2.2.2.2.2.2.1 σ.1.2.2.2.2.2.2.2.2.2.2.2.1 σ.2.1.1 ρ.1 ρ.2.1 _) h)
def Jg (n:Nat):List Entry:=⟨79,Vj,none,some (tX ym wm (fun σ ρ=>Vd n σ.1.1 σ.1.2.1 σ.1.2.2.1 σ.1.2.2.2.1 σ.1.2.2.2.2.1 σ.1.2.2.2.2.2.1 σ.1.2.2.2.2.2.2.1 σ.1.2.2.2.2.2.2.2.1 σ.1.2.2.2.2.2.2.2.2.1 σ.1.2.2.2.2.2.2.2.2.2.1 σ.1.2.2.2.2.2.2.2.2.2.2.1 σ.1.2.2.2.2.2.2.2.2.2.2.2.1 σ.2.1.1 ρ.1 ρ.2.1) Uh)⟩::dn n
theorem Vh (n:Nat):AllOk Tryz.prog gl (Jg n):=.cons (Zx n) (en n)
def Bd (n:Nat) {R:Type} (c c1 c2:Int) (c3:BA) (c4:Bool) (c5:Int) (c6:BA) (c7:Bool) (c8 c9:BA) (c10:Int) (c11:Bool) (l:U6) (r0:(Sq U0)) (r1:(Sq BA)) (k:(T0×Int×BA×T1×Unit)→Option R):Option R:=if (c5==(4:Int))=true then (Kb n c c1 c2 c3 c4 c5 c6 c7 c8 c9 c10 c11 l r0 r1).bind fun v=>xX 1 (k (v.1,((0:Int),(v.2.1,(((0:Int),((⟨#[]⟩:BA),(false,(((⟨#[]⟩:BA),((⟨#[]⟩:BA),())),((0:Int),()))))),()))))) else if l.2.1=true then xX 1 (k ((c,(c1,(c2,((c3,(c4,())),(c5,(c6,(c7,((c8,(c9,())),(r0,(r1,(c10,(c11,())))))))))))),((500:Int),((⟨#[]⟩:BA),(((0:Int),((⟨#[]⟩:BA),(false,(((⟨#[]⟩:BA),((⟨#[]⟩:BA),())),((0:Int),()))))),()))))) else (Cw n l.1).bind fun v1=>if (v1.2.1==(0:Int))=true then (Vd n c c1 c2 c3 c4 c5 c6 c7 c8 c9 c10 c11 v1.1 r0 r1).bind fun v2=>xX 1 (k (v2.1,(v2.2.1,(v2.2.2.1,(v1.1,()))))) else if (v1.2.1==(3:Int))=true then xX 1 (k ((c,(c1,(c2,((c3,(c4,())),(c5,(c6,(c7,((c8,(c9,())),(r0,(r1,(c10,(c11,())))))))))))),((500:Int),((⟨#[]⟩:BA),(v1.1,()))))) else xX 1 (k ((c,(c1,(c2,((c3,(c4,())),(c5,(c6,(c7,((c8,(c9,())),(r0,(r1,(c10,(c11,())))))))))))),((501:Int),((⟨#[]⟩:BA),(v1.1,())))))
def qc (n:Nat) (c c1 c2:Int) (c3:BA) (c4:Bool) (c5:Int) (c6:BA) (c7:Bool) (c8 c9:BA) (c10:Int) (c11:Bool) (l:U6) (r0:(Sq U0)) (r1:(Sq BA)):Option (T0×Int×BA×T1×Unit):=Bd n c c1 c2 c3 c4 c5 c6 c7 c8 c9 c10 c11 l r0 r1 some
theorem HG (n:Nat) {S:Type}:∀ c c1 c2 c3 c4 c5 c6 c7 c8 c9 c10 c11 l r0 r1 (φ:_→Option S),(qc n c c1 c2 c3 c4 c5 c6 c7 c8 c9 c10 c11 l r0 r1).bind φ=Bd n c c1 c2 c3 c4 c5 c6 c7 c8 c9 c10 c11 l r0 r1 φ:=by
  intros;unfold qc Bd;first | (simp only [ia,ba,iB,bB,oL,oX,nB,Option.bind_some]) | rfl
def qn (n:Nat):Hint OutS:={ live:=fun c=>[],run:=fun c=>none,xm:=fun c q=>none,sch:=fun c=>(cond (Nat.beq c 8) (some [(0,1),(2,5),(1,7),(3,6),(4,6),(5,2)]) (cond (Nat.beq c 11) (some [(0,1),(2,5),(1,7),(3,6),(4,6),(5,2)]) (cond (Nat.beq c 13) (some [(1,0),(2,0),(0,1),(4,5),(3,7),(5,6),(6,6),(7,2)]) (cond (Nat.beq c 5) (some [(0,1),(2,5),(1,7),(3,6),(4,6),(5,2)]) (cond (Nat.beq c 3) (some [(1,0),(0,1),(3,5),(2,7),(4,6),(5,6),(6,2)]) none))))),fz:=true }
theorem Kz (n:Nat):ya tys (fa OutS (Jg n)) (qn n) n (aa Tryz.f41) 0:=pa (fun _=>rfl) _ _ (by kernel_rfl)
theorem oC (n:Nat):Enters Tryz.prog 41:=enters_of (c:=aa Tryz.f41) Tryz.func41 (by kernel_rfl) (by kernel_rfl)
def et:List RSp:=[.agg [.dat (.int .i64),.dat (.int .i64),.dat (.int .i64),.dat .str,.dat .bool,.dat (.int .i64),.dat .str,.dat .bool,.dat .str,.dat .str,.row 0,.row 1,.dat (.int .i64),.dat .bool],.one (.dat (.pair .str (.pair .bool .unit)))]
def dt:List RS:=[.row 47 2 (.pair .str (.pair .str .unit)) true true,.row 9 1 .str true true]
def pC:List Sl:=[.top,.top]
def qC:List RSp:=[.one (.dat K0),.one (.dat (.int .i64)),.one (.dat .str),.one (.dat K2)]
def fg:List RS:=[]
def ln (y:(T0×Int×BA×T1×Unit)):OutS:=⟨false,Nm (Je fg ()) pC (),RD (GC (Je fg ()) qC ((y.1,()),((y.2.1,()),((y.2.2.1,()),((y.2.2.2.1,()),()))))),It (Je fg ()) fg ()⟩
theorem AE (n:Nat):EntryOk Tryz.prog gl ⟨41,Vj,none,some (tX et dt (fun σ ρ=>qc n σ.1.1 σ.1.2.1 σ.1.2.2.1 σ.1.2.2.2.1 σ.1.2.2.2.2.1 σ.1.2.2.2.2.2.1 σ.1.2.2.2.2.2.2.1 σ.1.2.2.2.2.2.2.2.1 σ.1.2.2.2.2.2.2.2.2.1 σ.1.2.2.2.2.2.2.2.2.2.1 σ.1.2.2.2.2.2.2.2.2.2.2.1 σ.1.2.2.2.2.2.2.2.2.2.2.2.1 σ.2.1.1 ρ.1 ρ.2.1) ln)⟩:=ai (oC n) fun σ ρ y h=>nc tys_ok (Vh n) mixed (hint:=qn n) (n:=n) Tryz.func41 (Ha (Kz n)) (oa (φ:=fun y=>some (ln y)) (by kernel_rfl) (HG n σ.1.1 σ.1.2.1 σ.1.2.2.1 σ.1.2.2.2.1 σ.1.2.2.2.2.1 σ.1.2.2.2.2.2.1 σ.1.2.2.2.2.2.2.1 σ.1.2.2.2.2.2.2.2.1 σ.1.2.2.2.2.2.2.2.2.1 σ.1.2.2.2.2.2.2.2.2.2.1 σ.1.2.2.2.2.2.2.2.2.2.2.1 σ.1.2.2.2.2.2.2.2.2.2.2.2.1 σ.2.1.1 ρ.1 ρ.2.1 _) h)
def Il (n:Nat):List Entry:=⟨41,Vj,none,some (tX et dt (fun σ ρ=>qc n σ.1.1 σ.1.2.1 σ.1.2.2.1 σ.1.2.2.2.1 σ.1.2.2.2.2.1 σ.1.2.2.2.2.2.1 σ.1.2.2.2.2.2.2.1 σ.1.2.2.2.2.2.2.2.1 σ.1.2.2.2.2.2.2.2.2.1 σ.1.2.2.2.2.2.2.2.2.2.1 σ.1.2.2.2.2.2.2.2.2.2.2.1 σ.1.2.2.2.2.2.2.2.2.2.2.2.1 σ.2.1.1 ρ.1 ρ.2.1) ln)⟩::Jg n
theorem um (n:Nat):AllOk Tryz.prog gl (Il n):=.cons (AE n) (Vh n)
def Jl (n:Nat) {R:Type} (c:T0) (l:U6) (k:(T0×Int×BA×Int×Unit)→Option R):Option R:=(Xx n c).bind fun v=>if (!v)=true then k (((0:Int),((0:Int),((0:Int),(((⟨#[]⟩:BA),(false,())),((0:Int),((⟨#[]⟩:BA),(false,(((⟨#[]⟩:BA),((⟨#[]⟩:BA),())),((⟨0,fun _=>ua (.pair .str (.pair .str .unit))⟩:Sq U0),((⟨0,fun _=>ua .str⟩:Sq BA),((0:Int),(false,())))))))))))),((0:Int),((⟨#[]⟩:BA),((1:Int),())))) else if (c.2.2.2.2.1==(5:Int))=true then k (((0:Int),((0:Int),((0:Int),(((⟨#[]⟩:BA),(false,())),((0:Int),((⟨#[]⟩:BA),(false,(((⟨#[]⟩:BA),((⟨#[]⟩:BA),())),((⟨0,fun _=>ua (.pair .str (.pair .str .unit))⟩:Sq U0),((⟨0,fun _=>ua .str⟩:Sq BA),((0:Int),(false,())))))))))))),((0:Int),((⟨#[]⟩:BA),((6:Int),())))) else xX 1 ((gf n c).bind fun v1=>(qc n v1.1 v1.2.1 v1.2.2.1 v1.2.2.2.1 v1.2.2.2.2.1 v1.2.2.2.2.2.1 v1.2.2.2.2.2.2.1 v1.2.2.2.2.2.2.2.1 v1.2.2.2.2.2.2.2.2.1 v1.2.2.2.2.2.2.2.2.2.1 v1.2.2.2.2.2.2.2.2.2.2.1 v1.2.2.2.2.2.2.2.2.2.2.2.1 l v1.2.2.2.2.2.2.2.2.2.2.2.2.1 v1.2.2.2.2.2.2.2.2.2.2.2.2.2.1).bind fun v2=>(gf n v2.1).bind fun v3=>k ((v3.1,(v3.2.1,(v3.2.2.1,((v3.2.2.2.1,(v3.2.2.2.2.1,())),(v3.2.2.2.2.2.1,(v3.2.2.2.2.2.2.1,(v3.2.2.2.2.2.2.2.1,((v3.2.2.2.2.2.2.2.2.1,(v3.2.2.2.2.2.2.2.2.2.1,())),(v3.2.2.2.2.2.2.2.2.2.2.2.2.1,(v3.2.2.2.2.2.2.2.2.2.2.2.2.2.1,(v3.2.2.2.2.2.2.2.2.2.2.1,(v3.2.2.2.2.2.2.2.2.2.2.2.1,())))))))))))),(v2.2.1,(v2.2.2.1,((0:Int),())))))
def ff (n:Nat) (c:T0) (l:U6):Option (T0×Int×BA×Int×Unit):=Jl n c l some
theorem pQ (n:Nat) {S:Type}:∀ c l (φ:_→Option S),(ff n c l).bind φ=Jl n c l φ:=by
  intros;unfold ff Jl;first | (simp only [ia,ba,iB,bB,oL,oX,nB,Option.bind_some]) | rfl
def Oz (n:Nat):Hint Out:={ live:=fun c=>[],run:=fun c=>none,xm:=fun c q=>none,sch:=fun c=>(cond (Nat.beq c 5) (some [(0,1),(1,5),(2,7),(3,2),(4,6),(5,6),(6,6),(7,6),(8,6),(9,2),(10,6),(11,6)]) none) }
theorem mJ (n:Nat):ya tys (fa Out (Il n)) (Oz n) n (aa Tryz.f24) 0:=pa (fun _=>rfl) _ _ (by kernel_rfl)
theorem yM (n:Nat):Enters Tryz.prog 24:=enters_of (c:=aa Tryz.f24) Tryz.func24 (by kernel_rfl) (by kernel_rfl)
def JG (n:Nat):Entry:=⟨24,nY gX (.many fX) (fun xs=>ff n xs.1 xs.2.1),none,none⟩
theorem kO (n:Nat):EntryOk Tryz.prog gl (JG n):=Ea (yM n) fun xs y h=>ma tys_ok (um n) mixed (hint:=Oz n) (n:=n) Tryz.func24 (Ha (mJ n)) (oa (φ:=(fun y=>some (Out.ret (Ub (.many fX) y)))) (by kernel_rfl) (pQ n xs.1 xs.2.1 _) h)
def Nz (n:Nat):List Entry:=JG n::Il n
theorem jx (n:Nat):AllOk Tryz.prog gl (Nz n):=.cons (kO n) (um n)
def VF (n:Nat) {R:Type} (e:Int) (k:Int→Option R):Option R:=k e
def Hc (n:Nat) (e:Int):Option Int:=VF n e some
theorem DR (n:Nat) {S:Type}:∀ e (φ:_→Option S),(Hc n e).bind φ=VF n e φ:=by
  intros;unfold Hc VF;first | (simp only [ia,ba,iB,bB,oL,oX,nB,Option.bind_some]) | rfl
def SB (n:Nat):Hint Out:={ live:=fun c=>[],run:=fun c=>none,xm:=fun c q=>none }
theorem MK (n:Nat):ya tys (fa Out (Nz n)) (SB n) n (aa Tryz.f26) 0:=pa (fun _=>rfl) _ _ (by kernel_rfl)
theorem MN (n:Nat):Enters Tryz.prog 26:=enters_of (c:=aa Tryz.f26) Tryz.func26 (by kernel_rfl) (by kernel_rfl)
def II (n:Nat):Entry:=⟨26,nY (.pair (.int .i64) .unit) (.one (.int .i64)) (fun xs=>Hc n xs.1),none,none⟩
theorem VP (n:Nat):EntryOk Tryz.prog gl (II n):=Ea (MN n) fun xs y h=>ma tys_ok (jx n) mixed (hint:=SB n) (n:=n) Tryz.func26 (Ha (MK n)) (oa (φ:=(fun y=>some (Out.ret (Ub (.one (.int .i64)) y)))) (by kernel_rfl) (DR n xs.1 _) h)
def RB (n:Nat):List Entry:=II n::Nz n
theorem Tx (n:Nat):AllOk Tryz.prog gl (RB n):=.cons (VP n) (jx n)
def kt (n:Nat) {R:Type} (id tenant ip:Int) (k:(T0×Int×Unit)→Option R):Option R:=(Xx n (id,(tenant,(ip,(((⟨#[]⟩:BA),(false,())),((0:Int),((⟨#[]⟩:BA),(false,(((⟨#[]⟩:BA),((⟨#[]⟩:BA),())),((⟨0,fun _=>ua (.pair .str (.pair .str .unit))⟩:Sq U0),((⟨0,fun _=>ua .str⟩:Sq BA),((0:Int),(false,()))))))))))))).bind fun v=>if (!v)=true then k (((0:Int),((0:Int),((0:Int),(((⟨#[]⟩:BA),(false,())),((0:Int),((⟨#[]⟩:BA),(false,(((⟨#[]⟩:BA),((⟨#[]⟩:BA),())),((⟨0,fun _=>ua (.pair .str (.pair .str .unit))⟩:Sq U0),((⟨0,fun _=>ua .str⟩:Sq BA),((0:Int),(false,())))))))))))),((1:Int),())) else k ((id,(tenant,(ip,(((⟨#[]⟩:BA),(false,())),((0:Int),((⟨#[]⟩:BA),(false,(((⟨#[]⟩:BA),((⟨#[]⟩:BA),())),((⟨0,fun _=>ua (.pair .str (.pair .str .unit))⟩:Sq U0),((⟨0,fun _=>ua .str⟩:Sq BA),((0:Int),(false,())))))))))))),((0:Int),()))
def jt (n:Nat) (id tenant ip:Int):Option (T0×Int×Unit):=kt n id tenant ip some
theorem rQ (n:Nat) {S:Type}:∀ id tenant ip (φ:_→Option S),(jt n id tenant ip).bind φ=kt n id tenant ip φ:=by
  intros;unfold jt kt;first | (simp only [ia,ba,iB,bB,oL,oX,nB,Option.bind_some]) | rfl
def Rz (n:Nat):Hint Out:={ live:=fun c=>[],run:=fun c=>none,xm:=fun c q=>none }
theorem pJ (n:Nat):ya tys (fa Out (RB n)) (Rz n) n (aa Tryz.f23) 0:=pa (fun _=>rfl) _ _ (by kernel_rfl)
theorem BM (n:Nat):Enters Tryz.prog 23:=enters_of (c:=aa Tryz.f23) Tryz.func23 (by kernel_rfl) (by kernel_rfl)
def MG (n:Nat):Entry:=⟨23,nY (.pair (.int .i64) (.pair (.int .i64) (.pair (.int .i64) .unit))) (.many iX) (fun xs=>jt n xs.1 xs.2.1 xs.2.2.1),none,none⟩
theorem mO (n:Nat):EntryOk Tryz.prog gl (MG n):=Ea (BM n) fun xs y h=>ma tys_ok (Tx n) mixed (hint:=Rz n) (n:=n) Tryz.func23 (Ha (pJ n)) (oa (φ:=(fun y=>some (Out.ret (Ub (.many iX) y)))) (by kernel_rfl) (rQ n xs.1 xs.2.1 xs.2.2.1 _) h)
def Qz (n:Nat):List Entry:=MG n::RB n
theorem kx (n:Nat):AllOk Tryz.prog gl (Qz n):=.cons (mO n) (Tx n)
def xl (n:Nat) {R:Type} (k:Bool→Option R):Option R:=(jt n (1:Int) (0:Int) (5:Int)).bind fun v=>(ff n v.1 ((⟨#[69,72,76,79,32,120]⟩:BA),(false,()))).bind fun v1=>(Hc n v.2.1).bind fun v2=>if (v2==(0:Int))=true then (Hc n v1.2.2.2.1).bind fun v3=>if (v3==(0:Int))=true then if (v1.2.1==(250:Int))=true then if (v1.2.2.1.toList==(⟨#[]⟩:BA).toList)=true then if (v1.1.2.2.2.2.1==(1:Int))=true then k (v1.1.2.2.2.2.2.1.toList==(⟨#[120]⟩:BA).toList) else k false else k false else k false else k false else k false
def Fh (n:Nat):Option Bool:=xl n some
theorem NN (n:Nat) {S:Type}:∀ (φ:_→Option S),(Fh n).bind φ=xl n φ:=by
  intros;unfold Fh xl;first | (simp only [ia,ba,iB,bB,oL,oX,nB,Option.bind_some]) | rfl
def pv (n:Nat):Hint Out:={ live:=fun c=>[],run:=fun c=>none,xm:=fun c q=>none }
theorem WF (n:Nat):ya tys (fa Out (Qz n)) (pv n) n (aa Tryz.f27) 0:=pa (fun _=>rfl) _ _ (by kernel_rfl)
theorem LI (n:Nat):Enters Tryz.prog 27:=enters_of (c:=aa Tryz.f27) Tryz.func27 (by kernel_rfl) (by kernel_rfl)
def TB (n:Nat):Entry:=⟨27,nY .unit (.one .bool) (fun xs=>Fh n),none,none⟩
theorem NK (n:Nat):EntryOk Tryz.prog gl (TB n):=Ea (LI n) fun xs y h=>ma tys_ok (kx n) mixed (hint:=pv n) (n:=n) Tryz.func27 (Ha (WF n)) (oa (φ:=(fun y=>some (Out.ret (Ub (.one .bool) y)))) (by kernel_rfl) (NN n  _) h)
def ks (n:Nat):List Entry:=TB n::Qz n
theorem Kq (n:Nat):AllOk Tryz.prog gl (ks n):=.cons (NK n) (kx n)
def Uz (n:Nat) {R:Type} (c:T0) (v:T1) (k:(T0×Int×Unit)→Option R):Option R:=(Xx n c).bind fun v1=>if (!v1)=false then (Cg n v).bind fun v2=>if (!v2)=true then k (((0:Int),((0:Int),((0:Int),(((⟨#[]⟩:BA),(false,())),((0:Int),((⟨#[]⟩:BA),(false,(((⟨#[]⟩:BA),((⟨#[]⟩:BA),())),((⟨0,fun _=>ua (.pair .str (.pair .str .unit))⟩:Sq U0),((⟨0,fun _=>ua .str⟩:Sq BA),((0:Int),(false,())))))))))))),((1:Int),())) else (gf n c).bind fun v3=>if (v.1==(3:Int))=true then if (v3.2.2.2.2.2.1 !=(1:Int))=true then k (((0:Int),((0:Int),((0:Int),(((⟨#[]⟩:BA),(false,())),((0:Int),((⟨#[]⟩:BA),(false,(((⟨#[]⟩:BA),((⟨#[]⟩:BA),())),((⟨0,fun _=>ua (.pair .str (.pair .str .unit))⟩:Sq U0),((⟨0,fun _=>ua .str⟩:Sq BA),((0:Int),(false,())))))))))))),((6:Int),())) else PN (PN (k ((v3.1,(v3.2.1,(v3.2.2.1,((v3.2.2.2.1,(v3.2.2.2.2.1,())),((2:Int),(v3.2.2.2.2.2.2.1,(v.2.2.1,(v.2.2.2.1,(v3.2.2.2.2.2.2.2.2.2.2.2.2.1,(v3.2.2.2.2.2.2.2.2.2.2.2.2.2.1,(v3.2.2.2.2.2.2.2.2.2.2.1,(v3.2.2.2.2.2.2.2.2.2.2.2.1,())))))))))))),((0:Int),()))) (xX 1 (k ((v3.1,(v3.2.1,(v3.2.2.1,((v3.2.2.2.1,(v3.2.2.2.2.1,())),((2:Int),(v3.2.2.2.2.2.2.1,(v.2.2.1,(v.2.2.2.1,(v3.2.2.2.2.2.2.2.2.2.2.2.2.1,(v3.2.2.2.2.2.2.2.2.2.2.2.2.2.1,(v3.2.2.2.2.2.2.2.2.2.2.1,(v3.2.2.2.2.2.2.2.2.2.2.2.1,())))))))))))),((0:Int),()))))) (
 PN (xX 1 (k ((v3.1,(v3.2.1,(v3.2.2.1,((v3.2.2.2.1,(v3.2.2.2.2.1,())),((2:Int),(v3.2.2.2.2.2.2.1,(v.2.2.1,(v.2.2.2.1,(v3.2.2.2.2.2.2.2.2.2.2.2.2.1,(v3.2.2.2.2.2.2.2.2.2.2.2.2.2.1,(v3.2.2.2.2.2.2.2.2.2.2.1,(v3.2.2.2.2.2.2.2.2.2.2.2.1,())))))))))))),((0:Int),())))) (PN (xX 1 (k ((v3.1,(v3.2.1,(v3.2.2.1,((v3.2.2.2.1,(v3.2.2.2.2.1,())),((2:Int),(v3.2.2.2.2.2.2.1,(v.2.2.1,(v.2.2.2.1,(v3.2.2.2.2.2.2.2.2.2.2.2.2.1,(v3.2.2.2.2.2.2.2.2.2.2.2.2.2.1,(v3.2.2.2.2.2.2.2.2.2.2.1,(v3.2.2.2.2.2.2.2.2.2.2.2.1,())))))))))))),((0:Int),())))) (k ((v3.1,(v3.2.1,(v3.2.2.1,((v3.2.2.2.1,(v3.2.2.2.2.1,())),((2:Int),(v3.2.2.2.2.2.2.1,(v.2.2.1,(v.2.2.2.1,(v3.2.2.2.2.2.2.2.2.2.2.2.2.1,(v3.2.2.2.2.2.2.2.2.2.2.2.2.2.1,(v3.2.2.2.2.2.2.2.2.2.2.1,(v3.2.2.2.2.2.2.2.2.2.2.2.1,())))))))))))),((0:Int),()))))) else if (v.1==(4:Int))=true then if (v3.2.2.2.2.2.1 !=(2:Int))=true then if (v3.2.2.2.2.2.1 !=(3:Int))=true then k (((0:Int),((0:Int),((0:Int),(((⟨#[]⟩:BA),(false,())),((0:Int),((⟨#[]⟩:BA),(false,(((⟨#[]⟩:BA),((⟨#[]⟩:BA),())),((⟨0,fun _=>ua (.pair .str (.pair .str .unit))⟩:Sq U0),((⟨0,fun _=>ua .str⟩:Sq BA),((0:Int),(false,())))))))))))),((6:Int),())) else (rY n v3.2.2.2.2.2.2.2.2.2.2.2.2.1 v.2.2.2.1).bind fun v4=>if v4=true then k (((0:Int),((0:Int),((0:Int),(((⟨#[]⟩:BA),(false,())),((0:Int),((⟨#[]⟩:BA),(false,(((⟨#[]⟩:BA),((⟨#[]⟩:BA),())),((⟨0,fun _=>ua (.pair .str (.pair .str .unit))⟩:Sq U0),((⟨0,fun _=>ua .str⟩:Sq BA),((0:Int),(false,())))))))))))),((4:Int),()))
 else if ((v3.2.2.2.2.2.2.2.2.2.2.2.2.1.n:Int)==(8:Int))=true then k (((0:Int),((0:Int),((0:Int),(((⟨#[]⟩:BA),(false,())),((0:Int),((⟨#[]⟩:BA),(false,(((⟨#[]⟩:BA),((⟨#[]⟩:BA),())),((⟨0,fun _=>ua (.pair .str (.pair .str .unit))⟩:Sq U0),((⟨0,fun _=>ua .str⟩:Sq BA),((0:Int),(false,())))))))))))),((5:Int),())) else if db (v3.2.2.2.2.2.2.2.2.2.2.2.2.1.n+1) 32=true then k ((v3.1,(v3.2.1,(v3.2.2.1,((v3.2.2.2.1,(v3.2.2.2.2.1,())),((3:Int),(v3.2.2.2.2.2.2.1,(v3.2.2.2.2.2.2.2.1,((v3.2.2.2.2.2.2.2.2.1,(v3.2.2.2.2.2.2.2.2.2.1,())),((⟨(v3.2.2.2.2.2.2.2.2.2.2.2.2.1.n+1),fun q=>if q<v3.2.2.2.2.2.2.2.2.2.2.2.2.1.n then v3.2.2.2.2.2.2.2.2.2.2.2.2.1.at' q else (fun q=>List.getD (α:=U0) [v.2.2.2.1] q (ua (.pair .str (.pair .str .unit)))) (q - v3.2.2.2.2.2.2.2.2.2.2.2.2.1.n)⟩:Sq U0),(v3.2.2.2.2.2.2.2.2.2.2.2.2.2.1,(v3.2.2.2.2.2.2.2.2.2.2.1,(v3.2.2.2.2.2.2.2.2.2.2.2.1,())))))))))))),((0:Int),())) else none else (rY n v3.2.2.2.2.2.2.2.2.2.2.2.2.1 v.2.2.2.1).bind fun v5=>if v5=true then k (((0:Int),((0:Int),((0:Int),(((⟨#[]⟩:BA),(false,())),((0:Int),((⟨#[]⟩:BA),(false,(((⟨#[]⟩:BA),((⟨#[]⟩:BA),())),((⟨0,fun _=>ua (.pair .str (.pair .str .unit))⟩:Sq U0),((⟨0,fun _=>ua .str⟩:Sq BA),((0:Int),(false,())))))))))))),((4:Int),()))
 else if ((v3.2.2.2.2.2.2.2.2.2.2.2.2.1.n:Int)==(8:Int))=true then k (((0:Int),((0:Int),((0:Int),(((⟨#[]⟩:BA),(false,())),((0:Int),((⟨#[]⟩:BA),(false,(((⟨#[]⟩:BA),((⟨#[]⟩:BA),())),((⟨0,fun _=>ua (.pair .str (.pair .str .unit))⟩:Sq U0),((⟨0,fun _=>ua .str⟩:Sq BA),((0:Int),(false,())))))))))))),((5:Int),())) else if db (v3.2.2.2.2.2.2.2.2.2.2.2.2.1.n+1) 32=true then k ((v3.1,(v3.2.1,(v3.2.2.1,((v3.2.2.2.1,(v3.2.2.2.2.1,())),((3:Int),(v3.2.2.2.2.2.2.1,(v3.2.2.2.2.2.2.2.1,((v3.2.2.2.2.2.2.2.2.1,(v3.2.2.2.2.2.2.2.2.2.1,())),((⟨(v3.2.2.2.2.2.2.2.2.2.2.2.2.1.n+1),fun q=>if q<v3.2.2.2.2.2.2.2.2.2.2.2.2.1.n then v3.2.2.2.2.2.2.2.2.2.2.2.2.1.at' q else (fun q=>List.getD (α:=U0) [v.2.2.2.1] q (ua (.pair .str (.pair .str .unit)))) (q - v3.2.2.2.2.2.2.2.2.2.2.2.2.1.n)⟩:Sq U0),(v3.2.2.2.2.2.2.2.2.2.2.2.2.2.1,(v3.2.2.2.2.2.2.2.2.2.2.1,(v3.2.2.2.2.2.2.2.2.2.2.2.1,())))))))))))),((0:Int),())) else none else k (((0:Int),((0:Int),((0:Int),(((⟨#[]⟩:BA),(false,())),((0:Int),((⟨#[]⟩:BA),(false,(((⟨#[]⟩:BA),((⟨#[]⟩:BA),())),((⟨0,fun _=>ua (.pair .str (.pair .str .unit))⟩:Sq U0),((⟨0,fun _=>ua .str⟩:Sq BA),((0:Int),(false,())))))))))))),((1:Int),()))
 else k (((0:Int),((0:Int),((0:Int),(((⟨#[]⟩:BA),(false,())),((0:Int),((⟨#[]⟩:BA),(false,(((⟨#[]⟩:BA),((⟨#[]⟩:BA),())),((⟨0,fun _=>ua (.pair .str (.pair .str .unit))⟩:Sq U0),((⟨0,fun _=>ua .str⟩:Sq BA),((0:Int),(false,())))))))))))),((1:Int),()))
def Yx (n:Nat) (c:T0) (v:T1):Option (T0×Int×Unit):=Uz n c v some
theorem vS (n:Nat) {S:Type}:∀ c v (φ:_→Option S),(Yx n c v).bind φ=Uz n c v φ:=by
  intros;unfold Yx Uz;first | (simp only [ia,ba,iB,bB,oL,oX,nB,Option.bind_some]) | rfl
def yD (n:Nat):Hint Out:={ live:=fun c=>[],run:=fun c=>none,xm:=fun c q=>none,sch:=fun c=>(cond (Nat.beq c 8) (some [(0,0),(2,0),(4,0),(5,5),(1,7),(3,7),(6,6),(7,2),(8,6),(9,2)]) none) }
theorem EM (n:Nat):ya tys (fa Out (ks n)) (yD n) n (aa Tryz.f25) 0:=pa (fun _=>rfl) _ _ (by kernel_rfl)
theorem oO (n:Nat):Enters Tryz.prog 25:=enters_of (c:=aa Tryz.f25) Tryz.func25 (by kernel_rfl) (by kernel_rfl)
def fL (n:Nat):Entry:=⟨25,nY dX (.many iX) (fun xs=>Yx n xs.1 xs.2.1),none,none⟩
theorem sQ (n:Nat):EntryOk Tryz.prog gl (fL n):=Ea (oO n) fun xs y h=>ma tys_ok (Kq n) mixed (hint:=yD n) (n:=n) Tryz.func25 (Ha (EM n)) (oa (φ:=(fun y=>some (Out.ret (Ub (.many iX) y)))) (by kernel_rfl) (vS n xs.1 xs.2.1 _) h)
def rt (n:Nat):List Entry:=fL n::ks n
theorem Vz (n:Nat):AllOk Tryz.prog gl (rt n):=.cons (sQ n) (Kq n)
def De (n:Nat) {R:Type} (i p1 p2 p3:Int) (p4:BA) (p5:Bool) (p6:Int) (p7:BA) (p8:Bool) (p9 p10:BA) (p11:(Sq U0)) (p12:(Sq BA)) (p13:Int) (p14:Bool) (p15:(Sq T2)) (c c1 c2:Int) (c3:BA) (c4:Bool) (c5:Int) (c6:BA) (c7:Bool) (c8 c9:BA) (c10:(Sq U0)) (c11:(Sq BA)) (c12:Int) (c13:Bool) (kn:Int→Int→Int→Int→BA→Bool→Int→BA→Bool→BA→BA→(Sq U0)→(Sq BA)→Int→Bool→(Sq T2)→Int→Int→Int→BA→Bool→Int→BA→Bool→BA→BA→(Sq U0)→(Sq BA)→Int→Bool→Option R) (ko:U5→Option R) (kr:(Bool)→Option R) (kp:Int→Option R):Option R:=if (decide (i<(10:Int)))=true then if Af (⟨#[82,67,80,84,32,84,79,58,60]⟩:BA) (dl 1 (fun q=>List.getD (α:=Int) [(IntKind.wrap .u8 (IntKind.wrap .i64 ((97:Int)+i)))] q (ua (.int .u8))))=true then if Af ((⟨#[82,67,80,84,32,84,79,58,60]⟩:BA)++(dl 1 (fun q=>List.getD (α:=Int) [(IntKind.wrap .u8 (IntKind.wrap .i64 ((97:Int)+i)))] q (ua (.int .u8))))) (⟨#[64,89,62]⟩:BA)=true then
 (ff n (c,(c1,(c2,((c3,(c4,())),(c5,(c6,(c7,((c8,(c9,())),(c10,(c11,(c12,(c13,())))))))))))) ((((⟨#[82,67,80,84,32,84,79,58,60]⟩:BA)++(dl 1 (fun q=>List.getD (α:=Int) [(IntKind.wrap .u8 (IntKind.wrap .i64 ((97:Int)+i)))] q (ua (.int .u8)))))++(⟨#[64,89,62]⟩:BA)),(false,()))).bind fun v6=>(Yx n (c,(c1,(c2,((c3,(c4,())),(c5,(c6,(c7,((c8,(c9,())),(c10,(c11,(c12,(c13,())))))))))))) ((4:Int),((⟨#[]⟩:BA),(false,(((dl 1 (fun q=>List.getD (α:=Int) [(IntKind.wrap .u8 (IntKind.wrap .i64 ((97:Int)+i)))] q (ua (.int .u8)))),((⟨#[121]⟩:BA),())),((0:Int),())))))).bind fun v7=>(Hc n v6.2.2.2.1).bind fun v8=>if (v8 !=(0:Int))=true then kr false else if (decide (i≥(8:Int)))=true then if (v6.2.1 !=(452:Int))=false then if (!(v6.2.2.1.toList==(⟨#[]⟩:BA).toList))=false then (Hc n v7.2.1).bind fun v9=>if (v9 !=(5:Int))=true then kr false else kn (IntKind.wrap .i64 (i+(1:Int))) p1 p2 p3 p4 p5 p6 p7 p8 p9 p10 p11 p12 p13 p14 p15 c c1 c2 c3 c4 c5 c6 c7 c8 c9 c10 c11 c12 c13 else kr false else kr false else if (v6.2.1 !=(0:Int))=false then if (!(v6.2.2.1.toList==(⟨#[114,99,112,116]⟩:BA).toList))=false then (Hc n v7.2.1).bind fun v10=>if (v10 !=(0:Int))=false then if ((v7.1.2.2.2.2.2.2.2.2.1.n:Int) !=(IntKind.wrap .i64 (i+(1:Int))))=true then kr false
 else if Af (⟨#[114,99,112,116,32,116,111,58,60]⟩:BA) (dl 1 (fun q=>List.getD (α:=Int) [(IntKind.wrap .u8 (IntKind.wrap .i64 ((97:Int)+i)))] q (ua (.int .u8))))=true then if Af ((⟨#[114,99,112,116,32,116,111,58,60]⟩:BA)++(dl 1 (fun q=>List.getD (α:=Int) [(IntKind.wrap .u8 (IntKind.wrap .i64 ((97:Int)+i)))] q (ua (.int .u8))))) (⟨#[64,121,62]⟩:BA)=true then (ff n v7.1 ((((⟨#[114,99,112,116,32,116,111,58,60]⟩:BA)++(dl 1 (fun q=>List.getD (α:=Int) [(IntKind.wrap .u8 (IntKind.wrap .i64 ((97:Int)+i)))] q (ua (.int .u8)))))++(⟨#[64,121,62]⟩:BA)),(false,()))).bind fun v11=>(Yx n v7.1 ((4:Int),((⟨#[]⟩:BA),(false,(((dl 1 (fun q=>List.getD (α:=Int) [(IntKind.wrap .u8 (IntKind.wrap .i64 ((97:Int)+i)))] q (ua (.int .u8)))),((⟨#[121]⟩:BA),())),((0:Int),())))))).bind fun v12=>if (i==(7:Int))=true then (Hc n v11.2.2.2.1).bind fun v13=>if (v13 !=(0:Int))=false then if (v11.2.1 !=(452:Int))=false then if (!(v11.2.2.1.toList==(⟨#[]⟩:BA).toList))=false then (Hc n v12.2.1).bind fun v14=>if (v14 !=(4:Int))=true then kr false else kn (IntKind.wrap .i64 (i+(1:Int))) p1 p2 p3 p4 p5 p6 p7 p8 p9 p10 p11 p12 p13 p14 p15 v7.1.1 v7.1.2.1 v7.1.2.2.1 v7.1.2.2.2.1.1 v7.1.2.2.2.1.2.1 v7.1.2.2.2.2.1 v7.1.2.2.2.2.2.1 v7.1.2.2.2.2.2.2.1 v7.1.2.2.2.2.2.2.2.1.1 v7.1.2.2.2.2.2.2.2.1.2.1 v7.1.2.2.2.2.2.2.2.2.1 v7.1.2.2.2.2.2.2.2.2.2.1 v7.1.2.2.2.2.2.2.2.2.2.2.1 v7.1.2.2.2.2.2.2.2.2.2.2.2.1
 else kr false else kr false else kr false else (Hc n v11.2.2.2.1).bind fun v15=>if (v15 !=(0:Int))=false then if (v11.2.1 !=(250:Int))=false then if (!(v11.2.2.1.toList==(⟨#[]⟩:BA).toList))=false then (Hc n v12.2.1).bind fun v16=>if (v16 !=(4:Int))=true then kr false else kn (IntKind.wrap .i64 (i+(1:Int))) p1 p2 p3 p4 p5 p6 p7 p8 p9 p10 p11 p12 p13 p14 p15 v7.1.1 v7.1.2.1 v7.1.2.2.1 v7.1.2.2.2.1.1 v7.1.2.2.2.1.2.1 v7.1.2.2.2.2.1 v7.1.2.2.2.2.2.1 v7.1.2.2.2.2.2.2.1 v7.1.2.2.2.2.2.2.2.1.1 v7.1.2.2.2.2.2.2.2.1.2.1 v7.1.2.2.2.2.2.2.2.2.1 v7.1.2.2.2.2.2.2.2.2.2.1 v7.1.2.2.2.2.2.2.2.2.2.2.1 v7.1.2.2.2.2.2.2.2.2.2.2.2.1 else kr false else kr false else kr false else none else none else kr false else kr false else kr false else none else none else ko (p1,p2,p3,p4,p5,p6,p7,p8,p9,p10,p11,p12,p13,p14,p15)
def tb (n:Nat):Nat→Int→Int→Int→Int→BA→Bool→Int→BA→Bool→BA→BA→(Sq U0)→(Sq BA)→Int→Bool→(Sq T2)→Int→Int→Int→BA→Bool→Int→BA→Bool→BA→BA→(Sq U0)→(Sq BA)→Int→Bool→Option (Lx U5 (Bool))
 | 0,_,_,_,_,_,_,_,_,_,_,_,_,_,_,_,_,_,_,_,_,_,_,_,_,_,_,_,_,_,_=>none
 | m+1,i,p1,p2,p3,p4,p5,p6,p7,p8,p9,p10,p11,p12,p13,p14,p15,c,c1,c2,c3,c4,c5,c6,c7,c8,c9,c10,c11,c12,c13=>De n i p1 p2 p3 p4 p5 p6 p7 p8 p9 p10 p11 p12 p13 p14 p15 c c1 c2 c3 c4 c5 c6 c7 c8 c9 c10 c11 c12 c13 (tb n m) (fun a=>some (.out a)) (fun a=>some (.ret a)) (fun p=>some (.pan p))
theorem Zu (n m:Nat) {S:Type}:∀ i p1 p2 p3 p4 p5 p6 p7 p8 p9 p10 p11 p12 p13 p14 p15 c c1 c2 c3 c4 c5 c6 c7 c8 c9 c10 c11 c12 c13 (φ:_→Option S),(tb n (m+1) i p1 p2 p3 p4 p5 p6 p7 p8 p9 p10 p11 p12 p13 p14 p15 c c1 c2 c3 c4 c5 c6 c7 c8 c9 c10 c11 c12 c13).bind φ=De n i p1 p2 p3 p4 p5 p6 p7 p8 p9 p10 p11 p12 p13 p14 p15 c c1 c2 c3 c4 c5 c6 c7 c8 c9 c10 c11 c12 c13 (fun i p1 p2 p3 p4 p5 p6 p7 p8 p9 p10 p11 p12 p13 p14 p15 c c1 c2 c3 c4 c5 c6 c7 c8 c9 c10 c11 c12 c13=>(tb n m i p1 p2 p3 p4 p5 p6 p7 p8 p9 p10 p11 p12 p13 p14 p15 c c1 c2 c3 c4 c5 c6 c7 c8 c9 c10 c11 c12 c13).bind φ) (fun a=>φ (.out a)) (fun a=>φ (.ret a)) (fun p=>φ (.pan p)):=by
  intros;first | (simp only [tb,De,ia,ba,iB,bB,oL,oX,nB,Option.bind_some]) | rfl
def Ue:List Sl:=.top::.ptr 0 0 0::.top::.ptr 1 0 0::tp 5 (.dat (.int .i64)::tp 155 [])
def Te:List RS:=[.box 53 15 true [.dat (.int .i64),.dat (.int .i64),.dat (.int .i64),.dat .str,.dat .bool,.dat (.int .i64),.dat .str,.dat .bool,.dat .str,.dat .str,.dat (.sl (.pair .str (.pair .str .unit))),.dat (.sl .str),.dat (.int .i64),.dat .bool,.dat (.sl K3)],.box 50 14 true [.dat (.int .i64),.dat (.int .i64),.dat (.int .i64),.dat .str,.dat .bool,.dat (.int .i64),.dat .str,.dat .bool,.dat .str,.dat .str,.dat (.sl (.pair .str (.pair .str .unit))),.dat (.sl .str),.dat (.int .i64),.dat .bool]]
def qm:List Sl:=.top::.ptr 0 0 0::tp 163 []
def om:List RS:=[.box 53 15 true [.dat (.int .i64),.dat (.int .i64),.dat (.int .i64),.dat .str,.dat .bool,.dat (.int .i64),.dat .str,.dat .bool,.dat .str,.dat .str,.dat (.sl (.pair .str (.pair .str .unit))),.dat (.sl .str),.dat (.int .i64),.dat .bool,.dat (.sl K3)]]
def sm:List Sl:=.top::.top::.dat .bool::tp 162 []
def rm:List RS:=[]
def pb (K:XE→List AV→la→Option Out):Lx U5 (Bool)→Option Out:=fun x=>iY x (fun a=>Jh qm om () ((a.1,(a.2.1,(a.2.2.1,(a.2.2.2.1,(a.2.2.2.2.1,(a.2.2.2.2.2.1,(a.2.2.2.2.2.2.1,(a.2.2.2.2.2.2.2.1,(a.2.2.2.2.2.2.2.2.1,(a.2.2.2.2.2.2.2.2.2.1,(a.2.2.2.2.2.2.2.2.2.2.1,(a.2.2.2.2.2.2.2.2.2.2.2.1,(a.2.2.2.2.2.2.2.2.2.2.2.2.1,(a.2.2.2.2.2.2.2.2.2.2.2.2.2.1,(a.2.2.2.2.2.2.2.2.2.2.2.2.2.2,()))))))))))))))),()) (K (.exit 0))) (fun a=>Jh sm rm (a,()) () (K .ret)) (fun _=>none)
def Hi (n:Nat) {R:Type} (p:U8) (k:Bool→Option R):Option R:=(jt n (1:Int) (0:Int) (5:Int)).bind fun v=>(ff n v.1 ((⟨#[72,69,76,79,32,120]⟩:BA),(false,()))).bind fun v1=>(Yx n v1.1 ((3:Int),((⟨#[]⟩:BA),(true,(((⟨#[]⟩:BA),((⟨#[]⟩:BA),())),((-1:Int),())))))).bind fun v2=>(Hc n v.2.1).bind fun v3=>if (v3 !=(0:Int))=false then (Hc n v1.2.2.2.1).bind fun v4=>if (v4 !=(0:Int))=false then (Hc n v2.2.1).bind fun v5=>if (v5 !=(0:Int))=true then k false else (tb n n (0:Int) p.1.1 p.1.2.1 p.1.2.2.1 p.1.2.2.2.1.1 p.1.2.2.2.1.2.1 p.1.2.2.2.2.1 p.1.2.2.2.2.2.1 p.1.2.2.2.2.2.2.1 p.1.2.2.2.2.2.2.2.1.1 p.1.2.2.2.2.2.2.2.1.2.1 p.1.2.2.2.2.2.2.2.2.1 p.1.2.2.2.2.2.2.2.2.2.1 p.1.2.2.2.2.2.2.2.2.2.2.1 p.1.2.2.2.2.2.2.2.2.2.2.2.1 p.2.1 v2.1.1 v2.1.2.1 v2.1.2.2.1 v2.1.2.2.2.1.1 v2.1.2.2.2.1.2.1 v2.1.2.2.2.2.1 v2.1.2.2.2.2.2.1 v2.1.2.2.2.2.2.2.1 v2.1.2.2.2.2.2.2.2.1.1 v2.1.2.2.2.2.2.2.2.1.2.1 v2.1.2.2.2.2.2.2.2.2.1 v2.1.2.2.2.2.2.2.2.2.2.1 v2.1.2.2.2.2.2.2.2.2.2.2.1 v2.1.2.2.2.2.2.2.2.2.2.2.2.1).bind fun x_1=>iY x_1 (fun a_2=>if (decide ((a_2.2.2.2.2.2.2.2.2.2.2.2.2.2.2.n:Int)≥(0:Int)))=true then (Fh n).bind fun v17=>k v17 else k false) (fun a_3=>k a_3) (fun _=>none) else k false else k false
def mm (n:Nat) (p:U8):Option Bool:=Hi n p some
theorem PB (n:Nat) {S:Type}:∀ p (φ:_→Option S),(mm n p).bind φ=Hi n p φ:=by
  intros;unfold mm Hi;first | (simp only [ia,ba,iB,bB,oL,oX,nB,Option.bind_some]) | rfl
def wd (n:Nat):Hint Out:={ live:=fun c=>(cond (Nat.beq c 0) (lv [1,3,9]) []),run:=fun c=>(cond (Nat.beq c 0) (some (vp Ue Te fun σ ρ K=>(tb n n σ.1 ρ.1.1 ρ.1.2.1 ρ.1.2.2.1 ρ.1.2.2.2.1 ρ.1.2.2.2.2.1 ρ.1.2.2.2.2.2.1 ρ.1.2.2.2.2.2.2.1 ρ.1.2.2.2.2.2.2.2.1 ρ.1.2.2.2.2.2.2.2.2.1 ρ.1.2.2.2.2.2.2.2.2.2.1 ρ.1.2.2.2.2.2.2.2.2.2.2.1 ρ.1.2.2.2.2.2.2.2.2.2.2.2.1 ρ.1.2.2.2.2.2.2.2.2.2.2.2.2.1 ρ.1.2.2.2.2.2.2.2.2.2.2.2.2.2.1 ρ.1.2.2.2.2.2.2.2.2.2.2.2.2.2.2.1 ρ.2.1.1 ρ.2.1.2.1 ρ.2.1.2.2.1 ρ.2.1.2.2.2.1 ρ.2.1.2.2.2.2.1 ρ.2.1.2.2.2.2.2.1 ρ.2.1.2.2.2.2.2.2.1 ρ.2.1.2.2.2.2.2.2.2.1 ρ.2.1.2.2.2.2.2.2.2.2.1 ρ.2.1.2.2.2.2.2.2.2.2.2.1 ρ.2.1.2.2.2.2.2.2.2.2.2.2.1 ρ.2.1.2.2.2.2.2.2.2.2.2.2.2.1 ρ.2.1.2.2.2.2.2.2.2.2.2.2.2.2.1 ρ.2.1.2.2.2.2.2.2.2.2.2.2.2.2.2.1).bind (pb K))) none),xm:=fun c q=>(cond (Nat.beq c 0&&Nat.beq (q.getD 1000000) 0&&q.isSome) (some [(1,none)]) (cond (Nat.beq c 1&&q.isNone) (some [(2,none)]) none)) }
def vd (n:Nat) (K:XE→List AV→la→Option Out) (m:Nat) (i:Int) (p1:Int) (p2:Int) (p3:Int) (p4:BA) (p5:Bool) (p6:Int) (p7:BA) (p8:Bool) (p9:BA) (p10:BA) (p11:(Sq U0)) (p12:(Sq BA)) (p13:Int) (p14:Bool) (p15:(Sq T2)) (c:Int) (c1:Int) (c2:Int) (c3:BA) (c4:Bool) (c5:Int) (c6:BA) (c7:Bool) (c8:BA) (c9:BA) (c10:(Sq U0)) (c11:(Sq BA)) (c12:Int) (c13:Bool):Option Out:=lf tys (fa Out (rt n)) (wd n) n (Da [1,1,1,1,1,0,1,0,0] (aa Tryz.f6)) 0 Ue Te K m (i,()) ((p1,(p2,(p3,(p4,(p5,(p6,(p7,(p8,(p9,(p10,(p11,(p12,(p13,(p14,(p15,()))))))))))))))),((c,(c1,(c2,(c3,(c4,(c5,(c6,(c7,(c8,(c9,(c10,(c11,(c12,(c13,())))))))))))))),()))
theorem Gj (n:Nat) (K:XE→List AV→la→Option Out):∀ (m:Nat) i p1 p2 p3 p4 p5 p6 p7 p8 p9 p10 p11 p12 p13 p14 p15 c c1 c2 c3 c4 c5 c6 c7 c8 c9 c10 c11 c12 c13,vd n K m i p1 p2 p3 p4 p5 p6 p7 p8 p9 p10 p11 p12 p13 p14 p15 c c1 c2 c3 c4 c5 c6 c7 c8 c9 c10 c11 c12 c13=(tb n m i p1 p2 p3 p4 p5 p6 p7 p8 p9 p10 p11 p12 p13 p14 p15 c c1 c2 c3 c4 c5 c6 c7 c8 c9 c10 c11 c12 c13).bind (pb K)
  | 0,_,_,_,_,_,_,_,_,_,_,_,_,_,_,_,_,_,_,_,_,_,_,_,_,_,_,_,_,_,_=>by kernel_rfl
  | m+1,i,p1,p2,p3,p4,p5,p6,p7,p8,p9,p10,p11,p12,p13,p14,p15,c,c1,c2,c3,c4,c5,c6,c7,c8,c9,c10,c11,c12,c13=>by
    have h1:vd n K (m+1) i p1 p2 p3 p4 p5 p6 p7 p8 p9 p10 p11 p12 p13 p14 p15 c c1 c2 c3 c4 c5 c6 c7 c8 c9 c10 c11 c12 c13=De n i p1 p2 p3 p4 p5 p6 p7 p8 p9 p10 p11 p12 p13 p14 p15 c c1 c2 c3 c4 c5 c6 c7 c8 c9 c10 c11 c12 c13 (vd n K m) (fun a=>pb K (.out a)) (fun a=>pb K (.ret a)) (fun p=>pb K (.pan p)):=by kernel_rfl
    have h2:vd n K m=fun i p1 p2 p3 p4 p5 p6 p7 p8 p9 p10 p11 p12 p13 p14 p15 c c1 c2 c3 c4 c5 c6 c7 c8 c9 c10 c11 c12 c13=>(tb n m i p1 p2 p3 p4 p5 p6 p7 p8 p9 p10 p11 p12 p13 p14 p15 c c1 c2 c3 c4 c5 c6 c7 c8 c9 c10 c11 c12 c13).bind (pb K):=by
      repeat (refine funext fun _=>?_)
      exact Gj n K m _ _ _ _ _ _ _ _ _ _ _ _ _ _ _ _ _ _ _ _ _ _ _ _ _ _ _ _ _ _
    rw [h1,h2];exact (Zu n m _ _ _ _ _ _ _ _ _ _ _ _ _ _ _ _ _ _ _ _ _ _ _ _ _ _ _ _ _ _ (pb K)).symm
theorem Wr (n:Nat):le tys (fa Out (rt n)) (wd n) n (Da [1,1,1,1,1,0,1,0,0] (aa Tryz.f6)) 0:=Oa (sp:=Ue) (rp:=Te) (by kernel_rfl) fun K σ ρ=>Gj n K n σ.1 ρ.1.1 ρ.1.2.1 ρ.1.2.2.1 ρ.1.2.2.2.1 ρ.1.2.2.2.2.1 ρ.1.2.2.2.2.2.1 ρ.1.2.2.2.2.2.2.1 ρ.1.2.2.2.2.2.2.2.1 ρ.1.2.2.2.2.2.2.2.2.1 ρ.1.2.2.2.2.2.2.2.2.2.1 ρ.1.2.2.2.2.2.2.2.2.2.2.1 ρ.1.2.2.2.2.2.2.2.2.2.2.2.1 ρ.1.2.2.2.2.2.2.2.2.2.2.2.2.1 ρ.1.2.2.2.2.2.2.2.2.2.2.2.2.2.1 ρ.1.2.2.2.2.2.2.2.2.2.2.2.2.2.2.1 ρ.2.1.1 ρ.2.1.2.1 ρ.2.1.2.2.1 ρ.2.1.2.2.2.1 ρ.2.1.2.2.2.2.1 ρ.2.1.2.2.2.2.2.1 ρ.2.1.2.2.2.2.2.2.1 ρ.2.1.2.2.2.2.2.2.2.1 ρ.2.1.2.2.2.2.2.2.2.2.1 ρ.2.1.2.2.2.2.2.2.2.2.2.1 ρ.2.1.2.2.2.2.2.2.2.2.2.2.1 ρ.2.1.2.2.2.2.2.2.2.2.2.2.2.1 ρ.2.1.2.2.2.2.2.2.2.2.2.2.2.2.1 ρ.2.1.2.2.2.2.2.2.2.2.2.2.2.2.2.1
theorem fv (n:Nat):ya tys (fa Out (rt n)) (wd n) n (aa Tryz.f6) 0:=⟨trivial,⟨trivial,⟨trivial,⟨trivial,⟨⟨trivial,⟨⟨trivial,trivial⟩,trivial⟩⟩,⟨⟨trivial,⟨Wr n,⟨⟨trivial,⟨trivial,trivial⟩⟩,⟨⟨trivial,⟨trivial,⟨trivial,⟨⟨trivial,⟨⟨trivial,trivial⟩,trivial⟩⟩,⟨⟨trivial,⟨⟨⟨trivial,⟨⟨trivial,trivial⟩,trivial⟩⟩,trivial⟩,trivial⟩⟩,⟨⟨trivial,⟨⟨trivial,trivial⟩,trivial⟩⟩,⟨trivial,⟨trivial,⟨trivial,⟨⟨trivial,⟨trivial,trivial⟩⟩,⟨⟨trivial,⟨⟨trivial,trivial⟩,trivial⟩⟩,trivial⟩⟩⟩⟩⟩⟩⟩⟩⟩⟩⟩,trivial⟩⟩⟩⟩,⟨trivial,trivial⟩⟩⟩⟩⟩⟩⟩
theorem Mw (n:Nat):Enters Tryz.prog 6:=enters_of (c:=aa Tryz.f6) Tryz.func6 (by kernel_rfl) (by kernel_rfl)
def Hm (n:Nat):Entry:=⟨6,nY K5 (.one .bool) (fun xs=>mm n xs.1),none,none⟩
theorem Xy (n:Nat):EntryOk Tryz.prog gl (Hm n):=Ea (Mw n) fun xs y h=>ma tys_ok (Vz n) mixed (hint:=wd n) (n:=n) Tryz.func6 (Ha (fv n)) (oa (φ:=(fun y=>some (Out.ret (Ub (.one .bool) y)))) (by kernel_rfl) (PB n xs.1 _) h)
def nd (n:Nat):List Entry:=Hm n::rt n
theorem Ii (n:Nat):AllOk Tryz.prog gl (nd n):=.cons (Xy n) (Vz n)
def Qf (n:Nat) {R:Type} (s1:BA) (i:Int) (kn:BA→Int→Option R) (ko:(BA)→Option R) (kr:(Bool)→Option R) (kp:Int→Option R):Option R:=if (decide (i<(s1.size:Int)))=true then if 0≤i∧i<(s1.size:Int) then if ((bt s1 i)==(13:Int))=false then if 0≤i∧i<(s1.size:Int) then if ((bt s1 i)==(10:Int))=true then kr false else kn s1 (IntKind.wrap .i64 (i+(1:Int))) else none else kr false else none else ko s1
def Pb (n:Nat):Nat→BA→Int→Option (Lx (BA) (Bool))
 | 0,_,_=>none
 | m+1,s1,i=>Qf n s1 i (Pb n m) (fun a=>some (.out a)) (fun a=>some (.ret a)) (fun p=>some (.pan p))
theorem mF (n m:Nat) {S:Type}:∀ s1 i (φ:_→Option S),(Pb n (m+1) s1 i).bind φ=Qf n s1 i (fun s1 i=>(Pb n m s1 i).bind φ) (fun a=>φ (.out a)) (fun a=>φ (.ret a)) (fun p=>φ (.pan p)):=by
  intros;first | (simp only [Pb,Qf,ia,ba,iB,bB,oL,oX,nB,Option.bind_some]) | rfl
def ck:List Sl:=.dat .str::.top::.top::.dat (.int .i64)::tp 19 []
def ak:List RS:=[]
def ju:List Sl:=.dat .str::tp 22 []
def iu:List RS:=[]
def lu:List Sl:=.top::.top::.dat .bool::tp 20 []
def ku:List RS:=[]
def Qc (K:XE→List AV→la→Option Out):Lx (BA) (Bool)→Option Out:=fun x=>iY x (fun a=>Jh ju iu (a,()) () (K (.exit 0))) (fun a=>Jh lu ku (a,()) () (K .ret)) (fun _=>none)
def pp (n:Nat) {R:Type} (s:BA) (k:Bool→Option R):Option R:=(Pb n n s (0:Int)).bind fun x_1=>iY x_1 (fun a_2=>k (decide ((a_2.size:Int)≤(509:Int)))) (fun a_3=>k a_3) (fun _=>none)
def fj (n:Nat) (s:BA):Option Bool:=pp n s some
theorem dN (n:Nat) {S:Type}:∀ s (φ:_→Option S),(fj n s).bind φ=pp n s φ:=by
  intros;unfold fj pp;first | (simp only [ia,ba,iB,bB,oL,oX,nB,Option.bind_some]) | rfl
def xh (n:Nat):Hint Out:={ live:=fun c=>(cond (Nat.beq c 0) [(0,none),(3,none)] []),run:=fun c=>(cond (Nat.beq c 0) (some (vp ck ak fun σ ρ K=>(Pb n n σ.1 σ.2.1).bind (Qc K))) none),xm:=fun c q=>(cond (Nat.beq c 0&&Nat.beq (q.getD 1000000) 0&&q.isSome) (some [(0,none)]) (cond (Nat.beq c 1&&q.isNone) (some [(2,none)]) none)) }
def wh (n:Nat) (K:XE→List AV→la→Option Out) (m:Nat) (s1:BA) (i:Int):Option Out:=lf tys (fa Out (nd n)) (xh n) n (Da [1,0,1,0,0] (aa Tryz.f29)) 0 ck ak K m (s1,(i,())) ()
theorem gu (n:Nat) (K:XE→List AV→la→Option Out):∀ (m:Nat) s1 i,wh n K m s1 i=(Pb n m s1 i).bind (Qc K)
  | 0,_,_=>by kernel_rfl
  | m+1,s1,i=>by
    have h1:wh n K (m+1) s1 i=Qf n s1 i (wh n K m) (fun a=>Qc K (.out a)) (fun a=>Qc K (.ret a)) (fun p=>Qc K (.pan p)):=by kernel_rfl
    have h2:wh n K m=fun s1 i=>(Pb n m s1 i).bind (Qc K):=by
      repeat (refine funext fun _=>?_)
      exact gu n K m _ _
    rw [h1,h2];exact (mF n m _ _ (Qc K)).symm
theorem SC (n:Nat):le tys (fa Out (nd n)) (xh n) n (Da [1,0,1,0,0] (aa Tryz.f29)) 0:=Oa (sp:=ck) (rp:=ak) (by kernel_rfl) fun K σ ρ=>gu n K n σ.1 σ.2.1
theorem nF (n:Nat):ya tys (fa Out (nd n)) (xh n) n (aa Tryz.f29) 0:=⟨trivial,⟨⟨trivial,⟨SC n,⟨⟨trivial,⟨trivial,trivial⟩⟩,⟨⟨trivial,⟨⟨trivial,trivial⟩,trivial⟩⟩,trivial⟩⟩⟩⟩,⟨trivial,trivial⟩⟩⟩
theorem MH (n:Nat):Enters Tryz.prog 29:=enters_of (c:=aa Tryz.f29) Tryz.func29 (by kernel_rfl) (by kernel_rfl)
def IA (n:Nat):Entry:=⟨29,nY (.pair .str .unit) (.one .bool) (fun xs=>fj n xs.1),none,none⟩
theorem bK (n:Nat):EntryOk Tryz.prog gl (IA n):=Ea (MH n) fun xs y h=>ma tys_ok (Ii n) mixed (hint:=xh n) (n:=n) Tryz.func29 (Ha (nF n)) (oa (φ:=(fun y=>some (Out.ret (Ub (.one .bool) y)))) (by kernel_rfl) (dN n xs.1 _) h)
def qr (n:Nat):List Entry:=IA n::nd n
theorem zq (n:Nat):AllOk Tryz.prog gl (qr n):=.cons (bK n) (Ii n)
def nt (n:Nat) {R:Type} (c:T0) (k:(T0×Int×Unit)→Option R):Option R:=(Xx n c).bind fun v=>if (!v)=true then k (((0:Int),((0:Int),((0:Int),(((⟨#[]⟩:BA),(false,())),((0:Int),((⟨#[]⟩:BA),(false,(((⟨#[]⟩:BA),((⟨#[]⟩:BA),())),((⟨0,fun _=>ua (.pair .str (.pair .str .unit))⟩:Sq U0),((⟨0,fun _=>ua .str⟩:Sq BA),((0:Int),(false,())))))))))))),((1:Int),())) else (Ad n c).bind fun v1=>k ((v1.1,(v1.2.1,(v1.2.2.1,((v1.2.2.2.1,(v1.2.2.2.2.1,())),(v1.2.2.2.2.2.1,(v1.2.2.2.2.2.2.1,(v1.2.2.2.2.2.2.2.1,((v1.2.2.2.2.2.2.2.2.1,(v1.2.2.2.2.2.2.2.2.2.1,())),(v1.2.2.2.2.2.2.2.2.2.2.2.2.1,(v1.2.2.2.2.2.2.2.2.2.2.2.2.2.1,(v1.2.2.2.2.2.2.2.2.2.2.1,(v1.2.2.2.2.2.2.2.2.2.2.2.1,())))))))))))),((0:Int),()))
def Bv (n:Nat) (c:T0):Option (T0×Int×Unit):=nt n c some
theorem nO (n:Nat) {S:Type}:∀ c (φ:_→Option S),(Bv n c).bind φ=nt n c φ:=by
  intros;unfold Bv nt;first | (simp only [ia,ba,iB,bB,oL,oX,nB,Option.bind_some]) | rfl
def nx (n:Nat):Hint Out:={ live:=fun c=>[],run:=fun c=>none,xm:=fun c q=>none }
theorem QG (n:Nat):ya tys (fa Out (qr n)) (nx n) n (aa Tryz.f30) 0:=pa (fun _=>rfl) _ _ (by kernel_rfl)
theorem rJ (n:Nat):Enters Tryz.prog 30:=enters_of (c:=aa Tryz.f30) Tryz.func30 (by kernel_rfl) (by kernel_rfl)
def xD (n:Nat):Entry:=⟨30,nY K1 (.many iX) (fun xs=>Bv n xs.1),none,none⟩
theorem DM (n:Nat):EntryOk Tryz.prog gl (xD n):=Ea (rJ n) fun xs y h=>ma tys_ok (zq n) mixed (hint:=nx n) (n:=n) Tryz.func30 (Ha (QG n)) (oa (φ:=(fun y=>some (Out.ret (Ub (.many iX) y)))) (by kernel_rfl) (nO n xs.1 _) h)
def Ak (n:Nat):List Entry:=xD n::qr n
theorem ot (n:Nat):AllOk Tryz.prog gl (Ak n):=.cons (DM n) (zq n)
def vc (n:Nat) {R:Type} (a1 b1:(Sq BA)) (i:Int) (kn:(Sq BA)→(Sq BA)→Int→Option R) (ko:(Unit)→Option R) (kr:(Bool)→Option R) (kp:Int→Option R):Option R:=if (decide (i<(a1.n:Int)))=true then if 0≤i∧i<(a1.n:Int) then if 0≤i∧i<(b1.n:Int) then if (!((a1.at' (Int.toNat i)).toList==(b1.at' (Int.toNat i)).toList))=true then kr false else kn a1 b1 (IntKind.wrap .i64 (i+(1:Int))) else none else none else ko ()
def Qa (n:Nat):Nat→(Sq BA)→(Sq BA)→Int→Option (Lx (Unit) (Bool))
 | 0,_,_,_=>none
 | m+1,a1,b1,i=>vc n a1 b1 i (Qa n m) (fun a=>some (.out a)) (fun a=>some (.ret a)) (fun p=>some (.pan p))
theorem cw (n m:Nat) {S:Type}:∀ a1 b1 i (φ:_→Option S),(Qa n (m+1) a1 b1 i).bind φ=vc n a1 b1 i (fun a1 b1 i=>(Qa n m a1 b1 i).bind φ) (fun a=>φ (.out a)) (fun a=>φ (.ret a)) (fun p=>φ (.pan p)):=by
  intros;first | (simp only [Qa,vc,ia,ba,iB,bB,oL,oX,nB,Option.bind_some]) | rfl
def nf:List Sl:=.dat (.sl .str)::.dat (.sl .str)::.top::.top::.top::.dat (.int .i64)::tp 20 []
def mf:List RS:=[]
def Km:List Sl:=tp 26 []
def Jm:List RS:=[]
def Mm:List Sl:=tp 4 (.dat .bool::tp 21 [])
def Lm:List RS:=[]
def zb (K:XE→List AV→la→Option Out):Lx (Unit) (Bool)→Option Out:=fun x=>iY x (fun a=>Jh Km Jm () () (K (.exit 0))) (fun a=>Jh Mm Lm (a,()) () (K .ret)) (fun _=>none)
def jg (n:Nat) {R:Type} (a b:(Sq BA)) (k:Bool→Option R):Option R:=if ((a.n:Int) !=(b.n:Int))=true then k false else (Qa n n a b (0:Int)).bind fun x_1=>iY x_1 (fun a_2=>k true) (fun a_3=>k a_3) (fun _=>none)
def Xe (n:Nat) (a b:(Sq BA)):Option Bool:=jg n a b some
theorem PC (n:Nat) {S:Type}:∀ a b (φ:_→Option S),(Xe n a b).bind φ=jg n a b φ:=by
  intros;unfold Xe jg;first | (simp only [ia,ba,iB,bB,oL,oX,nB,Option.bind_some]) | rfl
def Zd (n:Nat):Hint Out:={ live:=fun c=>(cond (Nat.beq c 0) [(0,some (.sl .str)),(1,some (.sl .str)),(5,none)] []),run:=fun c=>(cond (Nat.beq c 0) (some (vp nf mf fun σ ρ K=>(Qa n n σ.1 σ.2.1 σ.2.2.1).bind (zb K))) none),xm:=fun c q=>(cond (Nat.beq c 0&&Nat.beq (q.getD 1000000) 0&&q.isSome) (some []) (cond (Nat.beq c 1&&q.isNone) (some [(4,none)]) none)) }
def Yd (n:Nat) (K:XE→List AV→la→Option Out) (m:Nat) (a1:(Sq BA)) (b1:(Sq BA)) (i:Int):Option Out:=lf tys (fa Out (Ak n)) (Zd n) n (Da [1,1,0,1,0,0] (aa Tryz.f18)) 0 nf mf K m (a1,(b1,(i,()))) ()
theorem Rk (n:Nat) (K:XE→List AV→la→Option Out):∀ (m:Nat) a1 b1 i,Yd n K m a1 b1 i=(Qa n m a1 b1 i).bind (zb K)
  | 0,_,_,_=>by kernel_rfl
  | m+1,a1,b1,i=>by
    have h1:Yd n K (m+1) a1 b1 i=vc n a1 b1 i (Yd n K m) (fun a=>zb K (.out a)) (fun a=>zb K (.ret a)) (fun p=>zb K (.pan p)):=by kernel_rfl
    have h2:Yd n K m=fun a1 b1 i=>(Qa n m a1 b1 i).bind (zb K):=by
      repeat (refine funext fun _=>?_)
      exact Rk n K m _ _ _
    rw [h1,h2];exact (cw n m _ _ _ (zb K)).symm
theorem Wt (n:Nat):le tys (fa Out (Ak n)) (Zd n) n (Da [1,1,0,1,0,0] (aa Tryz.f18)) 0:=Oa (sp:=nf) (rp:=mf) (by kernel_rfl) fun K σ ρ=>Rk n K n σ.1 σ.2.1 σ.2.2.1
theorem dw (n:Nat):ya tys (fa Out (Ak n)) (Zd n) n (aa Tryz.f18) 0:=⟨trivial,⟨⟨trivial,⟨⟨trivial,trivial⟩,trivial⟩⟩,⟨⟨trivial,⟨Wt n,⟨⟨trivial,⟨trivial,trivial⟩⟩,⟨⟨trivial,⟨⟨trivial,trivial⟩,trivial⟩⟩,trivial⟩⟩⟩⟩,⟨trivial,trivial⟩⟩⟩⟩
theorem ry (n:Nat):Enters Tryz.prog 18:=enters_of (c:=aa Tryz.f18) Tryz.func18 (by kernel_rfl) (by kernel_rfl)
def Sn (n:Nat):Entry:=⟨18,nY (.pair (.sl .str) (.pair (.sl .str) .unit)) (.one .bool) (fun xs=>Xe n xs.1 xs.2.1),none,none⟩
theorem FA (n:Nat):EntryOk Tryz.prog gl (Sn n):=Ea (ry n) fun xs y h=>ma tys_ok (ot n) mixed (hint:=Zd n) (n:=n) Tryz.func18 (Ha (dw n)) (oa (φ:=(fun y=>some (Out.ret (Ub (.one .bool) y)))) (by kernel_rfl) (PC n xs.1 xs.2.1 _) h)
def Id (n:Nat):List Entry:=Sn n::Ak n
theorem ej (n:Nat):AllOk Tryz.prog gl (Id n):=.cons (FA n) (ot n)
def Ul (n:Nat) {R:Type} (s1:BA) (by01 from0 i:Int) (l:(Sq BA)) (kn:BA→Int→Int→Int→(Sq BA)→Option R) (ko:((Sq BA))→Option R) (kr:Unit→Option R) (kp:Int→Option R):Option R:=if (decide (i≤(s1.size:Int)))=true then if (i==(s1.size:Int))=false then if 0≤i∧i<(s1.size:Int) then if ((bt s1 i)==by01)=true then if 0≤i∧i≤(s1.size:Int) then if 0≤from0∧from0≤i then if db (l.n+1) 16=true then kn s1 by01 (IntKind.wrap .i64 (i+(1:Int))) (IntKind.wrap .i64 (i+(1:Int))) (⟨(l.n+1),fun q=>if q<l.n then l.at' q else (fun q=>List.getD (α:=BA) [(s1.extract (Int.toNat from0) (Int.toNat i))] q (ua .str)) (q - l.n)⟩:Sq BA) else none else none else none else kn s1 by01 from0 (IntKind.wrap .i64 (i+(1:Int))) l else none else if 0≤i∧i≤(s1.size:Int) then if 0≤from0∧from0≤i then if db (l.n+1) 16=true then kn s1 by01 (IntKind.wrap .i64 (i+(1:Int))) (IntKind.wrap .i64 (i+(1:Int))) (⟨(l.n+1),fun q=>if q<l.n then l.at' q else (fun q=>List.getD (α:=BA) [(s1.extract (Int.toNat from0) (Int.toNat i))] q (ua .str)) (q - l.n)⟩:Sq BA) else none else none else none else ko l
def Jd (n:Nat):Nat→BA→Int→Int→Int→(Sq BA)→Option (Lx ((Sq BA)) Unit)
 | 0,_,_,_,_,_=>none
 | m+1,s1,by01,from0,i,l=>Ul n s1 by01 from0 i l (Jd n m) (fun a=>some (.out a)) (fun a=>some (.ret a)) (fun p=>some (.pan p))
theorem iF (n m:Nat) {S:Type}:∀ s1 by01 from0 i l (φ:_→Option S),(Jd n (m+1) s1 by01 from0 i l).bind φ=Ul n s1 by01 from0 i l (fun s1 by01 from0 i l=>(Jd n m s1 by01 from0 i l).bind φ) (fun a=>φ (.out a)) (fun a=>φ (.ret a)) (fun p=>φ (.pan p)):=by
  intros;first | (simp only [Jd,Ul,ia,ba,iB,bB,oL,oX,nB,Option.bind_some]) | rfl
def Xj:List Sl:=.dat .str::.dat (.int .u8)::.top::.top::.top::.row 0::.dat (.int .i64)::.dat (.int .i64)::tp 27 []
def Wj:List RS:=[.row 9 1 .str true false]
def au:List Sl:=tp 5 (.row 0::tp 29 [])
def Zt:List RS:=[.row 9 1 .str true false]
def Nc (K:XE→List AV→la→Option Out):Lx ((Sq BA)) Unit→Option Out:=fun x=>iY x (fun a=>Jh au Zt () (a,()) (K (.exit 0))) (fun _=>none) (fun _=>none)
def ew (n:Nat) {R:Type} (s:BA) (by0:Int) (k:(Sq BA)→Option R):Option R:=(Jd n n s by0 (0:Int) (0:Int) (⟨0,fun _=>ua .str⟩:Sq BA)).bind fun x_1=>iY x_1 (fun a_2=>k a_2) (fun _=>none) (fun _=>none)
def Xt (n:Nat) (s:BA) (by0:Int):Option (Sq BA):=ew n s by0 some
theorem bN (n:Nat) {S:Type}:∀ s by0 (φ:_→Option S),(Xt n s by0).bind φ=ew n s by0 φ:=by
  intros;unfold Xt ew;first | (simp only [ia,ba,iB,bB,oL,oX,nB,Option.bind_some]) | rfl
def th (n:Nat):Hint Out:={ live:=fun c=>(cond (Nat.beq c 0) [(0,none),(1,none),(5,some (.sl .str)),(6,none),(7,none)] []),run:=fun c=>(cond (Nat.beq c 0) (some (vp Xj Wj fun σ ρ K=>(Jd n n σ.1 σ.2.1 σ.2.2.1 σ.2.2.2.1 ρ.1).bind (Nc K))) none),xm:=fun c q=>(cond (Nat.beq c 0&&Nat.beq (q.getD 1000000) 0&&q.isSome) (some [(5,some (.sl .str))]) none) }
def sh (n:Nat) (K:XE→List AV→la→Option Out) (m:Nat) (s1:BA) (by01:Int) (from0:Int) (i:Int) (l:(Sq BA)):Option Out:=lf tys (fa Out (Id n)) (th n) n (Da [1,1,1,0,1,0,0] (aa Tryz.f48)) 0 Xj Wj K m (s1,(by01,(from0,(i,())))) (l,())
theorem Yt (n:Nat) (K:XE→List AV→la→Option Out):∀ (m:Nat) s1 by01 from0 i l,sh n K m s1 by01 from0 i l=(Jd n m s1 by01 from0 i l).bind (Nc K)
  | 0,_,_,_,_,_=>by kernel_rfl
  | m+1,s1,by01,from0,i,l=>by
    have h1:sh n K (m+1) s1 by01 from0 i l=Ul n s1 by01 from0 i l (sh n K m) (fun a=>Nc K (.out a)) (fun a=>Nc K (.ret a)) (fun p=>Nc K (.pan p)):=by kernel_rfl
    have h2:sh n K m=fun s1 by01 from0 i l=>(Jd n m s1 by01 from0 i l).bind (Nc K):=by
      repeat (refine funext fun _=>?_)
      exact Yt n K m _ _ _ _ _
    rw [h1,h2];exact (iF n m _ _ _ _ _ (Nc K)).symm
theorem QC (n:Nat):le tys (fa Out (Id n)) (th n) n (Da [1,1,1,0,1,0,0] (aa Tryz.f48)) 0:=Oa (sp:=Xj) (rp:=Wj) (by kernel_rfl) fun K σ ρ=>Yt n K n σ.1 σ.2.1 σ.2.2.1 σ.2.2.2.1 ρ.1
theorem jF (n:Nat):ya tys (fa Out (Id n)) (th n) n (aa Tryz.f48) 0:=⟨trivial,⟨trivial,⟨trivial,⟨⟨trivial,⟨QC n,⟨⟨trivial,⟨trivial,trivial⟩⟩,⟨⟨trivial,⟨⟨trivial,trivial⟩,trivial⟩⟩,trivial⟩⟩⟩⟩,⟨trivial,trivial⟩⟩⟩⟩⟩
theorem KH (n:Nat):Enters Tryz.prog 48:=enters_of (c:=aa Tryz.f48) Tryz.func48 (by kernel_rfl) (by kernel_rfl)
def GA (n:Nat):Entry:=⟨48,nY (.pair .str (.pair (.int .u8) .unit)) (.one (.sl .str)) (fun xs=>Xt n xs.1 xs.2.1),none,none⟩
theorem ZJ (n:Nat):EntryOk Tryz.prog gl (GA n):=Ea (KH n) fun xs y h=>ma tys_ok (ej n) mixed (hint:=th n) (n:=n) Tryz.func48 (Ha (jF n)) (oa (φ:=(fun y=>some (Out.ret (Ub (.one (.sl .str)) y)))) (by kernel_rfl) (bN n xs.1 xs.2.1 _) h)
def ni (n:Nat):List Entry:=GA n::Id n
theorem xq (n:Nat):AllOk Tryz.prog gl (ni n):=.cons (ZJ n) (ej n)
def Vl (n:Nat) {R:Type} (s1:BA) (n0 i:Int) (kn:BA→Int→Int→Option R) (ko:(Int)→Option R) (kr:(Int×Bool)→Option R) (kp:Int→Option R):Option R:=if (decide (i<(s1.size:Int)))=true then if 0≤i∧i<(s1.size:Int) then if (decide ((bt s1 i)<(48:Int)))=false then if 0≤i∧i<(s1.size:Int) then if (decide ((bt s1 i)>(57:Int)))=true then kr ((0:Int),false) else if 0≤i∧i<(s1.size:Int) then kn s1 (IntKind.wrap .i64 ((IntKind.wrap .i64 ((10:Int)*n0))+(IntKind.wrap .i64 (IntKind.wrap .u8 ((bt s1 i) - (48:Int)))))) (IntKind.wrap .i64 (i+(1:Int))) else none else none else kr ((0:Int),false) else none else ko n0
def Oc (n:Nat):Nat→BA→Int→Int→Option (Lx (Int) (Int×Bool))
 | 0,_,_,_=>none
 | m+1,s1,n0,i=>Vl n s1 n0 i (Oc n m) (fun a=>some (.out a)) (fun a=>some (.ret a)) (fun p=>some (.pan p))
theorem kF (n m:Nat) {S:Type}:∀ s1 n0 i (φ:_→Option S),(Oc n (m+1) s1 n0 i).bind φ=Vl n s1 n0 i (fun s1 n0 i=>(Oc n m s1 n0 i).bind φ) (fun a=>φ (.out a)) (fun a=>φ (.ret a)) (fun p=>φ (.pan p)):=by
  intros;first | (simp only [Oc,Vl,ia,ba,iB,bB,oL,oX,nB,Option.bind_some]) | rfl
def Zj:List Sl:=.dat .str::.top::.top::.top::.dat (.int .i64)::.dat (.int .i64)::tp 42 []
def Yj:List RS:=[]
def du:List Sl:=tp 4 (.dat (.int .i64)::tp 43 [])
def cu:List RS:=[]
def fu:List Sl:=.top::.top::.dat (.int .i64)::.dat .bool::tp 44 []
def eu:List RS:=[]
def Pc (K:XE→List AV→la→Option Out):Lx (Int) (Int×Bool)→Option Out:=fun x=>iY x (fun a=>Jh du cu (a,()) () (K (.exit 0))) (fun a=>Jh fu eu (a.1,(a.2,())) () (K .ret)) (fun _=>none)
def fw (n:Nat) {R:Type} (s:BA) (k:(Int×Bool×Unit)→Option R):Option R:=if (s.toList==(⟨#[]⟩:BA).toList)=false then if (decide ((s.size:Int)>(16:Int)))=false then if (decide ((s.size:Int)>(1:Int)))=true then if 0≤(0:Int)∧(0:Int)<(s.size:Int) then if ((bt s (0:Int))==(48:Int))=true then k ((0:Int),(false,())) else (Oc n n s (0:Int) (0:Int)).bind fun x_1=>iY x_1 (fun a_2=>k (a_2,(true,()))) (fun a_3=>k (a_3.1,(a_3.2,()))) (fun _=>none) else none else (Oc n n s (0:Int) (0:Int)).bind fun x_4=>iY x_4 (fun a_5=>k (a_5,(true,()))) (fun a_6=>k (a_6.1,(a_6.2,()))) (fun _=>none) else k ((0:Int),(false,())) else k ((0:Int),(false,()))
def iz (n:Nat) (s:BA):Option (Int×Bool×Unit):=fw n s some
theorem cN (n:Nat) {S:Type}:∀ s (φ:_→Option S),(iz n s).bind φ=fw n s φ:=by
  intros;unfold iz fw;first | (simp only [ia,ba,iB,bB,oL,oX,nB,Option.bind_some]) | rfl
def vh (n:Nat):Hint Out:={ live:=fun c=>(cond (Nat.beq c 0) (lv [0,4,5]) []),run:=fun c=>(cond (Nat.beq c 0) (some (vp Zj Yj fun σ ρ K=>(Oc n n σ.1 σ.2.1 σ.2.2.1).bind (Pc K))) none),xm:=fun c q=>(cond (Nat.beq c 0&&Nat.beq (q.getD 1000000) 0&&q.isSome) (some [(4,none)]) (cond (Nat.beq c 1&&q.isNone) (some [(2,none),(3,none)]) none)) }
def uh (n:Nat) (K:XE→List AV→la→Option Out) (m:Nat) (s1:BA) (n0:Int) (i:Int):Option Out:=lf tys (fa Out (ni n)) (vh n) n (Da [1,1,1,0,1,0,0] (aa Tryz.f84)) 0 Zj Yj K m (s1,(n0,(i,()))) ()
theorem bu (n:Nat) (K:XE→List AV→la→Option Out):∀ (m:Nat) s1 n0 i,uh n K m s1 n0 i=(Oc n m s1 n0 i).bind (Pc K)
  | 0,_,_,_=>by kernel_rfl
  | m+1,s1,n0,i=>by
    have h1:uh n K (m+1) s1 n0 i=Vl n s1 n0 i (uh n K m) (fun a=>Pc K (.out a)) (fun a=>Pc K (.ret a)) (fun p=>Pc K (.pan p)):=by kernel_rfl
    have h2:uh n K m=fun s1 n0 i=>(Oc n m s1 n0 i).bind (Pc K):=by
      repeat (refine funext fun _=>?_)
      exact bu n K m _ _ _
    rw [h1,h2];exact (kF n m _ _ _ (Pc K)).symm
theorem RC (n:Nat):le tys (fa Out (ni n)) (vh n) n (Da [1,1,1,0,1,0,0] (aa Tryz.f84)) 0:=Oa (sp:=Zj) (rp:=Yj) (by kernel_rfl) fun K σ ρ=>bu n K n σ.1 σ.2.1 σ.2.2.1
theorem lF (n:Nat):ya tys (fa Out (ni n)) (vh n) n (aa Tryz.f84) 0:=⟨trivial,⟨⟨trivial,⟨⟨trivial,trivial⟩,trivial⟩⟩,⟨trivial,⟨⟨trivial,⟨RC n,⟨⟨trivial,⟨trivial,trivial⟩⟩,⟨⟨⟨trivial,⟨⟨trivial,trivial⟩,trivial⟩⟩,trivial⟩,trivial⟩⟩⟩⟩,⟨trivial,trivial⟩⟩⟩⟩⟩
theorem LH (n:Nat):Enters Tryz.prog 84:=enters_of (c:=aa Tryz.f84) Tryz.func84 (by kernel_rfl) (by kernel_rfl)
def HA (n:Nat):Entry:=⟨84,nY (.pair .str .unit) (.many (.pair (.int .i64) (.pair .bool .unit))) (fun xs=>iz n xs.1),none,none⟩
theorem aK (n:Nat):EntryOk Tryz.prog gl (HA n):=Ea (LH n) fun xs y h=>ma tys_ok (xq n) mixed (hint:=vh n) (n:=n) Tryz.func84 (Ha (lF n)) (oa (φ:=(fun y=>some (Out.ret (Ub (.many (.pair (.int .i64) (.pair .bool .unit))) y)))) (by kernel_rfl) (cN n xs.1 _) h)
def pi (n:Nat):List Entry:=HA n::ni n
theorem yq (n:Nat):AllOk Tryz.prog gl (pi n):=.cons (aK n) (xq n)
def yh (n:Nat) {R:Type} (l:(Sq BA)) (i:Int) (kn:(Sq BA)→Int→Option R) (ko:((Sq BA))→Option R) (kr:(Bool)→Option R) (kp:Int→Option R):Option R:=if (decide (i<(l.n:Int)))=true then if 0≤i∧i<(l.n:Int) then (iz n (l.at' (Int.toNat i))).bind fun v1=>if (!v1.2.1)=false then if (decide (v1.1>(255:Int)))=true then kr false else kn l (IntKind.wrap .i64 (i+(1:Int))) else kr false else none else ko l
def Zb (n:Nat):Nat→(Sq BA)→Int→Option (Lx ((Sq BA)) (Bool))
 | 0,_,_=>none
 | m+1,l,i=>yh n l i (Zb n m) (fun a=>some (.out a)) (fun a=>some (.ret a)) (fun p=>some (.pan p))
theorem MA (n m:Nat) {S:Type}:∀ l i (φ:_→Option S),(Zb n (m+1) l i).bind φ=yh n l i (fun l i=>(Zb n m l i).bind φ) (fun a=>φ (.out a)) (fun a=>φ (.ret a)) (fun p=>φ (.pan p)):=by
  intros;first | (simp only [Zb,yh,ia,ba,iB,bB,oL,oX,nB,Option.bind_some]) | rfl
def Ng:List Sl:=.top::.top::.top::.dat (.sl .str)::.dat (.int .i64)::tp 47 []
def Mg:List RS:=[]
def Sp:List Sl:=.top::.top::.top::.dat (.sl .str)::tp 48 []
def Rp:List RS:=[]
def Up:List Sl:=.top::.top::.dat .bool::tp 49 []
def Tp:List RS:=[]
def Qb (K:XE→List AV→la→Option Out):Lx ((Sq BA)) (Bool)→Option Out:=fun x=>iY x (fun a=>Jh Sp Rp (a,()) () (K (.exit 0))) (fun a=>Jh Up Tp (a,()) () (K .ret)) (fun _=>none)
def Tn (n:Nat) {R:Type} (s:BA) (k:Bool→Option R):Option R:=if (decide ((s.size:Int)<(2:Int)))=false then if 0≤(0:Int)∧(0:Int)<(s.size:Int) then if ((bt s (0:Int)) !=(91:Int))=false then if 0≤(IntKind.wrap .i64 ((s.size:Int) - (1:Int)))∧(IntKind.wrap .i64 ((s.size:Int) - (1:Int)))<(s.size:Int) then if ((bt s (IntKind.wrap .i64 ((s.size:Int) - (1:Int)))) !=(93:Int))=true then k false else if 0≤(IntKind.wrap .i64 ((s.size:Int) - (1:Int)))∧(IntKind.wrap .i64 ((s.size:Int) - (1:Int)))≤(s.size:Int) then if 0≤(1:Int)∧(1:Int)≤(IntKind.wrap .i64 ((s.size:Int) - (1:Int))) then (Xt n (s.extract (Int.toNat (1:Int)) (Int.toNat (IntKind.wrap .i64 ((s.size:Int) - (1:Int))))) (46:Int)).bind fun v=>(Zb n n v (0:Int)).bind fun x_1=>iY x_1 (fun a_2=>k ((a_2.n:Int)==(4:Int))) (fun a_3=>k a_3) (fun _=>none) else none else none else none else k false else none else k false
def qp (n:Nat) (s:BA):Option Bool:=Tn n s some
theorem OH (n:Nat) {S:Type}:∀ s (φ:_→Option S),(qp n s).bind φ=Tn n s φ:=by
  intros;unfold qp Tn;first | (simp only [ia,ba,iB,bB,oL,oX,nB,Option.bind_some]) | rfl
def sf (n:Nat):Hint Out:={ live:=fun c=>(cond (Nat.beq c 0) [(3,some (.sl .str)),(4,none)] []),run:=fun c=>(cond (Nat.beq c 0) (some (vp Ng Mg fun σ ρ K=>(Zb n n σ.1 σ.2.1).bind (Qb K))) none),xm:=fun c q=>(cond (Nat.beq c 0&&Nat.beq (q.getD 1000000) 0&&q.isSome) (some [(3,some (.sl .str))]) (cond (Nat.beq c 1&&q.isNone) (some [(2,none)]) none)) }
def qf (n:Nat) (K:XE→List AV→la→Option Out) (m:Nat) (l:(Sq BA)) (i:Int):Option Out:=lf tys (fa Out (pi n)) (sf n) n (Da [1,1,1,0,1,0,0] (aa Tryz.f47)) 0 Ng Mg K m (l,(i,())) ()
theorem Un (n:Nat) (K:XE→List AV→la→Option Out):∀ (m:Nat) l i,qf n K m l i=(Zb n m l i).bind (Qb K)
  | 0,_,_=>by kernel_rfl
  | m+1,l,i=>by
    have h1:qf n K (m+1) l i=yh n l i (qf n K m) (fun a=>Qb K (.out a)) (fun a=>Qb K (.ret a)) (fun p=>Qb K (.pan p)):=by kernel_rfl
    have h2:qf n K m=fun l i=>(Zb n m l i).bind (Qb K):=by
      repeat (refine funext fun _=>?_)
      exact Un n K m _ _
    rw [h1,h2];exact (MA n m _ _ (Qb K)).symm
theorem sy (n:Nat):le tys (fa Out (pi n)) (sf n) n (Da [1,1,1,0,1,0,0] (aa Tryz.f47)) 0:=Oa (sp:=Ng) (rp:=Mg) (by kernel_rfl) fun K σ ρ=>Un n K n σ.1 σ.2.1
theorem NA (n:Nat):ya tys (fa Out (pi n)) (sf n) n (aa Tryz.f47) 0:=⟨trivial,⟨⟨trivial,⟨⟨trivial,trivial⟩,trivial⟩⟩,⟨trivial,⟨⟨trivial,⟨sy n,⟨⟨trivial,⟨trivial,trivial⟩⟩,⟨⟨trivial,⟨trivial,⟨⟨trivial,trivial⟩,trivial⟩⟩⟩,trivial⟩⟩⟩⟩,⟨trivial,trivial⟩⟩⟩⟩⟩
theorem WC (n:Nat):Enters Tryz.prog 47:=enters_of (c:=aa Tryz.f47) Tryz.func47 (by kernel_rfl) (by kernel_rfl)
def mu (n:Nat):Entry:=⟨47,nY (.pair .str .unit) (.one .bool) (fun xs=>qp n xs.1),none,none⟩
theorem pF (n:Nat):EntryOk Tryz.prog gl (mu n):=Ea (WC n) fun xs y h=>ma tys_ok (yq n) mixed (hint:=sf n) (n:=n) Tryz.func47 (Ha (NA n)) (oa (φ:=(fun y=>some (Out.ret (Ub (.one .bool) y)))) (by kernel_rfl) (OH n xs.1 _) h)
def Wl (n:Nat):List Entry:=mu n::pi n
theorem Cm (n:Nat):AllOk Tryz.prog gl (Wl n):=.cons (pF n) (yq n)
def gw (n:Nat) {R:Type} (c:Int) (k:Bool→Option R):Option R:=if (decide (c≥(48:Int)))=true then k (decide (c≤(57:Int))) else k false
def ou (n:Nat) (c:Int):Option Bool:=gw n c some
theorem eN (n:Nat) {S:Type}:∀ c (φ:_→Option S),(ou n c).bind φ=gw n c φ:=by
  intros;unfold ou gw;first | (simp only [ia,ba,iB,bB,oL,oX,nB,Option.bind_some]) | rfl
def qu (n:Nat):Hint Out:={ live:=fun c=>[],run:=fun c=>none,xm:=fun c q=>none }
theorem qF (n:Nat):ya tys (fa Out (Wl n)) (qu n) n (aa Tryz.f49) 0:=pa (fun _=>rfl) _ _ (by kernel_rfl)
theorem PH (n:Nat):Enters Tryz.prog 49:=enters_of (c:=aa Tryz.f49) Tryz.func49 (by kernel_rfl) (by kernel_rfl)
def OA (n:Nat):Entry:=⟨49,nY (.pair (.int .u8) .unit) (.one .bool) (fun xs=>ou n xs.1),none,none⟩
theorem dK (n:Nat):EntryOk Tryz.prog gl (OA n):=Ea (PH n) fun xs y h=>ma tys_ok (Cm n) mixed (hint:=qu n) (n:=n) Tryz.func49 (Ha (qF n)) (oa (φ:=(fun y=>some (Out.ret (Ub (.one .bool) y)))) (by kernel_rfl) (eN n xs.1 _) h)
def Ke (n:Nat):List Entry:=OA n::Wl n
theorem Cq (n:Nat):AllOk Tryz.prog gl (Ke n):=.cons (dK n) (Cm n)
def ij (n:Nat) {R:Type} (l1:(Sq BA)) (i1:Int) (w:BA) (k0:Int) (kn:(Sq BA)→Int→BA→Int→Option R) (ko:((Sq BA)×Int)→Option R) (kr:(Bool)→Option R) (kp:Int→Option R):Option R:=if (decide (k0<(w.size:Int)))=true then if 0≤k0∧k0<(w.size:Int) then if (decide ((bt w k0)≥(97:Int)))=true then if 0≤k0∧k0<(w.size:Int) then if (!(decide ((bt w k0)≤(122:Int))))=true then if 0≤k0∧k0<(w.size:Int) then (ou n (bt w k0)).bind fun v2=>if (!v2)=true then if 0≤k0∧k0<(w.size:Int) then if ((bt w k0) !=(45:Int))=true then kr false else kn l1 i1 w (IntKind.wrap .i64 (k0+(1:Int))) else none else kn l1 i1 w (IntKind.wrap .i64 (k0+(1:Int))) else none else kn l1 i1 w (IntKind.wrap .i64 (k0+(1:Int))) else none else if 0≤k0∧k0<(w.size:Int) then (ou n (bt w k0)).bind fun v3=>if (!v3)=true then if 0≤k0∧k0<(w.size:Int) then if ((bt w k0) !=(45:Int))=true then kr false else kn l1 i1 w (IntKind.wrap .i64 (k0+(1:Int))) else none else kn l1 i1 w (IntKind.wrap .i64 (k0+(1:Int))) else none else none else ko (l1,i1)
def Dc (n:Nat):Nat→(Sq BA)→Int→BA→Int→Option (Lx ((Sq BA)×Int) (Bool))
 | 0,_,_,_,_=>none
 | m+1,l1,i1,w,k0=>ij n l1 i1 w k0 (Dc n m) (fun a=>some (.out a)) (fun a=>some (.ret a)) (fun p=>some (.pan p))
theorem UC (n m:Nat) {S:Type}:∀ l1 i1 w k0 (φ:_→Option S),(Dc n (m+1) l1 i1 w k0).bind φ=ij n l1 i1 w k0 (fun l1 i1 w k0=>(Dc n m l1 i1 w k0).bind φ) (fun a=>φ (.out a)) (fun a=>φ (.ret a)) (fun p=>φ (.pan p)):=by
  intros;first | (simp only [Dc,ij,ia,ba,iB,bB,oL,oX,nB,Option.bind_some]) | rfl
def ti:List Sl:=.top::.top::.top::.dat (.sl .str)::.dat (.int .i64)::.dat .str::.dat (.int .i64)::tp 68 []
def si:List RS:=[]
def yr:List Sl:=.top::.top::.top::.dat (.sl .str)::.dat (.int .i64)::tp 70 []
def xr:List RS:=[]
def Ar:List Sl:=.top::.top::.dat .bool::tp 72 []
def zr:List RS:=[]
def ic (K:XE→List AV→la→Option Out):Lx ((Sq BA)×Int) (Bool)→Option Out:=fun x=>iY x (fun a=>Jh yr xr (a.1,(a.2,())) () (K (.exit 2))) (fun a=>Jh Ar zr (a,()) () (K .ret)) (fun _=>none)
def gj (n:Nat) {R:Type} (l:(Sq BA)) (i:Int) (kn:(Sq BA)→Int→Option R) (ko:(Unit)→Option R) (kr:(Bool)→Option R) (kp:Int→Option R):Option R:=if (decide (i<(l.n:Int)))=true then if 0≤i∧i<(l.n:Int) then if (decide (((l.at' (Int.toNat i)).size:Int)<(1:Int)))=false then if (decide (((l.at' (Int.toNat i)).size:Int)>(63:Int)))=false then if 0≤(0:Int)∧(0:Int)<((l.at' (Int.toNat i)).size:Int) then if ((bt (l.at' (Int.toNat i)) (0:Int))==(45:Int))=false then if 0≤(IntKind.wrap .i64 (((l.at' (Int.toNat i)).size:Int) - (1:Int)))∧(IntKind.wrap .i64 (((l.at' (Int.toNat i)).size:Int) - (1:Int)))<((l.at' (Int.toNat i)).size:Int) then if ((bt (l.at' (Int.toNat i)) (IntKind.wrap .i64 (((l.at' (Int.toNat i)).size:Int) - (1:Int))))==(45:Int))=true then kr false else (Dc n n l i (l.at' (Int.toNat i)) (0:Int)).bind fun x_1=>iY x_1 (fun a_2=>kn a_2.1 (IntKind.wrap .i64 (a_2.2+(1:Int)))) (fun a_3=>kr a_3) (fun _=>none) else none else kr false else none else kr false else kr false else none else ko ()
def Cc (n:Nat):Nat→(Sq BA)→Int→Option (Lx (Unit) (Bool))
 | 0,_,_=>none
 | m+1,l,i=>gj n l i (Cc n m) (fun a=>some (.out a)) (fun a=>some (.ret a)) (fun p=>some (.pan p))
theorem TC (n m:Nat) {S:Type}:∀ l i (φ:_→Option S),(Cc n (m+1) l i).bind φ=gj n l i (fun l i=>(Cc n m l i).bind φ) (fun a=>φ (.out a)) (fun a=>φ (.ret a)) (fun p=>φ (.pan p)):=by
  intros;first | (simp only [Cc,gj,ia,ba,iB,bB,oL,oX,nB,Option.bind_some]) | rfl
def ri:List Sl:=.top::.top::.top::.dat (.sl .str)::.dat (.int .i64)::tp 70 []
def qi:List RS:=[]
def tr:List Sl:=tp 75 []
def sr:List RS:=[]
def vr:List Sl:=.top::.top::.dat .bool::tp 72 []
def ur:List RS:=[]
def fc (K:XE→List AV→la→Option Out):Lx (Unit) (Bool)→Option Out:=fun x=>iY x (fun a=>Jh tr sr () () (K (.exit 0))) (fun a=>Jh vr ur (a,()) () (K .ret)) (fun _=>none)
def rr (n:Nat) {R:Type} (s:BA) (k:Bool→Option R):Option R:=if (decide ((s.size:Int)>(255:Int)))=true then k false else (qp n s).bind fun v=>if v=true then k true else (Xt n s (46:Int)).bind fun v1=>(Cc n n v1 (0:Int)).bind fun x_1=>iY x_1 (fun a_2=>k true) (fun a_3=>k a_3) (fun _=>none)
def Sk (n:Nat) (s:BA):Option Bool:=rr n s some
theorem cK (n:Nat) {S:Type}:∀ s (φ:_→Option S),(Sk n s).bind φ=rr n s φ:=by
  intros;unfold Sk rr;first | (simp only [ia,ba,iB,bB,oL,oX,nB,Option.bind_some]) | rfl
def od (n:Nat):Hint Out:={ live:=fun c=>(cond (Nat.beq c 0) [(3,some (.sl .str)),(4,none)] (cond (Nat.beq c 2) [(3,some (.sl .str)),(4,none),(5,none),(6,none)] [])),run:=fun c=>(cond (Nat.beq c 0) (some (vp ri qi fun σ ρ K=>(Cc n n σ.1 σ.2.1).bind (fc K))) (cond (Nat.beq c 2) (some (vp ti si fun σ ρ K=>(Dc n n σ.1 σ.2.1 σ.2.2.1 σ.2.2.2.1).bind (ic K))) none)),xm:=fun c q=>(cond (Nat.beq c 0&&Nat.beq (q.getD 1000000) 0&&q.isSome) (some []) (cond (Nat.beq c 2&&Nat.beq (q.getD 1000000) 2&&q.isSome) (some [(3,some (.sl .str)),(4,none)]) (cond (Nat.beq c 3&&q.isNone) (some [(2,none)]) (cond (Nat.beq c 1&&q.isNone) (some [(2,none)]) none)))) }
def mg (n:Nat) (K:XE→List AV→la→Option Out) (m:Nat) (l1:(Sq BA)) (i1:Int) (w:BA) (k0:Int):Option Out:=lf tys (fa Out (Ke n)) (od n) n (Da [1,1,1,1,0,1,0,0,1,0,0,1,1,1,0,0] (aa Tryz.f31)) 2 ti si K m (l1,(i1,(w,(k0,())))) ()
theorem Bq (n:Nat) (K:XE→List AV→la→Option Out):∀ (m:Nat) l1 i1 w k0,mg n K m l1 i1 w k0=(Dc n m l1 i1 w k0).bind (ic K)
  | 0,_,_,_,_=>by kernel_rfl
  | m+1,l1,i1,w,k0=>by
    have h1:mg n K (m+1) l1 i1 w k0=ij n l1 i1 w k0 (mg n K m) (fun a=>ic K (.out a)) (fun a=>ic K (.ret a)) (fun p=>ic K (.pan p)):=by kernel_rfl
    have h2:mg n K m=fun l1 i1 w k0=>(Dc n m l1 i1 w k0).bind (ic K):=by
      repeat (refine funext fun _=>?_)
      exact Bq n K m _ _ _ _
    rw [h1,h2];exact (UC n m _ _ _ _ (ic K)).symm
theorem KA (n:Nat):le tys (fa Out (Ke n)) (od n) n (Da [1,1,1,1,0,1,0,0,1,0,0,1,1,1,0,0] (aa Tryz.f31)) 2:=Oa (sp:=ti) (rp:=si) (by kernel_rfl) fun K σ ρ=>Bq n K n σ.1 σ.2.1 σ.2.2.1 σ.2.2.2.1
def kg (n:Nat) (K:XE→List AV→la→Option Out) (m:Nat) (l:(Sq BA)) (i:Int):Option Out:=lf tys (fa Out (Ke n)) (od n) n (Da [1,1,1,1,0,1,0,0] (aa Tryz.f31)) 0 ri qi K m (l,(i,())) ()
theorem Aq (n:Nat) (K:XE→List AV→la→Option Out):∀ (m:Nat) l i,kg n K m l i=(Cc n m l i).bind (fc K)
  | 0,_,_=>by kernel_rfl
  | m+1,l,i=>by
    have h1:kg n K (m+1) l i=gj n l i (kg n K m) (fun a=>fc K (.out a)) (fun a=>fc K (.ret a)) (fun p=>fc K (.pan p)):=by kernel_rfl
    have h2:kg n K m=fun l i=>(Cc n m l i).bind (fc K):=by
      repeat (refine funext fun _=>?_)
      exact Aq n K m _ _
    rw [h1,h2];exact (TC n m _ _ (fc K)).symm
theorem JA (n:Nat):le tys (fa Out (Ke n)) (od n) n (Da [1,1,1,1,0,1,0,0] (aa Tryz.f31)) 0:=Oa (sp:=ri) (rp:=qi) (by kernel_rfl) fun K σ ρ=>Aq n K n σ.1 σ.2.1
theorem VC (n:Nat):ya tys (fa Out (Ke n)) (od n) n (aa Tryz.f31) 0:=⟨trivial,⟨⟨trivial,⟨⟨trivial,trivial⟩,trivial⟩⟩,⟨⟨trivial,⟨⟨trivial,trivial⟩,trivial⟩⟩,⟨trivial,⟨⟨trivial,⟨JA n,⟨⟨trivial,⟨trivial,trivial⟩⟩,⟨⟨trivial,⟨⟨trivial,⟨⟨trivial,trivial⟩,trivial⟩⟩,⟨trivial,⟨KA n,⟨⟨trivial,⟨trivial,trivial⟩⟩,⟨⟨trivial,⟨⟨trivial,trivial⟩,trivial⟩⟩,trivial⟩⟩⟩⟩⟩⟩,trivial⟩⟩⟩⟩,⟨trivial,trivial⟩⟩⟩⟩⟩⟩
theorem oF (n:Nat):Enters Tryz.prog 31:=enters_of (c:=aa Tryz.f31) Tryz.func31 (by kernel_rfl) (by kernel_rfl)
def Dx (n:Nat):Entry:=⟨31,nY (.pair .str .unit) (.one .bool) (fun xs=>Sk n xs.1),none,none⟩
theorem NH (n:Nat):EntryOk Tryz.prog gl (Dx n):=Ea (oF n) fun xs y h=>ma tys_ok (Cq n) mixed (hint:=od n) (n:=n) Tryz.func31 (Ha (VC n)) (oa (φ:=(fun y=>some (Out.ret (Ub (.one .bool) y)))) (by kernel_rfl) (cK n xs.1 _) h)
def xg (n:Nat):List Entry:=Dx n::Ke n
theorem LA (n:Nat):AllOk Tryz.prog gl (xg n):=.cons (NH n) (Cq n)
end
end Go.Proofs.YtddefjokgaajfaaGreatDoor.AM
