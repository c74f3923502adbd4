/- Typed functions that tell what the Go functions of this seat answer, and proofs of it, by program (gen.py). -/
import Derived.Test.YtddefjokgaajfaaGreatDoorUF0
set_option linter.all false
set_option linter.unusedVariables false
set_option linter.unusedSimpArgs false
set_option maxRecDepth 1000000
set_option maxHeartbeats 0
namespace Go.Proofs.YtddefjokgaajfaaGreatDoor.AM
open Go Go.RowKit
noncomputable section
def gB (n:Nat) {R:Type} (kind:Int) (k:BA→Option R):Option R:=if 0≤kind∧kind<(10:Int) then k (List.getD (α:=BA) [(⟨#[]⟩:BA),(⟨#[72,69,76,79]⟩:BA),(⟨#[69,72,76,79]⟩:BA),(⟨#[77,65,73,76]⟩:BA),(⟨#[82,67,80,84]⟩:BA),(⟨#[68,65,84,65]⟩:BA),(⟨#[82,83,69,84]⟩:BA),(⟨#[78,79,79,80]⟩:BA),(⟨#[81,85,73,84]⟩:BA),(⟨#[86,82,70,89]⟩:BA)] (Int.toNat kind) (sa .str)) else none
def wF (n:Nat) (kind:Int):Option BA:=gB n kind some
theorem iP (n:Nat) {S:Type}:∀ kind (φ:_→Option S),(wF n kind).bind φ=gB n kind φ:=by
  intros;unfold wF gB;first | (simp only [ia,ba,iB,bB,oL,oX,nB,Option.bind_some]) | rfl
def px (n:Nat):Hint Out:={ live:=fun c=>[],run:=fun c=>none,xm:=fun c q=>none }
theorem aI (n:Nat):ta tys (fa Out (Mh n)) (px n) n (aa Tryz.f157) 0:=oa (fun _=>rfl) _ _ (by kernel_rfl)
theorem gK (n:Nat):Enters Tryz.prog 157:=enters_of (c:=aa Tryz.f157) Tryz.func157 (by kernel_rfl) (by kernel_rfl)
def DD (n:Nat):Entry:=⟨157,jX (.pair (.int .i64) .unit) (.one .str) (fun xs=>wF n xs.1),none,none⟩
theorem aN (n:Nat):EntryOk Tryz.prog gl (DD n):=Aa (gK n) fun xs y h=>ma tys_ok (Ji n) mixed (hint:=px n) (n:=n) Tryz.func157 (Ea (aI n)) (na (φ:=(fun y=>some (Out.ret (Qb (.one .str) y)))) (by kernel_rfl) (iP n xs.1 _) h)
def Wk (n:Nat):List Entry:=DD n::Mh n
theorem Au (n:Nat):AllOk Tryz.prog gl (Wk n):=.cons (aN n) (Ji n)
def zu (n:Nat) {R:Type} (s1 word1:BA) (t13 t14:Int) (kn:BA→BA→Int→Int→Option R) (ko:(Unit)→Option R) (kr:(Bool)→Option R) (kp:Int→Option R):Option R:=if (decide (t14<t13))=true then if 0≤t14∧t14<(s1.size:Int) then if (decide ((bt s1 t14)≥(97:Int)))=true then if (decide ((bt s1 t14)≤(122:Int)))=true then if 0≤t14∧t14<(word1.size:Int) then if ((IntKind.wrap .u8 ((bt s1 t14) - (32:Int))) !=(bt word1 t14))=true then kr false else kn s1 word1 t13 (IntKind.wrap .i64 (t14+(1:Int))) else none else if 0≤t14∧t14<(word1.size:Int) then if ((bt s1 t14) !=(bt word1 t14))=true then kr false else kn s1 word1 t13 (IntKind.wrap .i64 (t14+(1:Int))) else none else if 0≤t14∧t14<(word1.size:Int) then if ((bt s1 t14) !=(bt word1 t14))=true then kr false else kn s1 word1 t13 (IntKind.wrap .i64 (t14+(1:Int))) else none else none else ko ()
def xg (n:Nat):Nat→BA→BA→Int→Int→Option (Lx (Unit) (Bool))
 | 0,_,_,_,_=>none
 | m+1,s1,word1,t13,t14=>zu n s1 word1 t13 t14 (xg n m) (fun a=>some (.out a)) (fun a=>some (.ret a)) (fun p=>some (.pan p))
theorem eK (n m:Nat) {S:Type}:∀ s1 word1 t13 t14 (φ:_→Option S),(xg n (m+1) s1 word1 t13 t14).bind φ=zu n s1 word1 t13 t14 (fun s1 word1 t13 t14=>(xg n m s1 word1 t13 t14).bind φ) (fun a=>φ (.out a)) (fun a=>φ (.ret a)) (fun p=>φ (.pan p)):=by
  intros;first | (simp only [xg,zu,ia,ba,iB,bB,oL,oX,nB,Option.bind_some]) | rfl
def qo:List Sl:=.dat .str::.dat .str::tp 11 (.dat (.int .i64)::.dat (.int .i64)::tp 19 [])
def po:List RS:=[]
def yy:List Sl:=tp 34 []
def xy:List RS:=[]
def Ay:List Sl:=tp 4 (.dat .bool::tp 29 [])
def zy:List RS:=[]
def Je (K:XE→List AV→la→Option Out):Lx (Unit) (Bool)→Option Out:=fun x=>dX x (fun a=>Zh yy xy () () (K (.exit 0))) (fun a=>Zh Ay zy (a,()) () (K .ret)) (fun _=>none)
def uF (n:Nat) {R:Type} (s word:BA) (k:Bool→Option R):Option R:=if ((s.size:Int) !=(word.size:Int))=true then k false else (xg n n s word (s.size:Int) (0:Int)).bind fun x_1=>dX x_1 (fun a_2=>k true) (fun a_3=>k a_3) (fun _=>none)
def WH (n:Nat) (s word:BA):Option Bool:=uF n s word some
theorem QQ (n:Nat) {S:Type}:∀ s word (φ:_→Option S),(WH n s word).bind φ=uF n s word φ:=by
  intros;unfold WH uF;first | (simp only [ia,ba,iB,bB,oL,oX,nB,Option.bind_some]) | rfl
def Rl (n:Nat):Hint Out:={ live:=fun c=>(cond (Nat.beq c 0) (lv [0,1,13,14]) []),run:=fun c=>(cond (Nat.beq c 0) (some (pq qo po fun σ ρ K=>(xg n n σ.1 σ.2.1 σ.2.2.1 σ.2.2.2.1).bind (Je K))) none),xm:=fun c q=>(cond (Nat.beq c 0&&Nat.beq (q.getD 1000000) 0&&q.isSome) (some []) (cond (Nat.beq c 1&&q.isNone) (some [(4,none)]) none)) }
def Ql (n:Nat) (K:XE→List AV→la→Option Out) (m:Nat) (s1:BA) (word1:BA) (t13:Int) (t14:Int):Option Out:=cf tys (fa Out (Wk n)) (Rl n) n (Ba [1,1,0,1,0,0] (aa Tryz.f156)) 0 qo po K m (s1,(word1,(t13,(t14,())))) ()
theorem dB (n:Nat) (K:XE→List AV→la→Option Out):∀ (m:Nat) s1 word1 t13 t14,Ql n K m s1 word1 t13 t14=(xg n m s1 word1 t13 t14).bind (Je K)
  | 0,_,_,_,_=>by kernel_rfl
  | m+1,s1,word1,t13,t14=>by
    have h1:Ql n K (m+1) s1 word1 t13 t14=zu n s1 word1 t13 t14 (Ql n K m) (fun a=>Je K (.out a)) (fun a=>Je K (.ret a)) (fun p=>Je K (.pan p)):=by kernel_rfl
    have h2:Ql n K m=fun s1 word1 t13 t14=>(xg n m s1 word1 t13 t14).bind (Je K):=by
      repeat (refine funext fun _=>?_)
      exact dB n K m _ _ _ _
    rw [h1,h2];exact (eK n m _ _ _ _ (Je K)).symm
theorem XH (n:Nat):ie tys (fa Out (Wk n)) (Rl n) n (Ba [1,1,0,1,0,0] (aa Tryz.f156)) 0:=La (sp:=qo) (rp:=po) (by kernel_rfl) fun K σ ρ=>dB n K n σ.1 σ.2.1 σ.2.2.1 σ.2.2.2.1
theorem fK (n:Nat):ta tys (fa Out (Wk n)) (Rl n) n (aa Tryz.f156) 0:=⟨trivial,⟨⟨trivial,⟨⟨trivial,trivial⟩,trivial⟩⟩,⟨⟨trivial,⟨XH n,⟨trivial,⟨⟨trivial,trivial⟩,⟨⟨trivial,⟨trivial,⟨⟨trivial,⟨trivial,trivial⟩⟩,⟨trivial,⟨⟨trivial,trivial⟩,trivial⟩⟩⟩⟩⟩,trivial⟩⟩⟩⟩⟩,⟨trivial,trivial⟩⟩⟩⟩
theorem YM (n:Nat):Enters Tryz.prog 156:=enters_of (c:=aa Tryz.f156) Tryz.func156 (by kernel_rfl) (by kernel_rfl)
def YH (n:Nat):Entry:=⟨156,jX (.pair .str (.pair .str .unit)) (.one .bool) (fun xs=>WH n xs.1 xs.2.1),none,none⟩
theorem fP (n:Nat):EntryOk Tryz.prog gl (YH n):=Aa (YM n) fun xs y h=>ma tys_ok (Au n) mixed (hint:=Rl n) (n:=n) Tryz.func156 (Ea (fK n)) (na (φ:=(fun y=>some (Out.ret (Qb (.one .bool) y)))) (by kernel_rfl) (QQ n xs.1 xs.2.1 _) h)
def ro (n:Nat):List Entry:=YH n::Wk n
theorem ox (n:Nat):AllOk Tryz.prog gl (ro n):=.cons (fP n) (Au n)
def xu (n:Nat) {R:Type} (s1:BA) (k0:Int) (kn:BA→Int→Option R) (ko:(Unit)→Option R) (kr:(Int)→Option R) (kp:Int→Option R):Option R:=if (decide (k0≤(9:Int)))=true then (wF n k0).bind fun v=>(WH n s1 v).bind fun v1=>if v1=true then kr k0 else kn s1 (IntKind.wrap .i64 (k0+(1:Int))) else ko ()
def wg (n:Nat):Nat→BA→Int→Option (Lx (Unit) (Int))
 | 0,_,_=>none
 | m+1,s1,k0=>xu n s1 k0 (wg n m) (fun a=>some (.out a)) (fun a=>some (.ret a)) (fun p=>some (.pan p))
theorem cK (n m:Nat) {S:Type}:∀ s1 k0 (φ:_→Option S),(wg n (m+1) s1 k0).bind φ=xu n s1 k0 (fun s1 k0=>(wg n m s1 k0).bind φ) (fun a=>φ (.out a)) (fun a=>φ (.ret a)) (fun p=>φ (.pan p)):=by
  intros;first | (simp only [wg,xu,ia,ba,iB,bB,oL,oX,nB,Option.bind_some]) | rfl
def mo:List Sl:=.dat .str::.top::.top::.dat (.int .i64)::tp 9 []
def io:List RS:=[]
def sy:List Sl:=tp 13 []
def ry:List RS:=[]
def wy:List Sl:=.top::.top::.dat (.int .i64)::tp 10 []
def uy:List RS:=[]
def Ie (K:XE→List AV→la→Option Out):Lx (Unit) (Int)→Option Out:=fun x=>dX x (fun a=>Zh sy ry () () (K (.exit 0))) (fun a=>Zh wy uy (a,()) () (K .ret)) (fun _=>none)
def tF (n:Nat) {R:Type} (s:BA) (k:Int→Option R):Option R:=(wg n n s (1:Int)).bind fun x_1=>dX x_1 (fun a_2=>k (0:Int)) (fun a_3=>k a_3) (fun _=>none)
def Vk (n:Nat) (s:BA):Option Int:=tF n s some
theorem PQ (n:Nat) {S:Type}:∀ s (φ:_→Option S),(Vk n s).bind φ=tF n s φ:=by
  intros;unfold Vk tF;first | (simp only [ia,ba,iB,bB,oL,oX,nB,Option.bind_some]) | rfl
def Pl (n:Nat):Hint Out:={ live:=fun c=>(cond (Nat.beq c 0) [(0,none),(3,none)] []),run:=fun c=>(cond (Nat.beq c 0) (some (pq mo io fun σ ρ K=>(wg n n σ.1 σ.2.1).bind (Ie K))) none),xm:=fun c q=>(cond (Nat.beq c 0&&Nat.beq (q.getD 1000000) 0&&q.isSome) (some []) (cond (Nat.beq c 1&&q.isNone) (some [(2,none)]) none)) }
def Ol (n:Nat) (K:XE→List AV→la→Option Out) (m:Nat) (s1:BA) (k0:Int):Option Out:=cf tys (fa Out (ro n)) (Pl n) n (Ba [1,0,1,0,0] (aa Tryz.f135)) 0 mo io K m (s1,(k0,())) ()
theorem aB (n:Nat) (K:XE→List AV→la→Option Out):∀ (m:Nat) s1 k0,Ol n K m s1 k0=(wg n m s1 k0).bind (Ie K)
  | 0,_,_=>by kernel_rfl
  | m+1,s1,k0=>by
    have h1:Ol n K (m+1) s1 k0=xu n s1 k0 (Ol n K m) (fun a=>Ie K (.out a)) (fun a=>Ie K (.ret a)) (fun p=>Ie K (.pan p)):=by kernel_rfl
    have h2:Ol n K m=fun s1 k0=>(wg n m s1 k0).bind (Ie K):=by
      repeat (refine funext fun _=>?_)
      exact aB n K m _ _
    rw [h1,h2];exact (cK n m _ _ (Ie K)).symm
theorem UH (n:Nat):ie tys (fa Out (ro n)) (Pl n) n (Ba [1,0,1,0,0] (aa Tryz.f135)) 0:=La (sp:=mo) (rp:=io) (by kernel_rfl) fun K σ ρ=>aB n K n σ.1 σ.2.1
theorem dK (n:Nat):ta tys (fa Out (ro n)) (Pl n) n (aa Tryz.f135) 0:=⟨trivial,⟨⟨trivial,⟨UH n,⟨⟨trivial,⟨trivial,trivial⟩⟩,⟨⟨trivial,⟨⟨trivial,trivial⟩,trivial⟩⟩,trivial⟩⟩⟩⟩,⟨trivial,trivial⟩⟩⟩
theorem XM (n:Nat):Enters Tryz.prog 135:=enters_of (c:=aa Tryz.f135) Tryz.func135 (by kernel_rfl) (by kernel_rfl)
def VH (n:Nat):Entry:=⟨135,jX (.pair .str .unit) (.one (.int .i64)) (fun xs=>Vk n xs.1),none,none⟩
theorem eP (n:Nat):EntryOk Tryz.prog gl (VH n):=Aa (XM n) fun xs y h=>ma tys_ok (ox n) mixed (hint:=Pl n) (n:=n) Tryz.func135 (Ea (dK n)) (na (φ:=(fun y=>some (Out.ret (Qb (.one (.int .i64)) y)))) (by kernel_rfl) (PQ n xs.1 _) h)
def cB (n:Nat):List Entry:=VH n::ro n
theorem oo (n:Nat):AllOk Tryz.prog gl (cB n):=.cons (eP n) (ox n)
def vF (n:Nat) {R:Type} (ok:Bool) (e:Int) (k:(Unit)→Option R) (kp:Int→Option R):Option R:=if (!ok)=true then kp e else k ()
def wa (n:Nat) (ok:Bool) (e:Int):Option (Except Int (Unit)):=vF n ok e (fun y=>some (.ok y)) (fun p=>some (.error p))
theorem BL (n:Nat) {S:Type}:∀ ok e (φ:_→Option S),(wa n ok e).bind φ=vF n ok e (fun y=>φ (.ok y)) (fun p=>φ (.error p)):=by
  intros;unfold wa vF;first | (simp only [ia,ba,iB,bB,oL,oX,nB,Option.bind_some]) | rfl
def Br (n:Nat):Hint Out:={ live:=fun c=>[],run:=fun c=>none,xm:=fun c q=>none }
theorem fB (n:Nat):ta tys (fa Out (cB n)) (Br n) n (aa Tryz.f134) 0:=oa (fun _=>rfl) _ _ (by kernel_rfl)
theorem ZM (n:Nat):Enters Tryz.prog 134:=enters_of (c:=aa Tryz.f134) Tryz.func134 (by kernel_rfl) (by kernel_rfl)
def ZH (n:Nat):Entry:=⟨134,kX 159 (.pair .bool (.pair (.int .i64) .unit)) (.many .unit) (fun xs=>wa n xs.1 xs.2.1),none,none⟩
theorem gP (n:Nat):EntryOk Tryz.prog gl (ZH n):=Et (ZM n) (fun xs y h=>ma tys_ok (oo n) mixed (hint:=Br n) (n:=n) Tryz.func134 (Ea (fB n)) (na (φ:=(fun r=>eX r (fun p=>some (Out.pan (de 159 p))) fun y=>some (Out.ret (Qb (.many .unit) y)))) (by kernel_rfl) (BL n xs.1 xs.2.1 _) h)) (fun xs p h=>ma tys_ok (oo n) mixed (hint:=Br n) (n:=n) Tryz.func134 (Ea (fB n)) (na (φ:=(fun r=>eX r (fun p=>some (Out.pan (de 159 p))) fun y=>some (Out.ret (Qb (.many .unit) y)))) (by kernel_rfl) (BL n xs.1 xs.2.1 _) h))
def eB (n:Nat):List Entry:=ZH n::cB n
theorem uo (n:Nat):AllOk Tryz.prog gl (eB n):=.cons (gP n) (oo n)
def ZA (n:Nat) {R:Type} (s word:BA) (k:BA→Option R) (kp:Int→Option R):Option R:=if (decide ((s.size:Int)≥(word.size:Int)))=true then if 0≤(word.size:Int)∧(word.size:Int)≤(s.size:Int) then (WH n (s.extract (Int.toNat (0:Int)) (Int.toNat (word.size:Int))) word).bind fun v=>(wa n v (8:Int)).bind fun x_1=>eX x_1 (fun p=>kp p) (fun v1=>if 0≤(word.size:Int)∧(word.size:Int)≤(s.size:Int) then k (s.extract (Int.toNat (word.size:Int)) (Int.toNat (s.size:Int))) else none) else none else (wa n false (8:Int)).bind fun x_2=>eX x_2 (fun p1=>kp p1) (fun v2=>if 0≤(word.size:Int)∧(word.size:Int)≤(s.size:Int) then k (s.extract (Int.toNat (word.size:Int)) (Int.toNat (s.size:Int))) else none)
def uc (n:Nat) (s word:BA):Option (Except Int BA):=ZA n s word (fun y=>some (.ok y)) (fun p=>some (.error p))
theorem TH (n:Nat) {S:Type}:∀ s word (φ:_→Option S),(uc n s word).bind φ=ZA n s word (fun y=>φ (.ok y)) (fun p=>φ (.error p)):=by
  intros;unfold uc ZA;first | (simp only [ia,ba,iB,bB,oL,oX,nB,Option.bind_some]) | rfl
def go (n:Nat):Hint Out:={ live:=fun c=>[],run:=fun c=>none,xm:=fun c q=>none }
theorem nx (n:Nat):ta tys (fa Out (eB n)) (go n) n (aa Tryz.f137) 0:=oa (fun _=>rfl) _ _ (by kernel_rfl)
theorem bK (n:Nat):Enters Tryz.prog 137:=enters_of (c:=aa Tryz.f137) Tryz.func137 (by kernel_rfl) (by kernel_rfl)
def CD (n:Nat):Entry:=⟨137,kX 159 (.pair .str (.pair .str .unit)) (.one .str) (fun xs=>uc n xs.1 xs.2.1),none,none⟩
theorem WM (n:Nat):EntryOk Tryz.prog gl (CD n):=Et (bK n) (fun xs y h=>ma tys_ok (uo n) mixed (hint:=go n) (n:=n) Tryz.func137 (Ea (nx n)) (na (φ:=(fun r=>eX r (fun p=>some (Out.pan (de 159 p))) fun y=>some (Out.ret (Qb (.one .str) y)))) (by kernel_rfl) (TH n xs.1 xs.2.1 _) h)) (fun xs p h=>ma tys_ok (uo n) mixed (hint:=go n) (n:=n) Tryz.func137 (Ea (nx n)) (na (φ:=(fun r=>eX r (fun p=>some (Out.pan (de 159 p))) fun y=>some (Out.ret (Qb (.one .str) y)))) (by kernel_rfl) (TH n xs.1 xs.2.1 _) h))
def Uk (n:Nat):List Entry:=CD n::eB n
theorem wu (n:Nat):AllOk Tryz.prog gl (Uk n):=.cons (WM n) (uo n)
def wb (n:Nat) {R:Type} (s1:BA) (c1 i:Int) (kn:BA→Int→Int→Option R) (ko:(Unit)→Option R) (kr:(Int)→Option R) (kp:Int→Option R):Option R:=if (decide (i≥(0:Int)))=true then if 0≤i∧i<(s1.size:Int) then if ((bt s1 i)==c1)=true then kr i else kn s1 c1 (IntKind.wrap .i64 (i - (1:Int))) else none else ko ()
def Da (n:Nat):Nat→BA→Int→Int→Option (Lx (Unit) (Int))
 | 0,_,_,_=>none
 | m+1,s1,c1,i=>wb n s1 c1 i (Da n m) (fun a=>some (.out a)) (fun a=>some (.ret a)) (fun p=>some (.pan p))
theorem Sh (n m:Nat) {S:Type}:∀ s1 c1 i (φ:_→Option S),(Da n (m+1) s1 c1 i).bind φ=wb n s1 c1 i (fun s1 c1 i=>(Da n m s1 c1 i).bind φ) (fun a=>φ (.out a)) (fun a=>φ (.ret a)) (fun p=>φ (.pan p)):=by
  intros;first | (simp only [Da,wb,ia,ba,iB,bB,oL,oX,nB,Option.bind_some]) | rfl
def Fb:List Sl:=.dat .str::.dat (.int .u8)::.top::.top::.top::.dat (.int .i64)::tp 13 []
def Eb:List RS:=[]
def zf:List Sl:=tp 19 []
def xf:List RS:=[]
def Bf:List Sl:=tp 4 (.dat (.int .i64)::tp 14 [])
def Af:List RS:=[]
def Fa (K:XE→List AV→la→Option Out):Lx (Unit) (Int)→Option Out:=fun x=>dX x (fun a=>Zh zf xf () () (K (.exit 0))) (fun a=>Zh Bf Af (a,()) () (K .ret)) (fun _=>none)
def lc (n:Nat) {R:Type} (s:BA) (c:Int) (k:Int→Option R):Option R:=(Da n n s c (IntKind.wrap .i64 ((s.size:Int) - (1:Int)))).bind fun x_1=>dX x_1 (fun a_2=>k (-1:Int)) (fun a_3=>k a_3) (fun _=>none)
def Pb (n:Nat) (s:BA) (c:Int):Option Int:=lc n s c some
theorem wk (n:Nat) {S:Type}:∀ s c (φ:_→Option S),(Pb n s c).bind φ=lc n s c φ:=by
  intros;unfold Pb lc;first | (simp only [ia,ba,iB,bB,oL,oX,nB,Option.bind_some]) | rfl
def fb (n:Nat):Hint Out:={ live:=fun c=>(cond (Nat.beq c 0) (lv [0,1,5]) []),run:=fun c=>(cond (Nat.beq c 0) (some (pq Fb Eb fun σ ρ K=>(Da n n σ.1 σ.2.1 σ.2.2.1).bind (Fa K))) none),xm:=fun c q=>(cond (Nat.beq c 0&&Nat.beq (q.getD 1000000) 0&&q.isSome) (some []) (cond (Nat.beq c 1&&q.isNone) (some [(4,none)]) none)) }
def eb (n:Nat) (K:XE→List AV→la→Option Out) (m:Nat) (s1:BA) (c1:Int) (i:Int):Option Out:=cf tys (fa Out (Uk n)) (fb n) n (Ba [1,0,1,0,0] (aa Tryz.f177)) 0 Fb Eb K m (s1,(c1,(i,()))) ()
theorem Cd (n:Nat) (K:XE→List AV→la→Option Out):∀ (m:Nat) s1 c1 i,eb n K m s1 c1 i=(Da n m s1 c1 i).bind (Fa K)
  | 0,_,_,_=>by kernel_rfl
  | m+1,s1,c1,i=>by
    have h1:eb n K (m+1) s1 c1 i=wb n s1 c1 i (eb n K m) (fun a=>Fa K (.out a)) (fun a=>Fa K (.ret a)) (fun p=>Fa K (.pan p)):=by kernel_rfl
    have h2:eb n K m=fun s1 c1 i=>(Da n m s1 c1 i).bind (Fa K):=by
      repeat (refine funext fun _=>?_)
      exact Cd n K m _ _ _
    rw [h1,h2];exact (Sh n m _ _ _ (Fa K)).symm
theorem fh (n:Nat):ie tys (fa Out (Uk n)) (fb n) n (Ba [1,0,1,0,0] (aa Tryz.f177)) 0:=La (sp:=Fb) (rp:=Eb) (by kernel_rfl) fun K σ ρ=>Cd n K n σ.1 σ.2.1 σ.2.2.1
theorem Th (n:Nat):ta tys (fa Out (Uk n)) (fb n) n (aa Tryz.f177) 0:=⟨trivial,⟨⟨trivial,⟨fh n,⟨⟨trivial,⟨trivial,trivial⟩⟩,⟨⟨trivial,⟨⟨trivial,trivial⟩,trivial⟩⟩,trivial⟩⟩⟩⟩,⟨trivial,trivial⟩⟩⟩
theorem zi (n:Nat):Enters Tryz.prog 177:=enters_of (c:=aa Tryz.f177) Tryz.func177 (by kernel_rfl) (by kernel_rfl)
def le (n:Nat):Entry:=⟨177,jX (.pair .str (.pair (.int .u8) .unit)) (.one (.int .i64)) (fun xs=>Pb n xs.1 xs.2.1),none,none⟩
theorem Ij (n:Nat):EntryOk Tryz.prog gl (le n):=Aa (zi n) fun xs y h=>ma tys_ok (wu n) mixed (hint:=fb n) (n:=n) Tryz.func177 (Ea (Th n)) (na (φ:=(fun y=>some (Out.ret (Qb (.one (.int .i64)) y)))) (by kernel_rfl) (wk n xs.1 xs.2.1 _) h)
def Zb (n:Nat):List Entry:=le n::Uk n
theorem od (n:Nat):AllOk Tryz.prog gl (Zb n):=.cons (Ij n) (wu n)
def mf (n:Nat) {R:Type} (s:BA) (c:Int) (k:Int→Option R):Option R:=(Pb n s c).bind fun v=>k v
def ue (n:Nat) (s:BA) (c:Int):Option Int:=mf n s c some
theorem qu (n:Nat) {S:Type}:∀ s c (φ:_→Option S),(ue n s c).bind φ=mf n s c φ:=by
  intros;unfold ue mf;first | (simp only [ia,ba,iB,bB,oL,oX,nB,Option.bind_some]) | rfl
def ug (n:Nat):Hint Out:={ live:=fun c=>[],run:=fun c=>none,xm:=fun c q=>none }
theorem ao (n:Nat):ta tys (fa Out (Zb n)) (ug n) n (aa Tryz.f158) 0:=oa (fun _=>rfl) _ _ (by kernel_rfl)
theorem Kp (n:Nat):Enters Tryz.prog 158:=enters_of (c:=aa Tryz.f158) Tryz.func158 (by kernel_rfl) (by kernel_rfl)
def ri (n:Nat):Entry:=⟨158,jX (.pair .str (.pair (.int .u8) .unit)) (.one (.int .i64)) (fun xs=>ue n xs.1 xs.2.1),none,none⟩
theorem Ar (n:Nat):EntryOk Tryz.prog gl (ri n):=Aa (Kp n) fun xs y h=>ma tys_ok (od n) mixed (hint:=ug n) (n:=n) Tryz.func158 (Ea (ao n)) (na (φ:=(fun y=>some (Out.ret (Qb (.one (.int .i64)) y)))) (by kernel_rfl) (qu n xs.1 xs.2.1 _) h)
def He (n:Nat):List Entry:=ri n::Zb n
theorem Cf (n:Nat):AllOk Tryz.prog gl (He n):=.cons (Ar n) (od n)
def bz (n:Nat) {R:Type} (s:BA) (k:(U0×Bool×Int×Unit)→Option R):Option R:=if (s.toList==(⟨#[60,62]⟩:BA).toList)=true then k (((⟨#[]⟩:BA),((⟨#[]⟩:BA),())),(true,((0:Int),()))) else if (decide ((s.size:Int)<(2:Int)))=false then if 0≤(0:Int)∧(0:Int)<(s.size:Int) then if ((bt s (0:Int)) !=(60:Int))=false then if 0≤(IntKind.wrap .i64 ((s.size:Int) - (1:Int)))∧(IntKind.wrap .i64 ((s.size:Int) - (1:Int)))<(s.size:Int) then if ((bt s (IntKind.wrap .i64 ((s.size:Int) - (1:Int)))) !=(62:Int))=true then k (((⟨#[]⟩:BA),((⟨#[]⟩:BA),())),(false,((8:Int),()))) else if 0≤(IntKind.wrap .i64 ((s.size:Int) - (1:Int)))∧(IntKind.wrap .i64 ((s.size:Int) - (1:Int)))≤(s.size:Int) then if 0≤(1:Int)∧(1:Int)≤(IntKind.wrap .i64 ((s.size:Int) - (1:Int))) then (Sg n (s.extract (Int.toNat (1:Int)) (Int.toNat (IntKind.wrap .i64 ((s.size:Int) - (1:Int)))))).bind fun v=>k ((v.1.1,(v.1.2.1,())),(false,(v.2.1,()))) else none else none else none else k (((⟨#[]⟩:BA),((⟨#[]⟩:BA),())),(false,((8:Int),()))) else none else k (((⟨#[]⟩:BA),((⟨#[]⟩:BA),())),(false,((8:Int),())))
def RD (n:Nat) (s:BA):Option (U0×Bool×Int×Unit):=bz n s some
theorem AN (n:Nat) {S:Type}:∀ s (φ:_→Option S),(RD n s).bind φ=bz n s φ:=by
  intros;unfold RD bz;first | (simp only [ia,ba,iB,bB,oL,oX,nB,Option.bind_some]) | rfl
def Bw (n:Nat):Hint Out:={ live:=fun c=>[],run:=fun c=>none,xm:=fun c q=>none }
theorem VF (n:Nat):ta tys (fa Out (He n)) (Bw n) n (aa Tryz.f96) 0:=oa (fun _=>rfl) _ _ (by kernel_rfl)
theorem CI (n:Nat):Enters Tryz.prog 96:=enters_of (c:=aa Tryz.f96) Tryz.func96 (by kernel_rfl) (by kernel_rfl)
def WC (n:Nat):Entry:=⟨96,jX (.pair .str .unit) (.many K8) (fun xs=>RD n xs.1),none,none⟩
theorem OL (n:Nat):EntryOk Tryz.prog gl (WC n):=Aa (CI n) fun xs y h=>ma tys_ok (Cf n) mixed (hint:=Bw n) (n:=n) Tryz.func96 (Ea (VF n)) (na (φ:=(fun y=>some (Out.ret (Qb (.many K8) y)))) (by kernel_rfl) (AN n xs.1 _) h)
def Tu (n:Nat):List Entry:=WC n::He n
theorem ll (n:Nat):AllOk Tryz.prog gl (Tu n):=.cons (OL n) (Cf n)
def xF (n:Nat) {R:Type} (s:BA) (k:(U0×Bool×BA×Unit)→Option R) (kp:Int→Option R):Option R:=(ua n s (⟨#[32]⟩:BA)).bind fun v=>(ue n v (62:Int)).bind fun v1=>(wa n (decide (v1≥(0:Int))) (8:Int)).bind fun x_1=>eX x_1 (fun p=>kp p) (fun v2=>if 0≤(IntKind.wrap .i64 (v1+(1:Int)))∧(IntKind.wrap .i64 (v1+(1:Int)))≤(v.size:Int) then (RD n (v.extract (Int.toNat (0:Int)) (Int.toNat (IntKind.wrap .i64 (v1+(1:Int)))))).bind fun v3=>(wa n (v3.2.2.1==(0:Int)) v3.2.2.1).bind fun x_2=>eX x_2 (fun p1=>kp p1) (fun v4=>if 0≤(IntKind.wrap .i64 (v1+(1:Int)))∧(IntKind.wrap .i64 (v1+(1:Int)))≤(v.size:Int) then k ((v3.1.1,(v3.1.2.1,())),(v3.2.1,((v.extract (Int.toNat (IntKind.wrap .i64 (v1+(1:Int)))) (Int.toNat (v.size:Int))),()))) else none) else none)
def sf (n:Nat) (s:BA):Option (Except Int (U0×Bool×BA×Unit)):=xF n s (fun y=>some (.ok y)) (fun p=>some (.error p))
theorem CL (n:Nat) {S:Type}:∀ s (φ:_→Option S),(sf n s).bind φ=xF n s (fun y=>φ (.ok y)) (fun p=>φ (.error p)):=by
  intros;unfold sf xF;first | (simp only [ia,ba,iB,bB,oL,oX,nB,Option.bind_some]) | rfl
def Cr (n:Nat):Hint Out:={ live:=fun c=>[],run:=fun c=>none,xm:=fun c q=>none,sch:=fun c=>(cond (Nat.beq c 6) (some [(1,0),(2,0),(3,0),(4,0),(5,0),(0,1),(6,2),(7,0),(8,0)]) none) }
theorem mB (n:Nat):ta tys (fa Out (Tu n)) (Cr n) n (aa Tryz.f136) 0:=oa (fun _=>rfl) _ _ (by kernel_rfl)
theorem dN (n:Nat):Enters Tryz.prog 136:=enters_of (c:=aa Tryz.f136) Tryz.func136 (by kernel_rfl) (by kernel_rfl)
def dI (n:Nat):Entry:=⟨136,kX 159 (.pair .str .unit) (.many K9) (fun xs=>sf n xs.1),none,none⟩
theorem kP (n:Nat):EntryOk Tryz.prog gl (dI n):=Et (dN n) (fun xs y h=>ma tys_ok (ll n) mixed (hint:=Cr n) (n:=n) Tryz.func136 (Ea (mB n)) (na (φ:=(fun r=>eX r (fun p=>some (Out.pan (de 159 p))) fun y=>some (Out.ret (Qb (.many K9) y)))) (by kernel_rfl) (CL n xs.1 _) h)) (fun xs p h=>ma tys_ok (ll n) mixed (hint:=Cr n) (n:=n) Tryz.func136 (Ea (mB n)) (na (φ:=(fun r=>eX r (fun p=>some (Out.pan (de 159 p))) fun y=>some (Out.ret (Qb (.many K9) y)))) (by kernel_rfl) (CL n xs.1 _) h))
def vo (n:Nat):List Entry:=dI n::Tu n
theorem wo (n:Nat):AllOk Tryz.prog gl (vo n):=.cons (kP n) (ll n)
def Du (n:Nat) {R:Type} (s1:BA) (n0 t19 t20:Int) (kn:BA→Int→Int→Int→Option R) (ko:(Int)→Option R) (kr:Unit→Option R) (kp:Int→Option R):Option R:=if (decide (t20<t19))=true then if 0≤t20∧t20<(s1.size:Int) then if (decide ((bt s1 t20)≥(48:Int)))=true then if 0≤t20∧t20<(s1.size:Int) then (wa n (decide ((bt s1 t20)≤(57:Int))) (8:Int)).bind fun x_1=>eX x_1 (fun p2=>kp p2) (fun v2=>if 0≤t20∧t20<(s1.size:Int) then kn s1 (IntKind.wrap .i64 ((IntKind.wrap .i64 ((10:Int)*n0))+(IntKind.wrap .i64 (IntKind.wrap .u8 ((bt s1 t20) - (48:Int)))))) t19 (IntKind.wrap .i64 (t20+(1:Int))) else none) else none else (wa n false (8:Int)).bind fun x_2=>eX x_2 (fun p3=>kp p3) (fun v3=>if 0≤t20∧t20<(s1.size:Int) then kn s1 (IntKind.wrap .i64 ((IntKind.wrap .i64 ((10:Int)*n0))+(IntKind.wrap .i64 (IntKind.wrap .u8 ((bt s1 t20) - (48:Int)))))) t19 (IntKind.wrap .i64 (t20+(1:Int))) else none) else none else ko n0
def tf (n:Nat):Nat→BA→Int→Int→Int→Option (Lx (Int) Unit)
 | 0,_,_,_,_=>none
 | m+1,s1,n0,t19,t20=>Du n s1 n0 t19 t20 (tf n m) (fun a=>some (.out a)) (fun a=>some (.ret a)) (fun p=>some (.pan p))
theorem lK (n m:Nat) {S:Type}:∀ s1 n0 t19 t20 (φ:_→Option S),(tf n (m+1) s1 n0 t19 t20).bind φ=Du n s1 n0 t19 t20 (fun s1 n0 t19 t20=>(tf n m s1 n0 t19 t20).bind φ) (fun a=>φ (.out a)) (fun a=>φ (.ret a)) (fun p=>φ (.pan p)):=by
  intros;first | (simp only [tf,Du,ia,ba,iB,bB,oL,oX,nB,Option.bind_some]) | rfl
def zo:List Sl:=.dat .str::.top::.top::.dat (.int .i64)::tp 15 (.dat (.int .i64)::.dat (.int .i64)::tp 26 [])
def yo:List RS:=[]
def Cy:List Sl:=.top::.top::.top::.dat (.int .i64)::tp 43 []
def By:List RS:=[]
def Ke (K:XE→List AV→la→Option Out):Lx (Int) Unit→Option Out:=fun x=>dX x (fun a=>Zh Cy By (a,()) () (K (.exit 0))) (fun _=>none) (fun p=>K (.panic (de 159 p)) (List.replicate 47 .top) [])
def yF (n:Nat) {R:Type} (s:BA) (k:Int→Option R) (kp:Int→Option R):Option R:=if (s.toList==(⟨#[]⟩:BA).toList)=true then k (-1:Int) else (uc n s (⟨#[32,83,73,90,69,61]⟩:BA)).bind fun x_1=>eX x_1 (fun p=>kp p) (fun v=>if (decide ((v.size:Int)≥(1:Int)))=true then (wa n (decide ((v.size:Int)≤(10:Int))) (8:Int)).bind fun x_2=>eX x_2 (fun p1=>kp p1) (fun v1=>(tf n n v (0:Int) (v.size:Int) (0:Int)).bind fun x_3=>dX x_3 (fun a_4=>(wa n (decide (a_4≤(1073741824:Int))) (8:Int)).bind fun x_5=>eX x_5 (fun p4=>kp p4) (fun v4=>k a_4)) (fun _=>none) (fun p5=>kp p5)) else (wa n false (8:Int)).bind fun x_6=>eX x_6 (fun p6=>kp p6) (fun v5=>(tf n n v (0:Int) (v.size:Int) (0:Int)).bind fun x_7=>dX x_7 (fun a_8=>(wa n (decide (a_8≤(1073741824:Int))) (8:Int)).bind fun x_9=>eX x_9 (fun p7=>kp p7) (fun v6=>k a_8)) (fun _=>none) (fun p8=>kp p8)))
def xo (n:Nat) (s:BA):Option (Except Int Int):=yF n s (fun y=>some (.ok y)) (fun p=>some (.error p))
theorem EL (n:Nat) {S:Type}:∀ s (φ:_→Option S),(xo n s).bind φ=yF n s (fun y=>φ (.ok y)) (fun p=>φ (.error p)):=by
  intros;unfold xo yF;first | (simp only [ia,ba,iB,bB,oL,oX,nB,Option.bind_some]) | rfl
def ui (n:Nat):Hint Out:={ live:=fun c=>(cond (Nat.beq c 0) (lv [0,3,19,20]) []),run:=fun c=>(cond (Nat.beq c 0) (some (pq zo yo fun σ ρ K=>(tf n n σ.1 σ.2.1 σ.2.2.1 σ.2.2.2.1).bind (Ke K))) none),xm:=fun c q=>(cond (Nat.beq c 0&&Nat.beq (q.getD 1000000) 0&&q.isSome) (some [(3,none)]) none) }
def Tl (n:Nat) (K:XE→List AV→la→Option Out) (m:Nat) (s1:BA) (n0:Int) (t19:Int) (t20:Int):Option Out:=cf tys (fa Out (vo n)) (ui n) n (Ba [1,1,1,1,1,0,1,0,0] (aa Tryz.f138)) 0 zo yo K m (s1,(n0,(t19,(t20,())))) ()
theorem qB (n:Nat) (K:XE→List AV→la→Option Out):∀ (m:Nat) s1 n0 t19 t20,Tl n K m s1 n0 t19 t20=(tf n m s1 n0 t19 t20).bind (Ke K)
  | 0,_,_,_,_=>by kernel_rfl
  | m+1,s1,n0,t19,t20=>by
    have h1:Tl n K (m+1) s1 n0 t19 t20=Du n s1 n0 t19 t20 (Tl n K m) (fun a=>Ke K (.out a)) (fun a=>Ke K (.ret a)) (fun p=>Ke K (.pan p)):=by kernel_rfl
    have h2:Tl n K m=fun s1 n0 t19 t20=>(tf n m s1 n0 t19 t20).bind (Ke K):=by
      repeat (refine funext fun _=>?_)
      exact qB n K m _ _ _ _
    rw [h1,h2];exact (lK n m _ _ _ _ (Ke K)).symm
theorem gI (n:Nat):ie tys (fa Out (vo n)) (ui n) n (Ba [1,1,1,1,1,0,1,0,0] (aa Tryz.f138)) 0:=La (sp:=zo) (rp:=yo) (by kernel_rfl) fun K σ ρ=>qB n K n σ.1 σ.2.1 σ.2.2.1 σ.2.2.2.1
theorem rB (n:Nat):ta tys (fa Out (vo n)) (ui n) n (aa Tryz.f138) 0:=⟨trivial,⟨⟨trivial,⟨⟨trivial,trivial⟩,trivial⟩⟩,⟨trivial,⟨trivial,⟨trivial,⟨⟨trivial,⟨gI n,⟨trivial,⟨⟨trivial,trivial⟩,⟨⟨trivial,⟨trivial,trivial⟩⟩,trivial⟩⟩⟩⟩⟩,⟨trivial,⟨trivial,trivial⟩⟩⟩⟩⟩⟩⟩⟩
theorem gN (n:Nat):Enters Tryz.prog 138:=enters_of (c:=aa Tryz.f138) Tryz.func138 (by kernel_rfl) (by kernel_rfl)
def iI (n:Nat):Entry:=⟨138,kX 159 (.pair .str .unit) (.one (.int .i64)) (fun xs=>xo n xs.1),none,none⟩
theorem mP (n:Nat):EntryOk Tryz.prog gl (iI n):=Et (gN n) (fun xs y h=>ma tys_ok (wo n) mixed (hint:=ui n) (n:=n) Tryz.func138 (Ea (rB n)) (na (φ:=(fun r=>eX r (fun p=>some (Out.pan (de 159 p))) fun y=>some (Out.ret (Qb (.one (.int .i64)) y)))) (by kernel_rfl) (EL n xs.1 _) h)) (fun xs p h=>ma tys_ok (wo n) mixed (hint:=ui n) (n:=n) Tryz.func138 (Ea (rB n)) (na (φ:=(fun r=>eX r (fun p=>some (Out.pan (de 159 p))) fun y=>some (Out.ret (Qb (.one (.int .i64)) y)))) (by kernel_rfl) (EL n xs.1 _) h))
def Ao (n:Nat):List Entry:=iI n::vo n
theorem sx (n:Nat):AllOk Tryz.prog gl (Ao n):=.cons (mP n) (wo n)
def np (n:Nat) {R:Type} (s1:BA) (blank:Bool) (t6 t7:Int) (kn:BA→Bool→Int→Int→Option R) (ko:(BA×Bool)→Option R) (kr:(Bool)→Option R) (kp:Int→Option R):Option R:=if (decide (t7<t6))=true then if 0≤t7∧t7<(s1.size:Int) then if (decide ((bt s1 t7)<(32:Int)))=false then if 0≤t7∧t7<(s1.size:Int) then if (decide ((bt s1 t7)>(126:Int)))=false then if 0≤t7∧t7<(s1.size:Int) then if ((bt s1 t7)==(32:Int))=true then if blank=true then kr false else if 0≤t7∧t7<(s1.size:Int) then kn s1 ((bt s1 t7)==(32:Int)) t6 (IntKind.wrap .i64 (t7+(1:Int))) else none else if 0≤t7∧t7<(s1.size:Int) then kn s1 ((bt s1 t7)==(32:Int)) t6 (IntKind.wrap .i64 (t7+(1:Int))) else none else none else kr false else none else kr false else none else ko (s1,blank)
def Te (n:Nat):Nat→BA→Bool→Int→Int→Option (Lx (BA×Bool) (Bool))
 | 0,_,_,_,_=>none
 | m+1,s1,blank,t6,t7=>np n s1 blank t6 t7 (Te n m) (fun a=>some (.out a)) (fun a=>some (.ret a)) (fun p=>some (.pan p))
theorem jI (n m:Nat) {S:Type}:∀ s1 blank t6 t7 (φ:_→Option S),(Te n (m+1) s1 blank t6 t7).bind φ=np n s1 blank t6 t7 (fun s1 blank t6 t7=>(Te n m s1 blank t6 t7).bind φ) (fun a=>φ (.out a)) (fun a=>φ (.ret a)) (fun p=>φ (.pan p)):=by
  intros;first | (simp only [Te,np,ia,ba,iB,bB,oL,oX,nB,Option.bind_some]) | rfl
def Vl:List Sl:=.dat .str::.top::.top::.dat .bool::.top::.top::.dat (.int .i64)::.dat (.int .i64)::tp 33 []
def Ul:List RS:=[]
def lw:List Sl:=.dat .str::.top::.top::.dat .bool::tp 37 []
def kw:List RS:=[]
def nw:List Sl:=.top::.top::.dat .bool::tp 38 []
def mw:List RS:=[]
def Od (K:XE→List AV→la→Option Out):Lx (BA×Bool) (Bool)→Option Out:=fun x=>dX x (fun a=>Zh lw kw (a.1,(a.2,())) () (K (.exit 0))) (fun a=>Zh nw mw (a,()) () (K .ret)) (fun _=>none)
def sB (n:Nat) {R:Type} (s:BA) (k:Bool→Option R):Option R:=(Te n n s true (s.size:Int) (0:Int)).bind fun x_1=>dX x_1 (fun a_2=>if (!a_2.2)=true then k (decide ((a_2.1.size:Int)≤(64:Int))) else k false) (fun a_3=>k a_3) (fun _=>none)
def Er (n:Nat) (s:BA):Option Bool:=sB n s some
theorem nP (n:Nat) {S:Type}:∀ s (φ:_→Option S),(Er n s).bind φ=sB n s φ:=by
  intros;unfold Er sB;first | (simp only [ia,ba,iB,bB,oL,oX,nB,Option.bind_some]) | rfl
def rj (n:Nat):Hint Out:={ live:=fun c=>(cond (Nat.beq c 0) (lv [0,3,6,7]) []),run:=fun c=>(cond (Nat.beq c 0) (some (pq Vl Ul fun σ ρ K=>(Te n n σ.1 σ.2.1 σ.2.2.1 σ.2.2.2.1).bind (Od K))) none),xm:=fun c q=>(cond (Nat.beq c 0&&Nat.beq (q.getD 1000000) 0&&q.isSome) (some [(0,none),(3,none)]) (cond (Nat.beq c 1&&q.isNone) (some [(2,none)]) none)) }
def qj (n:Nat) (K:XE→List AV→la→Option Out) (m:Nat) (s1:BA) (blank:Bool) (t6:Int) (t7:Int):Option Out:=cf tys (fa Out (Ao n)) (rj n) n (Ba [1,1,0,1,0,0] (aa Tryz.f113)) 0 Vl Ul K m (s1,(blank,(t6,(t7,())))) ()
theorem ux (n:Nat) (K:XE→List AV→la→Option Out):∀ (m:Nat) s1 blank t6 t7,qj n K m s1 blank t6 t7=(Te n m s1 blank t6 t7).bind (Od K)
  | 0,_,_,_,_=>by kernel_rfl
  | m+1,s1,blank,t6,t7=>by
    have h1:qj n K (m+1) s1 blank t6 t7=np n s1 blank t6 t7 (qj n K m) (fun a=>Od K (.out a)) (fun a=>Od K (.ret a)) (fun p=>Od K (.pan p)):=by kernel_rfl
    have h2:qj n K m=fun s1 blank t6 t7=>(Te n m s1 blank t6 t7).bind (Od K):=by
      repeat (refine funext fun _=>?_)
      exact ux n K m _ _ _ _
    rw [h1,h2];exact (jI n m _ _ _ _ (Od K)).symm
theorem zF (n:Nat):ie tys (fa Out (Ao n)) (rj n) n (Ba [1,1,0,1,0,0] (aa Tryz.f113)) 0:=La (sp:=Vl) (rp:=Ul) (by kernel_rfl) fun K σ ρ=>ux n K n σ.1 σ.2.1 σ.2.2.1 σ.2.2.2.1
theorem kI (n:Nat):ta tys (fa Out (Ao n)) (rj n) n (aa Tryz.f113) 0:=⟨trivial,⟨trivial,⟨⟨trivial,⟨zF n,⟨trivial,⟨⟨trivial,trivial⟩,⟨⟨trivial,⟨⟨trivial,⟨⟨trivial,trivial⟩,trivial⟩⟩,trivial⟩⟩,trivial⟩⟩⟩⟩⟩,⟨trivial,trivial⟩⟩⟩⟩
theorem mK (n:Nat):Enters Tryz.prog 113:=enters_of (c:=aa Tryz.f113) Tryz.func113 (by kernel_rfl) (by kernel_rfl)
def GD (n:Nat):Entry:=⟨113,jX (.pair .str .unit) (.one .bool) (fun xs=>Er n xs.1),none,none⟩
theorem iN (n:Nat):EntryOk Tryz.prog gl (GD n):=Aa (mK n) fun xs y h=>ma tys_ok (sx n) mixed (hint:=rj n) (n:=n) Tryz.func113 (Ea (kI n)) (na (φ:=(fun y=>some (Out.ret (Qb (.one .bool) y)))) (by kernel_rfl) (nP n xs.1 _) h)
def ow (n:Nat):List Entry:=GD n::Ao n
theorem Eu (n:Nat):AllOk Tryz.prog gl (ow n):=.cons (iN n) (sx n)
def Bu (n:Nat) {R:Type} (v:T1) (k:(T1×Bool×Unit)→Option R):Option R:=if (v.1==(1:Int))=true then (rb n v.2.1).bind fun v1=>k ((v.1,(v.2.1,(false,(((⟨#[]⟩:BA),((⟨#[]⟩:BA),())),((0:Int),()))))),(v1,())) else if (v.1==(2:Int))=true then (rb n v.2.1).bind fun v2=>k ((v.1,(v.2.1,(false,(((⟨#[]⟩:BA),((⟨#[]⟩:BA),())),((0:Int),()))))),(v2,())) else if (v.1==(3:Int))=true then vW 1 (if (!v.2.2.1)=true then if v.2.2.1=false then (Bi n (v.2.2.2.1.1,(v.2.2.2.1.2.1,()))).bind fun v3=>if v3=true then if (decide (v.2.2.2.2.1≥(-1:Int)))=true then vW 1 (k ((v.1,((⟨#[]⟩:BA),(v.2.2.1,((v.2.2.2.1.1,(v.2.2.2.1.2.1,())),(v.2.2.2.2.1,()))))),((decide (v.2.2.2.2.1≤(1073741824:Int))),()))) else vW 1 (k ((v.1,((⟨#[]⟩:BA),(v.2.2.1,((v.2.2.2.1.1,(v.2.2.2.1.2.1,())),(v.2.2.2.2.1,()))))),(false,()))) else vW 1 (k ((v.1,((⟨#[]⟩:BA),(v.2.2.1,((v.2.2.2.1.1,(v.2.2.2.1.2.1,())),(v.2.2.2.2.1,()))))),(false,()))) else if (decide (v.2.2.2.2.1≥(-1:Int)))=true then vW 1 (k ((v.1,((⟨#[]⟩:BA),(v.2.2.1,((v.2.2.2.1.1,(v.2.2.2.1.2.1,())),(v.2.2.2.2.1,()))))),((decide (v.2.2.2.2.1≤(1073741824:Int))),()))) else vW 1 (k ((v.1,((⟨#[]⟩:BA),(v.2.2.1,((v.2.2.2.1.1,(v.2.2.2.1.2.1,())),(v.2.2.2.2.1,()))))),(false,()))) else if v.2.2.1=false then (Bi n (v.2.2.2.1.1,(v.2.2.2.1.2.1,()))).bind fun v4=>
 if v4=true then if (decide (v.2.2.2.2.1≥(-1:Int)))=true then vW 1 (k ((v.1,((⟨#[]⟩:BA),(v.2.2.1,(((⟨#[]⟩:BA),((⟨#[]⟩:BA),())),(v.2.2.2.2.1,()))))),((decide (v.2.2.2.2.1≤(1073741824:Int))),()))) else vW 1 (k ((v.1,((⟨#[]⟩:BA),(v.2.2.1,(((⟨#[]⟩:BA),((⟨#[]⟩:BA),())),(v.2.2.2.2.1,()))))),(false,()))) else vW 1 (k ((v.1,((⟨#[]⟩:BA),(v.2.2.1,(((⟨#[]⟩:BA),((⟨#[]⟩:BA),())),(v.2.2.2.2.1,()))))),(false,()))) else if (decide (v.2.2.2.2.1≥(-1:Int)))=true then vW 1 (k ((v.1,((⟨#[]⟩:BA),(v.2.2.1,(((⟨#[]⟩:BA),((⟨#[]⟩:BA),())),(v.2.2.2.2.1,()))))),((decide (v.2.2.2.2.1≤(1073741824:Int))),()))) else vW 1 (k ((v.1,((⟨#[]⟩:BA),(v.2.2.1,(((⟨#[]⟩:BA),((⟨#[]⟩:BA),())),(v.2.2.2.2.1,()))))),(false,())))) else if (v.1==(4:Int))=true then (Bi n (v.2.2.2.1.1,(v.2.2.2.1.2.1,()))).bind fun v7=>k ((v.1,((⟨#[]⟩:BA),(false,((v.2.2.2.1.1,(v.2.2.2.1.2.1,())),((0:Int),()))))),(v7,())) else if (v.1==(7:Int))=true then (Er n v.2.1).bind fun v8=>if v8=false then if (v.2.1.toList==(⟨#[]⟩:BA).toList)=true then vW 1 (k ((v.1,(v.2.1,(false,(((⟨#[]⟩:BA),((⟨#[]⟩:BA),())),((0:Int),()))))),((v.1==(7:Int)),()))) else vW 1 (k ((v.1,(v.2.1,(false,(((⟨#[]⟩:BA),((⟨#[]⟩:BA),())),((0:Int),()))))),(false,())))
 else vW 1 (k ((v.1,(v.2.1,(false,(((⟨#[]⟩:BA),((⟨#[]⟩:BA),())),((0:Int),()))))),(true,()))) else if (v.1==(9:Int))=true then (Er n v.2.1).bind fun v9=>if v9=false then if (v.2.1.toList==(⟨#[]⟩:BA).toList)=true then vW 1 (k ((v.1,(v.2.1,(false,(((⟨#[]⟩:BA),((⟨#[]⟩:BA),())),((0:Int),()))))),((v.1==(7:Int)),()))) else vW 1 (k ((v.1,(v.2.1,(false,(((⟨#[]⟩:BA),((⟨#[]⟩:BA),())),((0:Int),()))))),(false,()))) else vW 1 (k ((v.1,(v.2.1,(false,(((⟨#[]⟩:BA),((⟨#[]⟩:BA),())),((0:Int),()))))),(true,()))) else if (v.1==(5:Int))=true then k ((v.1,((⟨#[]⟩:BA),(false,(((⟨#[]⟩:BA),((⟨#[]⟩:BA),())),((0:Int),()))))),(true,())) else if (v.1==(6:Int))=true then k ((v.1,((⟨#[]⟩:BA),(false,(((⟨#[]⟩:BA),((⟨#[]⟩:BA),())),((0:Int),()))))),(true,())) else if (v.1==(8:Int))=true then k ((v.1,((⟨#[]⟩:BA),(false,(((⟨#[]⟩:BA),((⟨#[]⟩:BA),())),((0:Int),()))))),(true,())) else k ((v.1,((⟨#[]⟩:BA),(false,(((⟨#[]⟩:BA),((⟨#[]⟩:BA),())),((0:Int),()))))),(false,()))
def ED (n:Nat) (v:T1):Option (T1×Bool×Unit):=Bu n v some
theorem RQ (n:Nat) {S:Type}:∀ v (φ:_→Option S),(ED n v).bind φ=Bu n v φ:=by
  intros;unfold ED Bu;first | (simp only [ia,ba,iB,bB,oL,oX,nB,Option.bind_some]) | rfl
def lB (n:Nat):Hint Out:={ live:=fun c=>[],run:=fun c=>none,xm:=fun c q=>none,sch:=fun c=>(cond (Nat.beq c 18) (some [(1,0),(0,1),(2,1),(3,3),(4,0),(5,0),(6,3),(7,0),(8,0),(9,0),(14,5),(10,7),(11,6),(12,6),(13,6),(15,6)]) (cond (Nat.beq c 14) (some [(1,0),(0,1),(2,1),(3,3),(4,2),(5,0)]) (cond (Nat.beq c 11) (some [(1,0),(0,1),(2,1),(3,0),(4,0),(5,1),(6,3),(7,0),(8,0),(9,0),(10,3),(11,0),(12,0),(13,0),(14,0),(18,5),(15,7),(16,6),(17,6),(19,6)]) (cond (Nat.beq c 8) (some [(0,0),(2,0),(1,1),(4,0),(5,5),(3,7),(6,6),(7,2)]) (cond (Nat.beq c 6) (some [(1,0),(0,1),(2,1),(3,3),(4,2),(5,0)]) none))))) }
theorem jK (n:Nat):ta tys (fa Out (ow n)) (lB n) n (aa Tryz.f81) 0:=oa (fun _=>rfl) _ _ (by kernel_rfl)
theorem cN (n:Nat):Enters Tryz.prog 81:=enters_of (c:=aa Tryz.f81) Tryz.func81 (by kernel_rfl) (by kernel_rfl)
def cI (n:Nat):Entry:=⟨81,jX aW (.many ZV) (fun xs=>ED n xs.1),none,none⟩
theorem jP (n:Nat):EntryOk Tryz.prog gl (cI n):=Aa (cN n) fun xs y h=>ma tys_ok (Eu n) mixed (hint:=lB n) (n:=n) Tryz.func81 (Ea (jK n)) (na (φ:=(fun y=>some (Out.ret (Qb (.many ZV) y)))) (by kernel_rfl) (RQ n xs.1 _) h)
def kB (n:Nat):List Entry:=cI n::ow n
theorem qx (n:Nat):AllOk Tryz.prog gl (kB n):=.cons (jP n) (Eu n)
def WA (n:Nat) {R:Type} (v:T1) (k:Bool→Option R):Option R:=(ED n (v.1,(v.2.1,(v.2.2.1,((v.2.2.2.1.1,(v.2.2.2.1.2.1,())),(v.2.2.2.2.1,())))))).bind fun v1=>if v1.2.1=true then k ((v1.1.1==v.1)&&((v1.1.2.1.toList==v.2.1.toList)&&((v1.1.2.2.1==v.2.2.1)&&(((v1.1.2.2.2.1.1.toList==v.2.2.2.1.1.toList)&&((v1.1.2.2.2.1.2.1.toList==v.2.2.2.1.2.1.toList)&&true))&&((v1.1.2.2.2.2.1==v.2.2.2.2.1)&&true))))) else k false
def vg (n:Nat) (v:T1):Option Bool:=WA n v some
theorem bT (n:Nat) {S:Type}:∀ v (φ:_→Option S),(vg n v).bind φ=WA n v φ:=by
  intros;unfold vg WA;first | (simp only [ia,ba,iB,bB,oL,oX,nB,Option.bind_some]) | rfl
def AD (n:Nat):Hint Out:={ live:=fun c=>[],run:=fun c=>none,xm:=fun c q=>none }
theorem UM (n:Nat):ta tys (fa Out (kB n)) (AD n) n (aa Tryz.f43) 0:=oa (fun _=>rfl) _ _ (by kernel_rfl)
theorem aP (n:Nat):Enters Tryz.prog 43:=enters_of (c:=aa Tryz.f43) Tryz.func43 (by kernel_rfl) (by kernel_rfl)
def AL (n:Nat):Entry:=⟨43,jX aW (.one .bool) (fun xs=>vg n xs.1),none,none⟩
theorem OQ (n:Nat):EntryOk Tryz.prog gl (AL n):=Aa (aP n) fun xs y h=>ma tys_ok (qx n) mixed (hint:=AD n) (n:=n) Tryz.func43 (Ea (UM n)) (na (φ:=(fun y=>some (Out.ret (Qb (.one .bool) y)))) (by kernel_rfl) (bT n xs.1 _) h)
def pF (n:Nat):List Entry:=AL n::kB n
theorem XA (n:Nat):AllOk Tryz.prog gl (pF n):=.cons (OQ n) (qx n)
def zq (n:Nat) {R:Type} (s:BA) (k:(BA×Int×Unit)→Option R):Option R:=(ah n s).bind fun v=>(rb n v).bind fun v1=>if (!v1)=true then k ((⟨#[]⟩:BA),((8:Int),())) else k (v,((0:Int),()))
def Za (n:Nat) (s:BA):Option (BA×Int×Unit):=zq n s some
theorem yI (n:Nat) {S:Type}:∀ s (φ:_→Option S),(Za n s).bind φ=zq n s φ:=by
  intros;unfold Za zq;first | (simp only [ia,ba,iB,bB,oL,oX,nB,Option.bind_some]) | rfl
def Qp (n:Nat):Hint Out:={ live:=fun c=>[],run:=fun c=>none,xm:=fun c q=>none }
theorem GB (n:Nat):ta tys (fa Out (pF n)) (Qp n) n (aa Tryz.f139) 0:=oa (fun _=>rfl) _ _ (by kernel_rfl)
theorem OD (n:Nat):Enters Tryz.prog 139:=enters_of (c:=aa Tryz.f139) Tryz.func139 (by kernel_rfl) (by kernel_rfl)
def yw (n:Nat):Entry:=⟨139,jX (.pair .str .unit) (.many (.pair .str (.pair (.int .i64) .unit))) (fun xs=>Za n xs.1),none,none⟩
theorem RF (n:Nat):EntryOk Tryz.prog gl (yw n):=Aa (OD n) fun xs y h=>ma tys_ok (XA n) mixed (hint:=Qp n) (n:=n) Tryz.func139 (Ea (GB n)) (na (φ:=(fun y=>some (Out.ret (Qb (.many (.pair .str (.pair (.int .i64) .unit))) y)))) (by kernel_rfl) (yI n xs.1 _) h)
def Cm (n:Nat):List Entry:=yw n::pF n
theorem Ah (n:Nat):AllOk Tryz.prog gl (Cm n):=.cons (RF n) (XA n)
def Cu (n:Nat) {R:Type} (s:BA) (k:T1→Option R) (kp:Int→Option R):Option R:=if (decide ((s.size:Int)≥(4:Int)))=true then if 0≤(4:Int)∧(4:Int)≤(s.size:Int) then (Vk n (s.extract (Int.toNat (0:Int)) (Int.toNat (4:Int)))).bind fun v=>if (decide (v>(0:Int)))=true then if ((s.size:Int)==(4:Int))=false then if 0≤(4:Int)∧(4:Int)<(s.size:Int) then (wa n ((bt s (4:Int))==(32:Int)) (3:Int)).bind fun x_1=>eX x_1 (fun p=>kp p) (fun v1=>if 0≤(4:Int)∧(4:Int)≤(s.size:Int) then (Vk n (s.extract (Int.toNat (0:Int)) (Int.toNat (4:Int)))).bind fun v2=>if 0≤(4:Int)∧(4:Int)≤(s.size:Int) then if (v2==(3:Int))=true then (uc n (s.extract (Int.toNat (4:Int)) (Int.toNat (s.size:Int))) (⟨#[32,70,82,79,77,58]⟩:BA)).bind fun x_2=>eX x_2 (fun p1=>kp p1) (fun v3=>(sf n v3).bind fun x_3=>eX x_3 (fun p2=>kp p2) (fun v4=>(xo n v4.2.2.1).bind fun x_4=>eX x_4 (fun p3=>kp p3) (fun v5=>(vg n (v2,((⟨#[]⟩:BA),(v4.2.1,((v4.1.1,(v4.1.2.1,())),(v5,())))))).bind fun v6=>(wa n v6 (8:Int)).bind fun x_5=>eX x_5 (fun p4=>kp p4) (fun v7=>k (v2,((⟨#[]⟩:BA),(v4.2.1,((v4.1.1,(v4.1.2.1,())),(v5,()))))))))) else if (v2==(4:Int))=true then (uc n (s.extract (Int.toNat (4:Int)) (Int.toNat (s.size:Int))) (⟨#[32,84,79,58]⟩:BA)).bind fun x_6=>eX x_6 (fun p5=>
 kp p5) (fun v8=>(sf n v8).bind fun x_7=>eX x_7 (fun p6=>kp p6) (fun v9=>(wa n (v9.2.2.1.toList==(⟨#[]⟩:BA).toList) (8:Int)).bind fun x_8=>eX x_8 (fun p7=>kp p7) (fun v10=>(vg n (v2,((⟨#[]⟩:BA),(v9.2.1,((v9.1.1,(v9.1.2.1,())),((0:Int),())))))).bind fun v11=>(wa n v11 (8:Int)).bind fun x_9=>eX x_9 (fun p8=>kp p8) (fun v12=>k (v2,((⟨#[]⟩:BA),(v9.2.1,((v9.1.1,(v9.1.2.1,())),((0:Int),()))))))))) else if (v2==(1:Int))=true then (ua n (s.extract (Int.toNat (4:Int)) (Int.toNat (s.size:Int))) (⟨#[32]⟩:BA)).bind fun v13=>(Za n v13).bind fun v14=>(wa n (v14.2.1==(0:Int)) (8:Int)).bind fun x_10=>eX x_10 (fun p9=>kp p9) (fun v15=>(vg n (v2,(v14.1,(false,(((⟨#[]⟩:BA),((⟨#[]⟩:BA),())),((0:Int),())))))).bind fun v16=>(wa n v16 (8:Int)).bind fun x_11=>eX x_11 (fun p10=>kp p10) (fun v17=>k (v2,(v14.1,(false,(((⟨#[]⟩:BA),((⟨#[]⟩:BA),())),((0:Int),()))))))) else if (v2==(2:Int))=true then (ua n (s.extract (Int.toNat (4:Int)) (Int.toNat (s.size:Int))) (⟨#[32]⟩:BA)).bind fun v18=>(Za n v18).bind fun v19=>(wa n (v19.2.1==(0:Int)) (8:Int)).bind fun x_12=>eX x_12 (fun p11=>kp p11) (fun v20=>(vg n (v2,(v19.1,(false,(((⟨#[]⟩:BA),((⟨#[]⟩:BA),())),((0:Int),())))))).bind fun v21=>
 (wa n v21 (8:Int)).bind fun x_13=>eX x_13 (fun p12=>kp p12) (fun v22=>k (v2,(v19.1,(false,(((⟨#[]⟩:BA),((⟨#[]⟩:BA),())),((0:Int),()))))))) else (wa n (!((s.extract (Int.toNat (4:Int)) (Int.toNat (s.size:Int))).toList==(⟨#[32]⟩:BA).toList)) (8:Int)).bind fun x_14=>eX x_14 (fun p13=>kp p13) (fun v23=>(ua n (s.extract (Int.toNat (4:Int)) (Int.toNat (s.size:Int))) (⟨#[32]⟩:BA)).bind fun v24=>(vg n (v2,(v24,(false,(((⟨#[]⟩:BA),((⟨#[]⟩:BA),())),((0:Int),())))))).bind fun v25=>(wa n v25 (8:Int)).bind fun x_15=>eX x_15 (fun p14=>kp p14) (fun v26=>k (v2,(v24,(false,(((⟨#[]⟩:BA),((⟨#[]⟩:BA),())),((0:Int),()))))))) else none else none) else none else (wa n true (3:Int)).bind fun x_16=>eX x_16 (fun p15=>kp p15) (fun v27=>if 0≤(4:Int)∧(4:Int)≤(s.size:Int) then (Vk n (s.extract (Int.toNat (0:Int)) (Int.toNat (4:Int)))).bind fun v28=>if 0≤(4:Int)∧(4:Int)≤(s.size:Int) then if (v28==(3:Int))=true then (uc n (s.extract (Int.toNat (4:Int)) (Int.toNat (s.size:Int))) (⟨#[32,70,82,79,77,58]⟩:BA)).bind fun x_17=>eX x_17 (fun p16=>kp p16) (fun v29=>(sf n v29).bind fun x_18=>eX x_18 (fun p17=>kp p17) (fun v30=>(xo n v30.2.2.1).bind fun x_19=>eX x_19 (fun p18=>kp p18) (fun v31=>(vg n (v28,((⟨#[]⟩:BA),(v30.2.1,((v30.1.1,(v30.1.2.1,())),(v31,())))))).bind fun v32=>
 (wa n v32 (8:Int)).bind fun x_20=>eX x_20 (fun p19=>kp p19) (fun v33=>k (v28,((⟨#[]⟩:BA),(v30.2.1,((v30.1.1,(v30.1.2.1,())),(v31,()))))))))) else if (v28==(4:Int))=true then (uc n (s.extract (Int.toNat (4:Int)) (Int.toNat (s.size:Int))) (⟨#[32,84,79,58]⟩:BA)).bind fun x_21=>eX x_21 (fun p20=>kp p20) (fun v34=>(sf n v34).bind fun x_22=>eX x_22 (fun p21=>kp p21) (fun v35=>(wa n (v35.2.2.1.toList==(⟨#[]⟩:BA).toList) (8:Int)).bind fun x_23=>eX x_23 (fun p22=>kp p22) (fun v36=>(vg n (v28,((⟨#[]⟩:BA),(v35.2.1,((v35.1.1,(v35.1.2.1,())),((0:Int),())))))).bind fun v37=>(wa n v37 (8:Int)).bind fun x_24=>eX x_24 (fun p23=>kp p23) (fun v38=>k (v28,((⟨#[]⟩:BA),(v35.2.1,((v35.1.1,(v35.1.2.1,())),((0:Int),()))))))))) else if (v28==(1:Int))=true then (ua n (s.extract (Int.toNat (4:Int)) (Int.toNat (s.size:Int))) (⟨#[32]⟩:BA)).bind fun v39=>(Za n v39).bind fun v40=>(wa n (v40.2.1==(0:Int)) (8:Int)).bind fun x_25=>eX x_25 (fun p24=>kp p24) (fun v41=>(vg n (v28,(v40.1,(false,(((⟨#[]⟩:BA),((⟨#[]⟩:BA),())),((0:Int),())))))).bind fun v42=>(wa n v42 (8:Int)).bind fun x_26=>eX x_26 (fun p25=>kp p25) (fun v43=>k (v28,(v40.1,(false,(((⟨#[]⟩:BA),((⟨#[]⟩:BA),())),((0:Int),()))))))) else if (v28==(2:Int))=true then
 (ua n (s.extract (Int.toNat (4:Int)) (Int.toNat (s.size:Int))) (⟨#[32]⟩:BA)).bind fun v44=>(Za n v44).bind fun v45=>(wa n (v45.2.1==(0:Int)) (8:Int)).bind fun x_27=>eX x_27 (fun p26=>kp p26) (fun v46=>(vg n (v28,(v45.1,(false,(((⟨#[]⟩:BA),((⟨#[]⟩:BA),())),((0:Int),())))))).bind fun v47=>(wa n v47 (8:Int)).bind fun x_28=>eX x_28 (fun p27=>kp p27) (fun v48=>k (v28,(v45.1,(false,(((⟨#[]⟩:BA),((⟨#[]⟩:BA),())),((0:Int),()))))))) else (wa n (!((s.extract (Int.toNat (4:Int)) (Int.toNat (s.size:Int))).toList==(⟨#[32]⟩:BA).toList)) (8:Int)).bind fun x_29=>eX x_29 (fun p28=>kp p28) (fun v49=>(ua n (s.extract (Int.toNat (4:Int)) (Int.toNat (s.size:Int))) (⟨#[32]⟩:BA)).bind fun v50=>(vg n (v28,(v50,(false,(((⟨#[]⟩:BA),((⟨#[]⟩:BA),())),((0:Int),())))))).bind fun v51=>(wa n v51 (8:Int)).bind fun x_30=>eX x_30 (fun p29=>kp p29) (fun v52=>k (v28,(v50,(false,(((⟨#[]⟩:BA),((⟨#[]⟩:BA),())),((0:Int),()))))))) else none else none) else (wa n false (3:Int)).bind fun x_31=>eX x_31 (fun p30=>kp p30) (fun v53=>if 0≤(4:Int)∧(4:Int)≤(s.size:Int) then (Vk n (s.extract (Int.toNat (0:Int)) (Int.toNat (4:Int)))).bind fun v54=>if 0≤(4:Int)∧(4:Int)≤(s.size:Int) then if (v54==(3:Int))=true then
 (uc n (s.extract (Int.toNat (4:Int)) (Int.toNat (s.size:Int))) (⟨#[32,70,82,79,77,58]⟩:BA)).bind fun x_32=>eX x_32 (fun p31=>kp p31) (fun v55=>(sf n v55).bind fun x_33=>eX x_33 (fun p32=>kp p32) (fun v56=>(xo n v56.2.2.1).bind fun x_34=>eX x_34 (fun p33=>kp p33) (fun v57=>(vg n (v54,((⟨#[]⟩:BA),(v56.2.1,((v56.1.1,(v56.1.2.1,())),(v57,())))))).bind fun v58=>(wa n v58 (8:Int)).bind fun x_35=>eX x_35 (fun p34=>kp p34) (fun v59=>k (v54,((⟨#[]⟩:BA),(v56.2.1,((v56.1.1,(v56.1.2.1,())),(v57,()))))))))) else if (v54==(4:Int))=true then (uc n (s.extract (Int.toNat (4:Int)) (Int.toNat (s.size:Int))) (⟨#[32,84,79,58]⟩:BA)).bind fun x_36=>eX x_36 (fun p35=>kp p35) (fun v60=>(sf n v60).bind fun x_37=>eX x_37 (fun p36=>kp p36) (fun v61=>(wa n (v61.2.2.1.toList==(⟨#[]⟩:BA).toList) (8:Int)).bind fun x_38=>eX x_38 (fun p37=>kp p37) (fun v62=>(vg n (v54,((⟨#[]⟩:BA),(v61.2.1,((v61.1.1,(v61.1.2.1,())),((0:Int),())))))).bind fun v63=>(wa n v63 (8:Int)).bind fun x_39=>eX x_39 (fun p38=>kp p38) (fun v64=>k (v54,((⟨#[]⟩:BA),(v61.2.1,((v61.1.1,(v61.1.2.1,())),((0:Int),()))))))))) else if (v54==(1:Int))=true then (ua n (s.extract (Int.toNat (4:Int)) (Int.toNat (s.size:Int))) (⟨#[32]⟩:BA)).bind fun v65=>(Za n v65).bind fun v66=>
 (wa n (v66.2.1==(0:Int)) (8:Int)).bind fun x_40=>eX x_40 (fun p39=>kp p39) (fun v67=>(vg n (v54,(v66.1,(false,(((⟨#[]⟩:BA),((⟨#[]⟩:BA),())),((0:Int),())))))).bind fun v68=>(wa n v68 (8:Int)).bind fun x_41=>eX x_41 (fun p40=>kp p40) (fun v69=>k (v54,(v66.1,(false,(((⟨#[]⟩:BA),((⟨#[]⟩:BA),())),((0:Int),()))))))) else if (v54==(2:Int))=true then (ua n (s.extract (Int.toNat (4:Int)) (Int.toNat (s.size:Int))) (⟨#[32]⟩:BA)).bind fun v70=>(Za n v70).bind fun v71=>(wa n (v71.2.1==(0:Int)) (8:Int)).bind fun x_42=>eX x_42 (fun p41=>kp p41) (fun v72=>(vg n (v54,(v71.1,(false,(((⟨#[]⟩:BA),((⟨#[]⟩:BA),())),((0:Int),())))))).bind fun v73=>(wa n v73 (8:Int)).bind fun x_43=>eX x_43 (fun p42=>kp p42) (fun v74=>k (v54,(v71.1,(false,(((⟨#[]⟩:BA),((⟨#[]⟩:BA),())),((0:Int),()))))))) else (wa n (!((s.extract (Int.toNat (4:Int)) (Int.toNat (s.size:Int))).toList==(⟨#[32]⟩:BA).toList)) (8:Int)).bind fun x_44=>eX x_44 (fun p43=>kp p43) (fun v75=>(ua n (s.extract (Int.toNat (4:Int)) (Int.toNat (s.size:Int))) (⟨#[32]⟩:BA)).bind fun v76=>(vg n (v54,(v76,(false,(((⟨#[]⟩:BA),((⟨#[]⟩:BA),())),((0:Int),())))))).bind fun v77=>(wa n v77 (8:Int)).bind fun x_45=>eX x_45 (fun p44=>
 kp p44) (fun v78=>k (v54,(v76,(false,(((⟨#[]⟩:BA),((⟨#[]⟩:BA),())),((0:Int),()))))))) else none else none) else none else (wa n false (3:Int)).bind fun x_46=>eX x_46 (fun p45=>kp p45) (fun v79=>if 0≤(4:Int)∧(4:Int)≤(s.size:Int) then (Vk n (s.extract (Int.toNat (0:Int)) (Int.toNat (4:Int)))).bind fun v80=>if 0≤(4:Int)∧(4:Int)≤(s.size:Int) then if (v80==(3:Int))=true then (uc n (s.extract (Int.toNat (4:Int)) (Int.toNat (s.size:Int))) (⟨#[32,70,82,79,77,58]⟩:BA)).bind fun x_47=>eX x_47 (fun p46=>kp p46) (fun v81=>(sf n v81).bind fun x_48=>eX x_48 (fun p47=>kp p47) (fun v82=>(xo n v82.2.2.1).bind fun x_49=>eX x_49 (fun p48=>kp p48) (fun v83=>(vg n (v80,((⟨#[]⟩:BA),(v82.2.1,((v82.1.1,(v82.1.2.1,())),(v83,())))))).bind fun v84=>(wa n v84 (8:Int)).bind fun x_50=>eX x_50 (fun p49=>kp p49) (fun v85=>k (v80,((⟨#[]⟩:BA),(v82.2.1,((v82.1.1,(v82.1.2.1,())),(v83,()))))))))) else if (v80==(4:Int))=true then (uc n (s.extract (Int.toNat (4:Int)) (Int.toNat (s.size:Int))) (⟨#[32,84,79,58]⟩:BA)).bind fun x_51=>eX x_51 (fun p50=>kp p50) (fun v86=>(sf n v86).bind fun x_52=>eX x_52 (fun p51=>kp p51) (fun v87=>(wa n (v87.2.2.1.toList==(⟨#[]⟩:BA).toList) (8:Int)).bind fun x_53=>eX x_53 (fun p52=>kp p52) (fun v88=>(vg n (v80,((⟨#[]⟩:BA),(v87.2.1,((v87.1.1,(v87.1.2.1,())),((0:Int),())))))).bind fun v89=>
 (wa n v89 (8:Int)).bind fun x_54=>eX x_54 (fun p53=>kp p53) (fun v90=>k (v80,((⟨#[]⟩:BA),(v87.2.1,((v87.1.1,(v87.1.2.1,())),((0:Int),()))))))))) else if (v80==(1:Int))=true then (ua n (s.extract (Int.toNat (4:Int)) (Int.toNat (s.size:Int))) (⟨#[32]⟩:BA)).bind fun v91=>(Za n v91).bind fun v92=>(wa n (v92.2.1==(0:Int)) (8:Int)).bind fun x_55=>eX x_55 (fun p54=>kp p54) (fun v93=>(vg n (v80,(v92.1,(false,(((⟨#[]⟩:BA),((⟨#[]⟩:BA),())),((0:Int),())))))).bind fun v94=>(wa n v94 (8:Int)).bind fun x_56=>eX x_56 (fun p55=>kp p55) (fun v95=>k (v80,(v92.1,(false,(((⟨#[]⟩:BA),((⟨#[]⟩:BA),())),((0:Int),()))))))) else if (v80==(2:Int))=true then (ua n (s.extract (Int.toNat (4:Int)) (Int.toNat (s.size:Int))) (⟨#[32]⟩:BA)).bind fun v96=>(Za n v96).bind fun v97=>(wa n (v97.2.1==(0:Int)) (8:Int)).bind fun x_57=>eX x_57 (fun p56=>kp p56) (fun v98=>(vg n (v80,(v97.1,(false,(((⟨#[]⟩:BA),((⟨#[]⟩:BA),())),((0:Int),())))))).bind fun v99=>(wa n v99 (8:Int)).bind fun x_58=>eX x_58 (fun p57=>kp p57) (fun v100=>k (v80,(v97.1,(false,(((⟨#[]⟩:BA),((⟨#[]⟩:BA),())),((0:Int),()))))))) else (wa n (!((s.extract (Int.toNat (4:Int)) (Int.toNat (s.size:Int))).toList==(⟨#[32]⟩:BA).toList)) (8:Int)).bind fun x_59=>eX x_59 (fun p58=>
 kp p58) (fun v101=>(ua n (s.extract (Int.toNat (4:Int)) (Int.toNat (s.size:Int))) (⟨#[32]⟩:BA)).bind fun v102=>(vg n (v80,(v102,(false,(((⟨#[]⟩:BA),((⟨#[]⟩:BA),())),((0:Int),())))))).bind fun v103=>(wa n v103 (8:Int)).bind fun x_60=>eX x_60 (fun p59=>kp p59) (fun v104=>k (v80,(v102,(false,(((⟨#[]⟩:BA),((⟨#[]⟩:BA),())),((0:Int),()))))))) else none else none)
def FD (n:Nat) (s:BA):Option (Except Int T1):=Cu n s (fun y=>some (.ok y)) (fun p=>some (.error p))
theorem DL (n:Nat) {S:Type}:∀ s (φ:_→Option S),(FD n s).bind φ=Cu n s (fun y=>φ (.ok y)) (fun p=>φ (.error p)):=by
  intros;unfold FD Cu;first | (simp only [ia,ba,iB,bB,oL,oX,nB,Option.bind_some]) | rfl
def Dr (n:Nat):Hint Out:={ live:=fun c=>[],run:=fun c=>none,xm:=fun c q=>none }
theorem pB (n:Nat):ta tys (fa Out (Cm n)) (Dr n) n (aa Tryz.f111) 0:=oa (fun _=>rfl) _ _ (by kernel_rfl)
theorem fN (n:Nat):Enters Tryz.prog 111:=enters_of (c:=aa Tryz.f111) Tryz.func111 (by kernel_rfl) (by kernel_rfl)
def fI (n:Nat):Entry:=⟨111,kX 159 (.pair .str .unit) (.one K2) (fun xs=>FD n xs.1),none,none⟩
theorem lP (n:Nat):EntryOk Tryz.prog gl (fI n):=Et (fN n) (fun xs y h=>ma tys_ok (Ah n) mixed (hint:=Dr n) (n:=n) Tryz.func111 (Ea (pB n)) (na (φ:=(fun r=>eX r (fun p=>some (Out.pan (de 159 p))) fun y=>some (Out.ret (Qb (.one K2) y)))) (by kernel_rfl) (DL n xs.1 _) h)) (fun xs p h=>ma tys_ok (Ah n) mixed (hint:=Dr n) (n:=n) Tryz.func111 (Ea (pB n)) (na (φ:=(fun r=>eX r (fun p=>some (Out.pan (de 159 p))) fun y=>some (Out.ret (Qb (.one K2) y)))) (by kernel_rfl) (DL n xs.1 _) h))
def Xk (n:Nat):List Entry:=fI n::Cm n
theorem rx (n:Nat):AllOk Tryz.prog gl (Xk n):=.cons (lP n) (Ah n)
def Tk (n:Nat) {R:Type} (s:BA) (k:(T1×Int×Unit)→Option R):Option R:=(FD n s).bind fun x_1=>eX x_1 (fun p=>k (((0:Int),((⟨#[]⟩:BA),(false,(((⟨#[]⟩:BA),((⟨#[]⟩:BA),())),((0:Int),()))))),(p,()))) (fun v=>k ((v.1,(v.2.1,(v.2.2.1,((v.2.2.2.1.1,(v.2.2.2.1.2.1,())),(v.2.2.2.2.1,()))))),((0:Int),())))
def gw (n:Nat) (s:BA):Option (T1×Int×Unit):=Tk n s some
theorem dP (n:Nat) {S:Type}:∀ s (φ:_→Option S),(gw n s).bind φ=Tk n s φ:=by
  intros;unfold gw Tk;first | (simp only [ia,ba,iB,bB,oL,oX,nB,Option.bind_some]) | rfl
def pj (n:Nat):Hint Out:={ live:=fun c=>[],run:=fun c=>none,xm:=fun c q=>none,pm:=some [(2,none),(3,none)] }
theorem SH (n:Nat):ta tys (fa Out (Xk n)) (pj n) n (Ba [0] (aa Tryz.f78)) 0∧ta tys (fa Out (Xk n)) (pj n) n (Ba [1,1] (aa Tryz.f78)) 0:=⟨trivial,⟨trivial,trivial⟩⟩
theorem aK (n:Nat):Enters Tryz.prog 78:=enters_of (c:=aa Tryz.f78) Tryz.func78 (by kernel_rfl) (by kernel_rfl)
theorem YA:Tryz.prog.funcs[110]?=some Tryz.f110:=by kernel_rfl
theorem RH:Enters Tryz.prog 110:=enters_of (c:=aa Tryz.f110) YA (by kernel_rfl) (by kernel_rfl)
theorem sF (n:Nat):ta tys (fa Out (Xk n)) DE n (Ba [1] (aa Tryz.f110)) 0:=⟨⟨trivial,⟨trivial,trivial⟩⟩,⟨trivial,⟨⟨trivial,⟨trivial,trivial⟩⟩,trivial⟩⟩⟩
theorem cP (n:Nat) (s:BA):BW tys (fa Out (Xk n)) (pj n) n 110 Tryz.f110 Tryz.f78 (tM (.pair .str .unit) (s,())) (OJ fun v=>some (.ret v))=Tk n s (fun y=>some (.ret (Qb (.many bW) y))):=by kernel_rfl
def BD (n:Nat):Entry:=⟨78,jX (.pair .str .unit) (.many bW) (fun xs=>gw n xs.1),none,none⟩
theorem VM (n:Nat):EntryOk Tryz.prog gl (BD n):=Aa (aK n) fun xs y h=>cD tys_ok (rx n) mixed (hint:=pj n) (n:=n) (fn:=Tryz.f78) (f2:=Tryz.f110) Tryz.func78 YA RH (NT (SH n)) (kR (sF n)) (na (φ:=(fun y=>some (Out.ret (Qb (.many bW) y)))) (cP n xs.1) (dP n xs.1 _) h)
def jw (n:Nat):List Entry:=BD n::Xk n
theorem vu (n:Nat):AllOk Tryz.prog gl (jw n):=.cons (VM n) (rx n)
def ql (n:Nat) {R:Type} (c:T0) (k:U1→Option R):Option R:=if (c.2.2.2.2.1 !=(0:Int))=true then if (c.2.2.2.2.1 !=(5:Int))=true then k (c.1,(c.2.1,(c.2.2.1,(c.2.2.2.1.1,(c.2.2.2.1.2.1,((1:Int),(c.2.2.2.2.2.1,(false,((⟨#[]⟩:BA),((⟨#[]⟩:BA),((0:Int),(false,((⟨0,fun _=>sa (.pair .str (.pair .str .unit))⟩:Sq U0),((⟨0,fun _=>sa .str⟩:Sq BA),())))))))))))))) else k (c.1,(c.2.1,(c.2.2.1,(c.2.2.2.1.1,(c.2.2.2.1.2.1,(c.2.2.2.2.1,(c.2.2.2.2.2.1,(false,((⟨#[]⟩:BA),((⟨#[]⟩:BA),((0:Int),(false,((⟨0,fun _=>sa (.pair .str (.pair .str .unit))⟩:Sq U0),((⟨0,fun _=>sa .str⟩:Sq BA),())))))))))))))) else k (c.1,(c.2.1,(c.2.2.1,(c.2.2.2.1.1,(c.2.2.2.1.2.1,(c.2.2.2.2.1,(c.2.2.2.2.2.1,(false,((⟨#[]⟩:BA),((⟨#[]⟩:BA),((0:Int),(false,((⟨0,fun _=>sa (.pair .str (.pair .str .unit))⟩:Sq U0),((⟨0,fun _=>sa .str⟩:Sq BA),()))))))))))))))
def wd (n:Nat) (c:T0):Option U1:=ql n c some
theorem OI (n:Nat) {S:Type}:∀ c (φ:_→Option S),(wd n c).bind φ=ql n c φ:=by
  intros;unfold wd ql;first | (simp only [ia,ba,iB,bB,oL,oX,nB,Option.bind_some]) | rfl
def Wp (n:Nat):Hint OutS:={ live:=fun c=>[],run:=fun c=>none,xm:=fun c q=>none,pr:=[(0,10,47),(0,11,9)] }
theorem UB (n:Nat):ta tys (fa OutS (jw n)).keep (Wp n) n (aa Tryz.f46) 0:=oa (fun _=>rfl) _ _ (by kernel_rfl)
theorem bE (n:Nat):Enters Tryz.prog 46:=enters_of (c:=aa Tryz.f46) Tryz.func46 (by kernel_rfl) (by kernel_rfl)
def Jw:List RSp:=[.one (.dat K0)]
def Iw:List RS:=[]
def cE:List Sl:=[.top]
def dE:List RSp:=[.agg [.dat (.int .i64),.dat (.int .i64),.dat (.int .i64),.dat .str,.dat .bool,.dat (.int .i64),.dat .str,.dat .bool,.dat .str,.dat .str,.row 0,.row 1,.dat (.int .i64),.dat .bool]]
def dh:List RS:=[.row 47 2 (.pair .str (.pair .str .unit)) true true,.row 9 1 .str true true]
def Jq (y:U1):OutS:=⟨false,un (Ue dh (y.2.2.2.2.2.2.2.2.2.2.2.2.1,(y.2.2.2.2.2.2.2.2.2.2.2.2.2.1,()))) cE (),zD (pC (Ue dh (y.2.2.2.2.2.2.2.2.2.2.2.2.1,(y.2.2.2.2.2.2.2.2.2.2.2.2.2.1,()))) dE ((y.1,(y.2.1,(y.2.2.1,(y.2.2.2.1,(y.2.2.2.2.1,(y.2.2.2.2.2.1,(y.2.2.2.2.2.2.1,(y.2.2.2.2.2.2.2.1,(y.2.2.2.2.2.2.2.2.1,(y.2.2.2.2.2.2.2.2.2.1,(y.2.2.2.2.2.2.2.2.2.2.1,(y.2.2.2.2.2.2.2.2.2.2.2.1,())))))))))))),())),Qu (Ue dh (y.2.2.2.2.2.2.2.2.2.2.2.2.1,(y.2.2.2.2.2.2.2.2.2.2.2.2.2.1,()))) dh (y.2.2.2.2.2.2.2.2.2.2.2.2.1,(y.2.2.2.2.2.2.2.2.2.2.2.2.2.1,()))⟩
theorem mG (n:Nat):EntryOk Tryz.prog gl ⟨46,Kj,none,some (rW Jw Iw (fun σ ρ=>wd n σ.1.1) Jq)⟩:=Ph (bE n) fun σ ρ y h=>Iq tys_ok (vu n) mixed (hint:=Wp n) (n:=n) Tryz.func46 (Ea (UB n)) (na (φ:=fun y=>some (Jq y)) (by kernel_rfl) (OI n σ.1.1 _) h)
def Nm (n:Nat):List Entry:=⟨46,Kj,none,some (rW Jw Iw (fun σ ρ=>wd n σ.1.1) Jq)⟩::jw n
theorem Om (n:Nat):AllOk Tryz.prog gl (Nm n):=.cons (mG n) (vu n)
def pv (n:Nat) {R:Type} (c:T0) (v:T1) (k:(Int×BA×Unit)→Option R):Option R:=if (c.2.2.2.2.1 !=(2:Int))=true then if (c.2.2.2.2.1 !=(3:Int))=true then k ((503:Int),((⟨#[]⟩:BA),())) else if ((c.2.2.2.2.2.2.2.2.1.n:Int)==(8:Int))=true then k ((452:Int),((⟨#[]⟩:BA),())) else (nX n c.2.2.2.2.2.2.2.2.1 v.2.2.2.1).bind fun v1=>if v1=true then k ((250:Int),((⟨#[]⟩:BA),())) else k ((0:Int),((⟨#[114,99,112,116]⟩:BA),())) else if ((c.2.2.2.2.2.2.2.2.1.n:Int)==(8:Int))=true then k ((452:Int),((⟨#[]⟩:BA),())) else (nX n c.2.2.2.2.2.2.2.2.1 v.2.2.2.1).bind fun v2=>if v2=true then k ((250:Int),((⟨#[]⟩:BA),())) else k ((0:Int),((⟨#[114,99,112,116]⟩:BA),()))
def et (n:Nat) (c:T0) (v:T1):Option (Int×BA×Unit):=pv n c v some
theorem gM (n:Nat) {S:Type}:∀ c v (φ:_→Option S),(et n c v).bind φ=pv n c v φ:=by
  intros;unfold et pv;first | (simp only [ia,ba,iB,bB,oL,oX,nB,Option.bind_some]) | rfl
def ft (n:Nat):Hint Out:={ live:=fun c=>[],run:=fun c=>none,xm:=fun c q=>none }
theorem pE (n:Nat):ta tys (fa Out (Nm n)) (ft n) n (aa Tryz.f112) 0:=oa (fun _=>rfl) _ _ (by kernel_rfl)
theorem CG (n:Nat):Enters Tryz.prog 112:=enters_of (c:=aa Tryz.f112) Tryz.func112 (by kernel_rfl) (by kernel_rfl)
def Iz (n:Nat):Entry:=⟨112,jX cW (.many (.pair (.int .i64) (.pair .str .unit))) (fun xs=>et n xs.1 xs.2.1),none,none⟩
theorem YI (n:Nat):EntryOk Tryz.prog gl (Iz n):=Aa (CG n) fun xs y h=>ma tys_ok (Om n) mixed (hint:=ft n) (n:=n) Tryz.func112 (Ea (pE n)) (na (φ:=(fun y=>some (Out.ret (Qb (.many (.pair (.int .i64) (.pair .str .unit))) y)))) (by kernel_rfl) (gM n xs.1 xs.2.1 _) h)
def Pq (n:Nat):List Entry:=Iz n::Nm n
theorem Zp (n:Nat):AllOk Tryz.prog gl (Pq n):=.cons (YI n) (Om n)
def Um (n:Nat) {R:Type} (c:T0) (v:T1) (k:(T0×Int×BA×Unit)→Option R):Option R:=if (v.1==(1:Int))=true then (Ae n v.2.1).bind fun v1=>if (!v1)=true then k (c,((501:Int),((⟨#[]⟩:BA),()))) else (wd n (c.1,(c.2.1,(c.2.2.1,(c.2.2.2.1,((1:Int),(v.2.1,c.2.2.2.2.2.2))))))).bind fun v2=>k ((v2.1,(v2.2.1,(v2.2.2.1,((v2.2.2.2.1,(v2.2.2.2.2.1,())),(v2.2.2.2.2.2.1,(v2.2.2.2.2.2.2.1,(v2.2.2.2.2.2.2.2.1,((v2.2.2.2.2.2.2.2.2.1,(v2.2.2.2.2.2.2.2.2.2.1,())),(v2.2.2.2.2.2.2.2.2.2.2.2.2.1,(v2.2.2.2.2.2.2.2.2.2.2.2.2.2.1,(v2.2.2.2.2.2.2.2.2.2.2.1,(v2.2.2.2.2.2.2.2.2.2.2.2.1,())))))))))))),((250:Int),((⟨#[]⟩:BA),()))) else if (v.1==(2:Int))=true then (Ae n v.2.1).bind fun v3=>if (!v3)=true then k (c,((501:Int),((⟨#[]⟩:BA),()))) else (wd n (c.1,(c.2.1,(c.2.2.1,(c.2.2.2.1,((1:Int),(v.2.1,c.2.2.2.2.2.2))))))).bind fun v4=>k ((v4.1,(v4.2.1,(v4.2.2.1,((v4.2.2.2.1,(v4.2.2.2.2.1,())),(v4.2.2.2.2.2.1,(v4.2.2.2.2.2.2.1,(v4.2.2.2.2.2.2.2.1,((v4.2.2.2.2.2.2.2.2.1,(v4.2.2.2.2.2.2.2.2.2.1,())),(v4.2.2.2.2.2.2.2.2.2.2.2.2.1,(v4.2.2.2.2.2.2.2.2.2.2.2.2.2.1,(v4.2.2.2.2.2.2.2.2.2.2.1,(v4.2.2.2.2.2.2.2.2.2.2.2.1,())))))))))))),((250:Int),((⟨#[]⟩:BA),()))) else if (v.1==(6:Int))=true then (wd n c).bind fun v5=>k ((v5.1,(v5.2.1,(v5.2.2.1,((v5.2.2.2.1,(v5.2.2.2.2.1,())),(v5.2.2.2.2.2.1,(v5.2.2.2.2.2.2.1,(v5.2.2.2.2.2.2.2.1,((v5.2.2.2.2.2.2.2.2.1,(v5.2.2.2.2.2.2.2.2.2.1,())),(v5.2.2.2.2.2.2.2.2.2.2.2.2.1,(v5.2.2.2.2.2.2.2.2.2.2.2.2.2.1,(v5.2.2.2.2.2.2.2.2.2.2.1,(v5.2.2.2.2.2.2.2.2.2.2.2.1,())))))))))))),((250:Int),((⟨#[]⟩:BA),())))
 else if (v.1==(7:Int))=true then k (c,((250:Int),((⟨#[]⟩:BA),()))) else if (v.1==(9:Int))=true then k (c,((252:Int),((⟨#[]⟩:BA),()))) else if (v.1==(8:Int))=true then (wd n c).bind fun v6=>k ((v6.1,(v6.2.1,(v6.2.2.1,((v6.2.2.2.1,(v6.2.2.2.2.1,())),((5:Int),(v6.2.2.2.2.2.2.1,(v6.2.2.2.2.2.2.2.1,((v6.2.2.2.2.2.2.2.2.1,(v6.2.2.2.2.2.2.2.2.2.1,())),(v6.2.2.2.2.2.2.2.2.2.2.2.2.1,(v6.2.2.2.2.2.2.2.2.2.2.2.2.2.1,(v6.2.2.2.2.2.2.2.2.2.2.1,(v6.2.2.2.2.2.2.2.2.2.2.2.1,())))))))))))),((221:Int),((⟨#[]⟩:BA),()))) else if (v.1==(4:Int))=true then (et n c v).bind fun v7=>k (c,(v7.1,(v7.2.1,()))) else if (v.1==(5:Int))=true then if (c.2.2.2.2.1 !=(3:Int))=true then k (c,((503:Int),((⟨#[]⟩:BA),()))) else k ((c.1,(c.2.1,(c.2.2.1,(c.2.2.2.1,((4:Int),c.2.2.2.2.2))))),((354:Int),((⟨#[]⟩:BA),()))) else if (c.2.2.2.2.1 !=(1:Int))=true then k (c,((503:Int),((⟨#[]⟩:BA),()))) else if (decide (v.2.2.2.2.1>(8192:Int)))=true then k (c,((552:Int),((⟨#[]⟩:BA),()))) else k (c,((0:Int),((⟨#[109,97,105,108]⟩:BA),())))
def fv (n:Nat) (c:T0) (v:T1):Option (T0×Int×BA×Unit):=Um n c v some
theorem zG (n:Nat) {S:Type}:∀ c v (φ:_→Option S),(fv n c v).bind φ=Um n c v φ:=by
  intros;unfold fv Um;first | (simp only [ia,ba,iB,bB,oL,oX,nB,Option.bind_some]) | rfl
def Vm (n:Nat):Hint Out:={ live:=fun c=>[],run:=fun c=>none,xm:=fun c q=>none }
theorem Fz (n:Nat):ta tys (fa Out (Pq n)) (Vm n) n (aa Tryz.f79) 0:=oa (fun _=>rfl) _ _ (by kernel_rfl)
theorem bC (n:Nat):Enters Tryz.prog 79:=enters_of (c:=aa Tryz.f79) Tryz.func79 (by kernel_rfl) (by kernel_rfl)
def Ws (n:Nat):Entry:=⟨79,jX cW (.many dW) (fun xs=>fv n xs.1 xs.2.1),none,none⟩
theorem nE (n:Nat):EntryOk Tryz.prog gl (Ws n):=Aa (bC n) fun xs y h=>ma tys_ok (Zp n) mixed (hint:=Vm n) (n:=n) Tryz.func79 (Ea (Fz n)) (na (φ:=(fun y=>some (Out.ret (Qb (.many dW) y)))) (by kernel_rfl) (zG n xs.1 xs.2.1 _) h)
def wl (n:Nat):List Entry:=Ws n::Pq n
theorem fm (n:Nat):AllOk Tryz.prog gl (wl n):=.cons (nE n) (Zp n)
def Kq (n:Nat) {R:Type} (c c1 c2:Int) (c3:BA) (c4:Bool) (c5:Int) (c6:BA) (c7:Bool) (c8 c9:BA) (c10:Int) (c11:Bool) (r0:(Sq U0)) (r1:(Sq BA)) (k:U1→Option R):Option R:=if (c5 !=(0:Int))=true then if (c5 !=(5:Int))=true then k (c,(c1,(c2,(c3,(c4,((1:Int),(c6,(false,((⟨#[]⟩:BA),((⟨#[]⟩:BA),((0:Int),(false,((⟨0,fun _=>sa (.pair .str (.pair .str .unit))⟩:Sq U0),((⟨0,fun _=>sa .str⟩:Sq BA),())))))))))))))) else k (c,(c1,(c2,(c3,(c4,(c5,(c6,(false,((⟨#[]⟩:BA),((⟨#[]⟩:BA),((0:Int),(false,((⟨0,fun _=>sa (.pair .str (.pair .str .unit))⟩:Sq U0),((⟨0,fun _=>sa .str⟩:Sq BA),())))))))))))))) else k (c,(c1,(c2,(c3,(c4,(c5,(c6,(false,((⟨#[]⟩:BA),((⟨#[]⟩:BA),((0:Int),(false,((⟨0,fun _=>sa (.pair .str (.pair .str .unit))⟩:Sq U0),((⟨0,fun _=>sa .str⟩:Sq BA),()))))))))))))))
def ng (n:Nat) (c c1 c2:Int) (c3:BA) (c4:Bool) (c5:Int) (c6:BA) (c7:Bool) (c8 c9:BA) (c10:Int) (c11:Bool) (r0:(Sq U0)) (r1:(Sq BA)):Option U1:=Kq n c c1 c2 c3 c4 c5 c6 c7 c8 c9 c10 c11 r0 r1 some
theorem PI (n:Nat) {S:Type}:∀ c c1 c2 c3 c4 c5 c6 c7 c8 c9 c10 c11 r0 r1 (φ:_→Option S),(ng n c c1 c2 c3 c4 c5 c6 c7 c8 c9 c10 c11 r0 r1).bind φ=Kq n c c1 c2 c3 c4 c5 c6 c7 c8 c9 c10 c11 r0 r1 φ:=by
  intros;unfold ng Kq;first | (simp only [ia,ba,iB,bB,oL,oX,nB,Option.bind_some]) | rfl
def Xp (n:Nat):Hint OutS:={ live:=fun c=>[],run:=fun c=>none,xm:=fun c q=>none,pr:=[(0,10,47),(0,11,9)] }
theorem VB (n:Nat):ta tys (fa OutS (wl n)).keep (Xp n) n (aa Tryz.f46) 0:=oa (fun _=>rfl) _ _ (by kernel_rfl)
theorem eE (n:Nat):Enters Tryz.prog 46:=enters_of (c:=aa Tryz.f46) Tryz.func46 (by kernel_rfl) (by kernel_rfl)
def Lw:List RSp:=[.agg [.dat (.int .i64),.dat (.int .i64),.dat (.int .i64),.dat .str,.dat .bool,.dat (.int .i64),.dat .str,.dat .bool,.dat .str,.dat .str,.row 0,.row 1,.dat (.int .i64),.dat .bool]]
def Kw:List RS:=[.row 47 2 (.pair .str (.pair .str .unit)) true true,.row 9 1 .str true true]
def fE:List Sl:=[.top]
def gE:List RSp:=[.agg [.dat (.int .i64),.dat (.int .i64),.dat (.int .i64),.dat .str,.dat .bool,.dat (.int .i64),.dat .str,.dat .bool,.dat .str,.dat .str,.row 0,.row 1,.dat (.int .i64),.dat .bool]]
def eh:List RS:=[.row 47 2 (.pair .str (.pair .str .unit)) true true,.row 9 1 .str true true]
def Lq (y:U1):OutS:=⟨false,un (Ue eh (y.2.2.2.2.2.2.2.2.2.2.2.2.1,(y.2.2.2.2.2.2.2.2.2.2.2.2.2.1,()))) fE (),zD (pC (Ue eh (y.2.2.2.2.2.2.2.2.2.2.2.2.1,(y.2.2.2.2.2.2.2.2.2.2.2.2.2.1,()))) gE ((y.1,(y.2.1,(y.2.2.1,(y.2.2.2.1,(y.2.2.2.2.1,(y.2.2.2.2.2.1,(y.2.2.2.2.2.2.1,(y.2.2.2.2.2.2.2.1,(y.2.2.2.2.2.2.2.2.1,(y.2.2.2.2.2.2.2.2.2.1,(y.2.2.2.2.2.2.2.2.2.2.1,(y.2.2.2.2.2.2.2.2.2.2.2.1,())))))))))))),())),Qu (Ue eh (y.2.2.2.2.2.2.2.2.2.2.2.2.1,(y.2.2.2.2.2.2.2.2.2.2.2.2.2.1,()))) eh (y.2.2.2.2.2.2.2.2.2.2.2.2.1,(y.2.2.2.2.2.2.2.2.2.2.2.2.2.1,()))⟩
theorem nG (n:Nat):EntryOk Tryz.prog gl ⟨46,Kj,none,some (rW Lw Kw (fun σ ρ=>ng n σ.1.1 σ.1.2.1 σ.1.2.2.1 σ.1.2.2.2.1 σ.1.2.2.2.2.1 σ.1.2.2.2.2.2.1 σ.1.2.2.2.2.2.2.1 σ.1.2.2.2.2.2.2.2.1 σ.1.2.2.2.2.2.2.2.2.1 σ.1.2.2.2.2.2.2.2.2.2.1 σ.1.2.2.2.2.2.2.2.2.2.2.1 σ.1.2.2.2.2.2.2.2.2.2.2.2.1 ρ.1 ρ.2.1) Lq)⟩:=Ph (eE n) fun σ ρ y h=>Iq tys_ok (fm n) mixed (hint:=Xp n) (n:=n) Tryz.func46 (Ea (VB n)) (na (φ:=fun y=>some (Lq y)) (by kernel_rfl) (PI n σ.1.1 σ.1.2.1 σ.1.2.2.1 σ.1.2.2.2.1 σ.1.2.2.2.2.1 σ.1.2.2.2.2.2.1 σ.1.2.2.2.2.2.2.1 σ.1.2.2.2.2.2.2.2.1 σ.1.2.2.2.2.2.2.2.2.1 σ.1.2.2.2.2.2.2.2.2.2.1 σ.1.2.2.2.2.2.2.2.2.2.2.1 σ.1.2.2.2.2.2.2.2.2.2.2.2.1 ρ.1 ρ.2.1 _) h)
def Pm (n:Nat):List Entry:=⟨46,Kj,none,some (rW Lw Kw (fun σ ρ=>ng n σ.1.1 σ.1.2.1 σ.1.2.2.1 σ.1.2.2.2.1 σ.1.2.2.2.2.1 σ.1.2.2.2.2.2.1 σ.1.2.2.2.2.2.2.1 σ.1.2.2.2.2.2.2.2.1 σ.1.2.2.2.2.2.2.2.2.1 σ.1.2.2.2.2.2.2.2.2.2.1 σ.1.2.2.2.2.2.2.2.2.2.2.1 σ.1.2.2.2.2.2.2.2.2.2.2.2.1 ρ.1 ρ.2.1) Lq)⟩::wl n
theorem Qm (n:Nat):AllOk Tryz.prog gl (Pm n):=.cons (nG n) (fm n)
def Ih (n:Nat) {R:Type} (c c1 c2:Int) (c3:BA) (c4:Bool) (c5:Int) (c6:BA) (c7:Bool) (c8 c9:BA) (c10:Int) (c11:Bool) (v:T1) (r0:(Sq U0)) (r1:(Sq BA)) (k:(T0×Int×BA×Unit)→Option R):Option R:=if (v.1==(1:Int))=true then (Ae n v.2.1).bind fun v1=>if (!v1)=true then k ((c,(c1,(c2,((c3,(c4,())),(c5,(c6,(c7,((c8,(c9,())),(r0,(r1,(c10,(c11,())))))))))))),((501:Int),((⟨#[]⟩:BA),()))) else (ng n c c1 c2 c3 c4 (1:Int) v.2.1 c7 c8 c9 c10 c11 r0 r1).bind fun v2=>k ((v2.1,(v2.2.1,(v2.2.2.1,((v2.2.2.2.1,(v2.2.2.2.2.1,())),(v2.2.2.2.2.2.1,(v2.2.2.2.2.2.2.1,(v2.2.2.2.2.2.2.2.1,((v2.2.2.2.2.2.2.2.2.1,(v2.2.2.2.2.2.2.2.2.2.1,())),(v2.2.2.2.2.2.2.2.2.2.2.2.2.1,(v2.2.2.2.2.2.2.2.2.2.2.2.2.2.1,(v2.2.2.2.2.2.2.2.2.2.2.1,(v2.2.2.2.2.2.2.2.2.2.2.2.1,())))))))))))),((250:Int),((⟨#[]⟩:BA),()))) else if (v.1==(2:Int))=true then (Ae n v.2.1).bind fun v3=>if (!v3)=true then k ((c,(c1,(c2,((c3,(c4,())),(c5,(c6,(c7,((c8,(c9,())),(r0,(r1,(c10,(c11,())))))))))))),((501:Int),((⟨#[]⟩:BA),()))) else (ng n c c1 c2 c3 c4 (1:Int) v.2.1 c7 c8 c9 c10 c11 r0 r1).bind fun v4=>k ((v4.1,(v4.2.1,(v4.2.2.1,((v4.2.2.2.1,(v4.2.2.2.2.1,())),(v4.2.2.2.2.2.1,(v4.2.2.2.2.2.2.1,(v4.2.2.2.2.2.2.2.1,((v4.2.2.2.2.2.2.2.2.1,(v4.2.2.2.2.2.2.2.2.2.1,())),(v4.2.2.2.2.2.2.2.2.2.2.2.2.1,(v4.2.2.2.2.2.2.2.2.2.2.2.2.2.1,(v4.2.2.2.2.2.2.2.2.2.2.1,(v4.2.2.2.2.2.2.2.2.2.2.2.1,())))))))))))),((250:Int),((⟨#[]⟩:BA),())))
 else if (v.1==(6:Int))=true then (ng n c c1 c2 c3 c4 c5 c6 c7 c8 c9 c10 c11 r0 r1).bind fun v5=>k ((v5.1,(v5.2.1,(v5.2.2.1,((v5.2.2.2.1,(v5.2.2.2.2.1,())),(v5.2.2.2.2.2.1,(v5.2.2.2.2.2.2.1,(v5.2.2.2.2.2.2.2.1,((v5.2.2.2.2.2.2.2.2.1,(v5.2.2.2.2.2.2.2.2.2.1,())),(v5.2.2.2.2.2.2.2.2.2.2.2.2.1,(v5.2.2.2.2.2.2.2.2.2.2.2.2.2.1,(v5.2.2.2.2.2.2.2.2.2.2.1,(v5.2.2.2.2.2.2.2.2.2.2.2.1,())))))))))))),((250:Int),((⟨#[]⟩:BA),()))) else if (v.1==(7:Int))=true then k ((c,(c1,(c2,((c3,(c4,())),(c5,(c6,(c7,((c8,(c9,())),(r0,(r1,(c10,(c11,())))))))))))),((250:Int),((⟨#[]⟩:BA),()))) else if (v.1==(9:Int))=true then k ((c,(c1,(c2,((c3,(c4,())),(c5,(c6,(c7,((c8,(c9,())),(r0,(r1,(c10,(c11,())))))))))))),((252:Int),((⟨#[]⟩:BA),()))) else if (v.1==(8:Int))=true then (ng n c c1 c2 c3 c4 c5 c6 c7 c8 c9 c10 c11 r0 r1).bind fun v6=>k ((v6.1,(v6.2.1,(v6.2.2.1,((v6.2.2.2.1,(v6.2.2.2.2.1,())),((5:Int),(v6.2.2.2.2.2.2.1,(v6.2.2.2.2.2.2.2.1,((v6.2.2.2.2.2.2.2.2.1,(v6.2.2.2.2.2.2.2.2.2.1,())),(v6.2.2.2.2.2.2.2.2.2.2.2.2.1,(v6.2.2.2.2.2.2.2.2.2.2.2.2.2.1,(v6.2.2.2.2.2.2.2.2.2.2.1,(v6.2.2.2.2.2.2.2.2.2.2.2.1,())))))))))))),((221:Int),((⟨#[]⟩:BA),()))) else if (v.1==(4:Int))=true then (et n (c,(c1,(c2,((c3,(c4,())),(c5,(c6,(c7,((c8,(c9,())),(r0,(r1,(c10,(c11,())))))))))))) v).bind fun v7=>k ((c,(c1,(c2,((c3,(c4,())),(c5,(c6,(c7,((c8,(c9,())),(r0,(r1,(c10,(c11,())))))))))))),(v7.1,(v7.2.1,())))
 else if (v.1==(5:Int))=true then if (c5 !=(3:Int))=true then k ((c,(c1,(c2,((c3,(c4,())),(c5,(c6,(c7,((c8,(c9,())),(r0,(r1,(c10,(c11,())))))))))))),((503:Int),((⟨#[]⟩:BA),()))) else k ((c,(c1,(c2,((c3,(c4,())),((4:Int),(c6,(c7,((c8,(c9,())),(r0,(r1,(c10,(c11,())))))))))))),((354:Int),((⟨#[]⟩:BA),()))) else if (c5 !=(1:Int))=true then k ((c,(c1,(c2,((c3,(c4,())),(c5,(c6,(c7,((c8,(c9,())),(r0,(r1,(c10,(c11,())))))))))))),((503:Int),((⟨#[]⟩:BA),()))) else if (decide (v.2.2.2.2.1>(8192:Int)))=true then k ((c,(c1,(c2,((c3,(c4,())),(c5,(c6,(c7,((c8,(c9,())),(r0,(r1,(c10,(c11,())))))))))))),((552:Int),((⟨#[]⟩:BA),()))) else k ((c,(c1,(c2,((c3,(c4,())),(c5,(c6,(c7,((c8,(c9,())),(r0,(r1,(c10,(c11,())))))))))))),((0:Int),((⟨#[109,97,105,108]⟩:BA),())))
def Sd (n:Nat) (c c1 c2:Int) (c3:BA) (c4:Bool) (c5:Int) (c6:BA) (c7:Bool) (c8 c9:BA) (c10:Int) (c11:Bool) (v:T1) (r0:(Sq U0)) (r1:(Sq BA)):Option (T0×Int×BA×Unit):=Ih n c c1 c2 c3 c4 c5 c6 c7 c8 c9 c10 c11 v r0 r1 some
theorem Gz (n:Nat) {S:Type}:∀ c c1 c2 c3 c4 c5 c6 c7 c8 c9 c10 c11 v r0 r1 (φ:_→Option S),(Sd n c c1 c2 c3 c4 c5 c6 c7 c8 c9 c10 c11 v r0 r1).bind φ=Ih n c c1 c2 c3 c4 c5 c6 c7 c8 c9 c10 c11 v r0 r1 φ:=by
  intros;unfold Sd Ih;first | (simp only [ia,ba,iB,bB,oL,oX,nB,Option.bind_some]) | rfl
def Hi (n:Nat):Hint OutS:={ live:=fun c=>[],run:=fun c=>none,xm:=fun c q=>none,fz:=true }
theorem Xs (n:Nat):ta tys (fa OutS (Pm n)) (Hi n) n (aa Tryz.f79) 0:=oa (fun _=>rfl) _ _ (by kernel_rfl)
theorem iv (n:Nat):Enters Tryz.prog 79:=enters_of (c:=aa Tryz.f79) Tryz.func79 (by kernel_rfl) (by kernel_rfl)
def im:List RSp:=[.agg [.dat (.int .i64),.dat (.int .i64),.dat (.int .i64),.dat .str,.dat .bool,.dat (.int .i64),.dat .str,.dat .bool,.dat .str,.dat .str,.row 0,.row 1,.dat (.int .i64),.dat .bool],.one (.dat K2)]
def gm:List RS:=[.row 47 2 (.pair .str (.pair .str .unit)) true true,.row 9 1 .str true true]
def jv:List Sl:=[.top,.top]
def mv:List RSp:=[.one (.dat K0),.one (.dat (.int .i64)),.one (.dat .str)]
def Td:List RS:=[]
def Jh (y:(T0×Int×BA×Unit)):OutS:=⟨false,un (Ue Td ()) jv (),zD (pC (Ue Td ()) mv ((y.1,()),((y.2.1,()),((y.2.2.1,()),())))),Qu (Ue Td ()) Td ()⟩
theorem Fx (n:Nat):EntryOk Tryz.prog gl ⟨79,Kj,none,some (rW im gm (fun σ ρ=>Sd n σ.1.1 σ.1.2.1 σ.1.2.2.1 σ.1.2.2.2.1 σ.1.2.2.2.2.1 σ.1.2.2.2.2.2.1 σ.1.2.2.2.2.2.2.1 σ.1.2.2.2.2.2.2.2.1 σ.1.2.2.2.2.2.2.2.2.1 σ.1.2.2.2.2.2.2.2.2.2.1 σ.1.2.2.2.2.2.2.2.2.2.2.1 σ.1.2.2.2.2.2.2.2.2.2.2.2.1 σ.2.1.1 ρ.1 ρ.2.1) Jh)⟩:=Ph (iv n) fun σ ρ y h=>ic tys_ok (Qm n) mixed (hint:=Hi n) (n:=n) Tryz.func79 (Ea (Xs n)) (na (φ:=fun y=>some (Jh y)) (by kernel_rfl) (Gz n σ.1.1 σ.1.2.1 σ.1.2.2.1 σ.1.2.2.2.1 σ.1.2.2.2.2.1 σ.1.2.2.2.2.2.1 σ.1.2.2.2.2.2.2.1 σ.1.2.2.2.2.2.2.2.1 σ.1.2.2.2.2.2.2.2.2.1 σ.1.2.2.2.2.2.2.2.2.2.1 σ.1.2.2.2.2.2.2.2.2.2.2.1 σ.1.2.2.2.2.2.2.2.2.2.2.2.1 σ.2.1.1 ρ.1 ρ.2.1 _) h)
def Cg (n:Nat):List Entry:=⟨79,Kj,none,some (rW im gm (fun σ ρ=>Sd n σ.1.1 σ.1.2.1 σ.1.2.2.1 σ.1.2.2.2.1 σ.1.2.2.2.2.1 σ.1.2.2.2.2.2.1 σ.1.2.2.2.2.2.2.1 σ.1.2.2.2.2.2.2.2.1 σ.1.2.2.2.2.2.2.2.2.1 σ.1.2.2.2.2.2.2.2.2.2.1 σ.1.2.2.2.2.2.2.2.2.2.2.1 σ.1.2.2.2.2.2.2.2.2.2.2.2.1 σ.2.1.1 ρ.1 ρ.2.1) Jh)⟩::Pm n
theorem Kh (n:Nat):AllOk Tryz.prog gl (Cg n):=.cons (Fx n) (Qm n)
def xd (n:Nat) {R:Type} (c c1 c2:Int) (c3:BA) (c4:Bool) (c5:Int) (c6:BA) (c7:Bool) (c8 c9:BA) (c10:Int) (c11:Bool) (l:U5) (r0:(Sq U0)) (r1:(Sq BA)) (k:(T0×Int×BA×T1×Unit)→Option R):Option R:=if (c5==(4:Int))=true then (Gb n c c1 c2 c3 c4 c5 c6 c7 c8 c9 c10 c11 l r0 r1).bind fun v=>vW 1 (k (v.1,((0:Int),(v.2.1,(((0:Int),((⟨#[]⟩:BA),(false,(((⟨#[]⟩:BA),((⟨#[]⟩:BA),())),((0:Int),()))))),()))))) else if l.2.1=true then vW 1 (k ((c,(c1,(c2,((c3,(c4,())),(c5,(c6,(c7,((c8,(c9,())),(r0,(r1,(c10,(c11,())))))))))))),((500:Int),((⟨#[]⟩:BA),(((0:Int),((⟨#[]⟩:BA),(false,(((⟨#[]⟩:BA),((⟨#[]⟩:BA),())),((0:Int),()))))),()))))) else (gw n l.1).bind fun v1=>if (v1.2.1==(0:Int))=true then (Sd n c c1 c2 c3 c4 c5 c6 c7 c8 c9 c10 c11 v1.1 r0 r1).bind fun v2=>vW 1 (k (v2.1,(v2.2.1,(v2.2.2.1,(v1.1,()))))) else if (v1.2.1==(3:Int))=true then vW 1 (k ((c,(c1,(c2,((c3,(c4,())),(c5,(c6,(c7,((c8,(c9,())),(r0,(r1,(c10,(c11,())))))))))))),((500:Int),((⟨#[]⟩:BA),(v1.1,()))))) else vW 1 (k ((c,(c1,(c2,((c3,(c4,())),(c5,(c6,(c7,((c8,(c9,())),(r0,(r1,(c10,(c11,())))))))))))),((501:Int),((⟨#[]⟩:BA),(v1.1,())))))
def jc (n:Nat) (c c1 c2:Int) (c3:BA) (c4:Bool) (c5:Int) (c6:BA) (c7:Bool) (c8 c9:BA) (c10:Int) (c11:Bool) (l:U5) (r0:(Sq U0)) (r1:(Sq BA)):Option (T0×Int×BA×T1×Unit):=xd n c c1 c2 c3 c4 c5 c6 c7 c8 c9 c10 c11 l r0 r1 some
theorem oG (n:Nat) {S:Type}:∀ c c1 c2 c3 c4 c5 c6 c7 c8 c9 c10 c11 l r0 r1 (φ:_→Option S),(jc n c c1 c2 c3 c4 c5 c6 c7 c8 c9 c10 c11 l r0 r1).bind φ=xd n c c1 c2 c3 c4 c5 c6 c7 c8 c9 c10 c11 l r0 r1 φ:=by
  intros;unfold jc xd;first | (simp only [ia,ba,iB,bB,oL,oX,nB,Option.bind_some]) | rfl
def Sm (n:Nat):Hint OutS:={ live:=fun c=>[],run:=fun c=>none,xm:=fun c q=>none,sch:=fun c=>(cond (Nat.beq c 8) (some [(0,1),(2,5),(1,7),(3,6),(4,6),(5,2)]) (cond (Nat.beq c 11) (some [(0,1),(2,5),(1,7),(3,6),(4,6),(5,2)]) (cond (Nat.beq c 13) (some [(1,0),(2,0),(0,1),(4,5),(3,7),(5,6),(6,6),(7,2)]) (cond (Nat.beq c 5) (some [(0,1),(2,5),(1,7),(3,6),(4,6),(5,2)]) (cond (Nat.beq c 3) (some [(1,0),(0,1),(3,5),(2,7),(4,6),(5,6),(6,2)]) none))))),fz:=true }
theorem tz (n:Nat):ta tys (fa OutS (Cg n)) (Sm n) n (aa Tryz.f41) 0:=oa (fun _=>rfl) _ _ (by kernel_rfl)
theorem XB (n:Nat):Enters Tryz.prog 41:=enters_of (c:=aa Tryz.f41) Tryz.func41 (by kernel_rfl) (by kernel_rfl)
def Ns:List RSp:=[.agg [.dat (.int .i64),.dat (.int .i64),.dat (.int .i64),.dat .str,.dat .bool,.dat (.int .i64),.dat .str,.dat .bool,.dat .str,.dat .str,.row 0,.row 1,.dat (.int .i64),.dat .bool],.one (.dat (.pair .str (.pair .bool .unit)))]
def Ms:List RS:=[.row 47 2 (.pair .str (.pair .str .unit)) true true,.row 9 1 .str true true]
def YB:List Sl:=[.top,.top]
def ZB:List RSp:=[.one (.dat K0),.one (.dat (.int .i64)),.one (.dat .str),.one (.dat K2)]
def Wf:List RS:=[]
def Rm (y:(T0×Int×BA×T1×Unit)):OutS:=⟨false,un (Ue Wf ()) YB (),zD (pC (Ue Wf ()) ZB ((y.1,()),((y.2.1,()),((y.2.2.1,()),((y.2.2.2.1,()),()))))),Qu (Ue Wf ()) Wf ()⟩
theorem iE (n:Nat):EntryOk Tryz.prog gl ⟨41,Kj,none,some (rW Ns Ms (fun σ ρ=>jc n σ.1.1 σ.1.2.1 σ.1.2.2.1 σ.1.2.2.2.1 σ.1.2.2.2.2.1 σ.1.2.2.2.2.2.1 σ.1.2.2.2.2.2.2.1 σ.1.2.2.2.2.2.2.2.1 σ.1.2.2.2.2.2.2.2.2.1 σ.1.2.2.2.2.2.2.2.2.2.1 σ.1.2.2.2.2.2.2.2.2.2.2.1 σ.1.2.2.2.2.2.2.2.2.2.2.2.1 σ.2.1.1 ρ.1 ρ.2.1) Rm)⟩:=Ph (XB n) fun σ ρ y h=>ic tys_ok (Kh n) mixed (hint:=Sm n) (n:=n) Tryz.func41 (Ea (tz n)) (na (φ:=fun y=>some (Rm y)) (by kernel_rfl) (oG n σ.1.1 σ.1.2.1 σ.1.2.2.1 σ.1.2.2.2.1 σ.1.2.2.2.2.1 σ.1.2.2.2.2.2.1 σ.1.2.2.2.2.2.2.1 σ.1.2.2.2.2.2.2.2.1 σ.1.2.2.2.2.2.2.2.2.1 σ.1.2.2.2.2.2.2.2.2.2.1 σ.1.2.2.2.2.2.2.2.2.2.2.1 σ.1.2.2.2.2.2.2.2.2.2.2.2.1 σ.2.1.1 ρ.1 ρ.2.1 _) h)
def ul (n:Nat):List Entry:=⟨41,Kj,none,some (rW Ns Ms (fun σ ρ=>jc n σ.1.1 σ.1.2.1 σ.1.2.2.1 σ.1.2.2.2.1 σ.1.2.2.2.2.1 σ.1.2.2.2.2.2.1 σ.1.2.2.2.2.2.2.1 σ.1.2.2.2.2.2.2.2.1 σ.1.2.2.2.2.2.2.2.2.1 σ.1.2.2.2.2.2.2.2.2.2.1 σ.1.2.2.2.2.2.2.2.2.2.2.1 σ.1.2.2.2.2.2.2.2.2.2.2.2.1 σ.2.1.1 ρ.1 ρ.2.1) Rm)⟩::Cg n
theorem em (n:Nat):AllOk Tryz.prog gl (ul n):=.cons (iE n) (Kh n)
def vl (n:Nat) {R:Type} (c:T0) (l:U5) (k:(T0×Int×BA×Int×Unit)→Option R):Option R:=(Dx n c).bind fun v=>if (!v)=true then k (((0:Int),((0:Int),((0:Int),(((⟨#[]⟩:BA),(false,())),((0:Int),((⟨#[]⟩:BA),(false,(((⟨#[]⟩:BA),((⟨#[]⟩:BA),())),((⟨0,fun _=>sa (.pair .str (.pair .str .unit))⟩:Sq U0),((⟨0,fun _=>sa .str⟩:Sq BA),((0:Int),(false,())))))))))))),((0:Int),((⟨#[]⟩:BA),((1:Int),())))) else if (c.2.2.2.2.1==(5:Int))=true then k (((0:Int),((0:Int),((0:Int),(((⟨#[]⟩:BA),(false,())),((0:Int),((⟨#[]⟩:BA),(false,(((⟨#[]⟩:BA),((⟨#[]⟩:BA),())),((⟨0,fun _=>sa (.pair .str (.pair .str .unit))⟩:Sq U0),((⟨0,fun _=>sa .str⟩:Sq BA),((0:Int),(false,())))))))))))),((0:Int),((⟨#[]⟩:BA),((6:Int),())))) else vW 1 ((Ze n c).bind fun v1=>(jc n v1.1 v1.2.1 v1.2.2.1 v1.2.2.2.1 v1.2.2.2.2.1 v1.2.2.2.2.2.1 v1.2.2.2.2.2.2.1 v1.2.2.2.2.2.2.2.1 v1.2.2.2.2.2.2.2.2.1 v1.2.2.2.2.2.2.2.2.2.1 v1.2.2.2.2.2.2.2.2.2.2.1 v1.2.2.2.2.2.2.2.2.2.2.2.1 l v1.2.2.2.2.2.2.2.2.2.2.2.2.1 v1.2.2.2.2.2.2.2.2.2.2.2.2.2.1).bind fun v2=>(Ze n v2.1).bind fun v3=>k ((v3.1,(v3.2.1,(v3.2.2.1,((v3.2.2.2.1,(v3.2.2.2.2.1,())),(v3.2.2.2.2.2.1,(v3.2.2.2.2.2.2.1,(v3.2.2.2.2.2.2.2.1,((v3.2.2.2.2.2.2.2.2.1,(v3.2.2.2.2.2.2.2.2.2.1,())),(v3.2.2.2.2.2.2.2.2.2.2.2.2.1,(v3.2.2.2.2.2.2.2.2.2.2.2.2.2.1,(v3.2.2.2.2.2.2.2.2.2.2.1,(v3.2.2.2.2.2.2.2.2.2.2.2.1,())))))))))))),(v2.2.1,(v2.2.2.1,((0:Int),())))))
def Lb (n:Nat) (c:T0) (l:U5):Option (T0×Int×BA×Int×Unit):=vl n c l some
theorem MP (n:Nat) {S:Type}:∀ c l (φ:_→Option S),(Lb n c l).bind φ=vl n c l φ:=by
  intros;unfold Lb vl;first | (simp only [ia,ba,iB,bB,oL,oX,nB,Option.bind_some]) | rfl
def xz (n:Nat):Hint Out:={ live:=fun c=>[],run:=fun c=>none,xm:=fun c q=>none,sch:=fun c=>(cond (Nat.beq c 5) (some [(0,1),(1,5),(2,7),(3,2),(4,6),(5,6),(6,6),(7,6),(8,6),(9,2),(10,6),(11,6)]) none) }
theorem QI (n:Nat):ta tys (fa Out (ul n)) (xz n) n (aa Tryz.f24) 0:=oa (fun _=>rfl) _ _ (by kernel_rfl)
theorem ZL (n:Nat):Enters Tryz.prog 24:=enters_of (c:=aa Tryz.f24) Tryz.func24 (by kernel_rfl) (by kernel_rfl)
def qG (n:Nat):Entry:=⟨24,jX fW (.many eW) (fun xs=>Lb n xs.1 xs.2.1),none,none⟩
theorem GN (n:Nat):EntryOk Tryz.prog gl (qG n):=Aa (ZL n) fun xs y h=>ma tys_ok (em n) mixed (hint:=xz n) (n:=n) Tryz.func24 (Ea (QI n)) (na (φ:=(fun y=>some (Out.ret (Qb (.many eW) y)))) (by kernel_rfl) (MP n xs.1 xs.2.1 _) h)
def wz (n:Nat):List Entry:=qG n::ul n
theorem Mw (n:Nat):AllOk Tryz.prog gl (wz n):=.cons (GN n) (em n)
def CF (n:Nat) {R:Type} (e:Int) (k:Int→Option R):Option R:=k e
def ob (n:Nat) (e:Int):Option Int:=CF n e some
theorem TQ (n:Nat) {S:Type}:∀ e (φ:_→Option S),(ob n e).bind φ=CF n e φ:=by
  intros;unfold ob CF;first | (simp only [ia,ba,iB,bB,oL,oX,nB,Option.bind_some]) | rfl
def AB (n:Nat):Hint Out:={ live:=fun c=>[],run:=fun c=>none,xm:=fun c q=>none }
theorem pK (n:Nat):ta tys (fa Out (wz n)) (AB n) n (aa Tryz.f26) 0:=oa (fun _=>rfl) _ _ (by kernel_rfl)
theorem lN (n:Nat):Enters Tryz.prog 26:=enters_of (c:=aa Tryz.f26) Tryz.func26 (by kernel_rfl) (by kernel_rfl)
def oI (n:Nat):Entry:=⟨26,jX (.pair (.int .i64) .unit) (.one (.int .i64)) (fun xs=>ob n xs.1),none,none⟩
theorem rP (n:Nat):EntryOk Tryz.prog gl (oI n):=Aa (lN n) fun xs y h=>ma tys_ok (Mw n) mixed (hint:=AB n) (n:=n) Tryz.func26 (Ea (pK n)) (na (φ:=(fun y=>some (Out.ret (Qb (.one (.int .i64)) y)))) (by kernel_rfl) (TQ n xs.1 _) h)
def zB (n:Nat):List Entry:=oI n::wz n
theorem yx (n:Nat):AllOk Tryz.prog gl (zB n):=.cons (rP n) (Mw n)
def Rs (n:Nat) {R:Type} (id tenant ip:Int) (k:(T0×Int×Unit)→Option R):Option R:=(Dx n (id,(tenant,(ip,(((⟨#[]⟩:BA),(false,())),((0:Int),((⟨#[]⟩:BA),(false,(((⟨#[]⟩:BA),((⟨#[]⟩:BA),())),((⟨0,fun _=>sa (.pair .str (.pair .str .unit))⟩:Sq U0),((⟨0,fun _=>sa .str⟩:Sq BA),((0:Int),(false,()))))))))))))).bind fun v=>if (!v)=true then k (((0:Int),((0:Int),((0:Int),(((⟨#[]⟩:BA),(false,())),((0:Int),((⟨#[]⟩:BA),(false,(((⟨#[]⟩:BA),((⟨#[]⟩:BA),())),((⟨0,fun _=>sa (.pair .str (.pair .str .unit))⟩:Sq U0),((⟨0,fun _=>sa .str⟩:Sq BA),((0:Int),(false,())))))))))))),((1:Int),())) else k ((id,(tenant,(ip,(((⟨#[]⟩:BA),(false,())),((0:Int),((⟨#[]⟩:BA),(false,(((⟨#[]⟩:BA),((⟨#[]⟩:BA),())),((⟨0,fun _=>sa (.pair .str (.pair .str .unit))⟩:Sq U0),((⟨0,fun _=>sa .str⟩:Sq BA),((0:Int),(false,())))))))))))),((0:Int),()))
def Qs (n:Nat) (id tenant ip:Int):Option (T0×Int×Unit):=Rs n id tenant ip some
theorem OP (n:Nat) {S:Type}:∀ id tenant ip (φ:_→Option S),(Qs n id tenant ip).bind φ=Rs n id tenant ip φ:=by
  intros;unfold Qs Rs;first | (simp only [ia,ba,iB,bB,oL,oX,nB,Option.bind_some]) | rfl
def Az (n:Nat):Hint Out:={ live:=fun c=>[],run:=fun c=>none,xm:=fun c q=>none }
theorem TI (n:Nat):ta tys (fa Out (zB n)) (Az n) n (aa Tryz.f23) 0:=oa (fun _=>rfl) _ _ (by kernel_rfl)
theorem bM (n:Nat):Enters Tryz.prog 23:=enters_of (c:=aa Tryz.f23) Tryz.func23 (by kernel_rfl) (by kernel_rfl)
def tG (n:Nat):Entry:=⟨23,jX (.pair (.int .i64) (.pair (.int .i64) (.pair (.int .i64) .unit))) (.many gW) (fun xs=>Qs n xs.1 xs.2.1 xs.2.2.1),none,none⟩
theorem KN (n:Nat):EntryOk Tryz.prog gl (tG n):=Aa (bM n) fun xs y h=>ma tys_ok (yx n) mixed (hint:=Az n) (n:=n) Tryz.func23 (Ea (TI n)) (na (φ:=(fun y=>some (Out.ret (Qb (.many gW) y)))) (by kernel_rfl) (OP n xs.1 xs.2.1 xs.2.2.1 _) h)
def zz (n:Nat):List Entry:=tG n::zB n
theorem Nw (n:Nat):AllOk Tryz.prog gl (zz n):=.cons (KN n) (yx n)
def dl (n:Nat) {R:Type} (k:Bool→Option R):Option R:=(Qs n (1:Int) (0:Int) (5:Int)).bind fun v=>(Lb n v.1 ((⟨#[69,72,76,79,32,120]⟩:BA),(false,()))).bind fun v1=>(ob n v.2.1).bind fun v2=>if (v2==(0:Int))=true then (ob n v1.2.2.2.1).bind fun v3=>if (v3==(0:Int))=true then if (v1.2.1==(250:Int))=true then if (v1.2.2.1.toList==(⟨#[]⟩:BA).toList)=true then if (v1.1.2.2.2.2.1==(1:Int))=true then k (v1.1.2.2.2.2.2.1.toList==(⟨#[120]⟩:BA).toList) else k false else k false else k false else k false else k false
def wh (n:Nat):Option Bool:=dl n some
theorem mN (n:Nat) {S:Type}:∀ (φ:_→Option S),(wh n).bind φ=dl n φ:=by
  intros;unfold wh dl;first | (simp only [ia,ba,iB,bB,oL,oX,nB,Option.bind_some]) | rfl
def Ou (n:Nat):Hint Out:={ live:=fun c=>[],run:=fun c=>none,xm:=fun c q=>none }
theorem DF (n:Nat):ta tys (fa Out (zz n)) (Ou n) n (aa Tryz.f27) 0:=oa (fun _=>rfl) _ _ (by kernel_rfl)
theorem rI (n:Nat):Enters Tryz.prog 27:=enters_of (c:=aa Tryz.f27) Tryz.func27 (by kernel_rfl) (by kernel_rfl)
def BB (n:Nat):Entry:=⟨27,jX .unit (.one .bool) (fun xs=>wh n),none,none⟩
theorem qK (n:Nat):EntryOk Tryz.prog gl (BB n):=Aa (rI n) fun xs y h=>ma tys_ok (Nw n) mixed (hint:=Ou n) (n:=n) Tryz.func27 (Ea (DF n)) (na (φ:=(fun y=>some (Out.ret (Qb (.one .bool) y)))) (by kernel_rfl) (mN n  _) h)
def Mr (n:Nat):List Entry:=BB n::zz n
theorem xq (n:Nat):AllOk Tryz.prog gl (Mr n):=.cons (qK n) (Nw n)
def Dz (n:Nat) {R:Type} (c:T0) (v:T1) (k:(T0×Int×Unit)→Option R):Option R:=(Dx n c).bind fun v1=>if (!v1)=false then (vg n v).bind fun v2=>if (!v2)=true then k (((0:Int),((0:Int),((0:Int),(((⟨#[]⟩:BA),(false,())),((0:Int),((⟨#[]⟩:BA),(false,(((⟨#[]⟩:BA),((⟨#[]⟩:BA),())),((⟨0,fun _=>sa (.pair .str (.pair .str .unit))⟩:Sq U0),((⟨0,fun _=>sa .str⟩:Sq BA),((0:Int),(false,())))))))))))),((1:Int),())) else (Ze n c).bind fun v3=>if (v.1==(3:Int))=true then if (v3.2.2.2.2.2.1 !=(1:Int))=true then k (((0:Int),((0:Int),((0:Int),(((⟨#[]⟩:BA),(false,())),((0:Int),((⟨#[]⟩:BA),(false,(((⟨#[]⟩:BA),((⟨#[]⟩:BA),())),((⟨0,fun _=>sa (.pair .str (.pair .str .unit))⟩:Sq U0),((⟨0,fun _=>sa .str⟩:Sq BA),((0:Int),(false,())))))))))))),((6:Int),())) else oN (oN (k ((v3.1,(v3.2.1,(v3.2.2.1,((v3.2.2.2.1,(v3.2.2.2.2.1,())),((2:Int),(v3.2.2.2.2.2.2.1,(v.2.2.1,(v.2.2.2.1,(v3.2.2.2.2.2.2.2.2.2.2.2.2.1,(v3.2.2.2.2.2.2.2.2.2.2.2.2.2.1,(v3.2.2.2.2.2.2.2.2.2.2.1,(v3.2.2.2.2.2.2.2.2.2.2.2.1,())))))))))))),((0:Int),()))) (vW 1 (k ((v3.1,(v3.2.1,(v3.2.2.1,((v3.2.2.2.1,(v3.2.2.2.2.1,())),((2:Int),(v3.2.2.2.2.2.2.1,(v.2.2.1,(v.2.2.2.1,(v3.2.2.2.2.2.2.2.2.2.2.2.2.1,(v3.2.2.2.2.2.2.2.2.2.2.2.2.2.1,(v3.2.2.2.2.2.2.2.2.2.2.1,(v3.2.2.2.2.2.2.2.2.2.2.2.1,())))))))))))),((0:Int),()))))) (
 oN (vW 1 (k ((v3.1,(v3.2.1,(v3.2.2.1,((v3.2.2.2.1,(v3.2.2.2.2.1,())),((2:Int),(v3.2.2.2.2.2.2.1,(v.2.2.1,(v.2.2.2.1,(v3.2.2.2.2.2.2.2.2.2.2.2.2.1,(v3.2.2.2.2.2.2.2.2.2.2.2.2.2.1,(v3.2.2.2.2.2.2.2.2.2.2.1,(v3.2.2.2.2.2.2.2.2.2.2.2.1,())))))))))))),((0:Int),())))) (oN (vW 1 (k ((v3.1,(v3.2.1,(v3.2.2.1,((v3.2.2.2.1,(v3.2.2.2.2.1,())),((2:Int),(v3.2.2.2.2.2.2.1,(v.2.2.1,(v.2.2.2.1,(v3.2.2.2.2.2.2.2.2.2.2.2.2.1,(v3.2.2.2.2.2.2.2.2.2.2.2.2.2.1,(v3.2.2.2.2.2.2.2.2.2.2.1,(v3.2.2.2.2.2.2.2.2.2.2.2.1,())))))))))))),((0:Int),())))) (k ((v3.1,(v3.2.1,(v3.2.2.1,((v3.2.2.2.1,(v3.2.2.2.2.1,())),((2:Int),(v3.2.2.2.2.2.2.1,(v.2.2.1,(v.2.2.2.1,(v3.2.2.2.2.2.2.2.2.2.2.2.2.1,(v3.2.2.2.2.2.2.2.2.2.2.2.2.2.1,(v3.2.2.2.2.2.2.2.2.2.2.1,(v3.2.2.2.2.2.2.2.2.2.2.2.1,())))))))))))),((0:Int),()))))) else if (v.1==(4:Int))=true then if (v3.2.2.2.2.2.1 !=(2:Int))=true then if (v3.2.2.2.2.2.1 !=(3:Int))=true then k (((0:Int),((0:Int),((0:Int),(((⟨#[]⟩:BA),(false,())),((0:Int),((⟨#[]⟩:BA),(false,(((⟨#[]⟩:BA),((⟨#[]⟩:BA),())),((⟨0,fun _=>sa (.pair .str (.pair .str .unit))⟩:Sq U0),((⟨0,fun _=>sa .str⟩:Sq BA),((0:Int),(false,())))))))))))),((6:Int),())) else (nX n v3.2.2.2.2.2.2.2.2.2.2.2.2.1 v.2.2.2.1).bind fun v4=>if v4=true then k (((0:Int),((0:Int),((0:Int),(((⟨#[]⟩:BA),(false,())),((0:Int),((⟨#[]⟩:BA),(false,(((⟨#[]⟩:BA),((⟨#[]⟩:BA),())),((⟨0,fun _=>sa (.pair .str (.pair .str .unit))⟩:Sq U0),((⟨0,fun _=>sa .str⟩:Sq BA),((0:Int),(false,())))))))))))),((4:Int),()))
 else if ((v3.2.2.2.2.2.2.2.2.2.2.2.2.1.n:Int)==(8:Int))=true then k (((0:Int),((0:Int),((0:Int),(((⟨#[]⟩:BA),(false,())),((0:Int),((⟨#[]⟩:BA),(false,(((⟨#[]⟩:BA),((⟨#[]⟩:BA),())),((⟨0,fun _=>sa (.pair .str (.pair .str .unit))⟩:Sq U0),((⟨0,fun _=>sa .str⟩:Sq BA),((0:Int),(false,())))))))))))),((5:Int),())) else if Ya (v3.2.2.2.2.2.2.2.2.2.2.2.2.1.n+1) 32=true then k ((v3.1,(v3.2.1,(v3.2.2.1,((v3.2.2.2.1,(v3.2.2.2.2.1,())),((3:Int),(v3.2.2.2.2.2.2.1,(v3.2.2.2.2.2.2.2.1,((v3.2.2.2.2.2.2.2.2.1,(v3.2.2.2.2.2.2.2.2.2.1,())),((⟨(v3.2.2.2.2.2.2.2.2.2.2.2.2.1.n+1),fun q=>if q<v3.2.2.2.2.2.2.2.2.2.2.2.2.1.n then v3.2.2.2.2.2.2.2.2.2.2.2.2.1.at' q else (fun q=>List.getD (α:=U0) [v.2.2.2.1] q (sa (.pair .str (.pair .str .unit)))) (q - v3.2.2.2.2.2.2.2.2.2.2.2.2.1.n)⟩:Sq U0),(v3.2.2.2.2.2.2.2.2.2.2.2.2.2.1,(v3.2.2.2.2.2.2.2.2.2.2.1,(v3.2.2.2.2.2.2.2.2.2.2.2.1,())))))))))))),((0:Int),())) else none else (nX n v3.2.2.2.2.2.2.2.2.2.2.2.2.1 v.2.2.2.1).bind fun v5=>if v5=true then k (((0:Int),((0:Int),((0:Int),(((⟨#[]⟩:BA),(false,())),((0:Int),((⟨#[]⟩:BA),(false,(((⟨#[]⟩:BA),((⟨#[]⟩:BA),())),((⟨0,fun _=>sa (.pair .str (.pair .str .unit))⟩:Sq U0),((⟨0,fun _=>sa .str⟩:Sq BA),((0:Int),(false,())))))))))))),((4:Int),()))
 else if ((v3.2.2.2.2.2.2.2.2.2.2.2.2.1.n:Int)==(8:Int))=true then k (((0:Int),((0:Int),((0:Int),(((⟨#[]⟩:BA),(false,())),((0:Int),((⟨#[]⟩:BA),(false,(((⟨#[]⟩:BA),((⟨#[]⟩:BA),())),((⟨0,fun _=>sa (.pair .str (.pair .str .unit))⟩:Sq U0),((⟨0,fun _=>sa .str⟩:Sq BA),((0:Int),(false,())))))))))))),((5:Int),())) else if Ya (v3.2.2.2.2.2.2.2.2.2.2.2.2.1.n+1) 32=true then k ((v3.1,(v3.2.1,(v3.2.2.1,((v3.2.2.2.1,(v3.2.2.2.2.1,())),((3:Int),(v3.2.2.2.2.2.2.1,(v3.2.2.2.2.2.2.2.1,((v3.2.2.2.2.2.2.2.2.1,(v3.2.2.2.2.2.2.2.2.2.1,())),((⟨(v3.2.2.2.2.2.2.2.2.2.2.2.2.1.n+1),fun q=>if q<v3.2.2.2.2.2.2.2.2.2.2.2.2.1.n then v3.2.2.2.2.2.2.2.2.2.2.2.2.1.at' q else (fun q=>List.getD (α:=U0) [v.2.2.2.1] q (sa (.pair .str (.pair .str .unit)))) (q - v3.2.2.2.2.2.2.2.2.2.2.2.2.1.n)⟩:Sq U0),(v3.2.2.2.2.2.2.2.2.2.2.2.2.2.1,(v3.2.2.2.2.2.2.2.2.2.2.1,(v3.2.2.2.2.2.2.2.2.2.2.2.1,())))))))))))),((0:Int),())) else none else k (((0:Int),((0:Int),((0:Int),(((⟨#[]⟩:BA),(false,())),((0:Int),((⟨#[]⟩:BA),(false,(((⟨#[]⟩:BA),((⟨#[]⟩:BA),())),((⟨0,fun _=>sa (.pair .str (.pair .str .unit))⟩:Sq U0),((⟨0,fun _=>sa .str⟩:Sq BA),((0:Int),(false,())))))))))))),((1:Int),()))
 else k (((0:Int),((0:Int),((0:Int),(((⟨#[]⟩:BA),(false,())),((0:Int),((⟨#[]⟩:BA),(false,(((⟨#[]⟩:BA),((⟨#[]⟩:BA),())),((⟨0,fun _=>sa (.pair .str (.pair .str .unit))⟩:Sq U0),((⟨0,fun _=>sa .str⟩:Sq BA),((0:Int),(false,())))))))))))),((1:Int),()))
def Ex (n:Nat) (c:T0) (v:T1):Option (T0×Int×Unit):=Dz n c v some
theorem KR (n:Nat) {S:Type}:∀ c v (φ:_→Option S),(Ex n c v).bind φ=Dz n c v φ:=by
  intros;unfold Ex Dz;first | (simp only [ia,ba,iB,bB,oL,oX,nB,Option.bind_some]) | rfl
def iD (n:Nat):Hint Out:={ live:=fun c=>[],run:=fun c=>none,xm:=fun c q=>none,sch:=fun c=>(cond (Nat.beq c 8) (some [(0,0),(2,0),(4,0),(5,5),(1,7),(3,7),(6,6),(7,2),(8,6),(9,2)]) none) }
theorem eM (n:Nat):ta tys (fa Out (Mr n)) (iD n) n (aa Tryz.f25) 0:=oa (fun _=>rfl) _ _ (by kernel_rfl)
theorem MN (n:Nat):Enters Tryz.prog 25:=enters_of (c:=aa Tryz.f25) Tryz.func25 (by kernel_rfl) (by kernel_rfl)
def JK (n:Nat):Entry:=⟨25,jX cW (.many gW) (fun xs=>Ex n xs.1 xs.2.1),none,none⟩
theorem PP (n:Nat):EntryOk Tryz.prog gl (JK n):=Aa (MN n) fun xs y h=>ma tys_ok (xq n) mixed (hint:=iD n) (n:=n) Tryz.func25 (Ea (eM n)) (na (φ:=(fun y=>some (Out.ret (Qb (.many gW) y)))) (by kernel_rfl) (KR n xs.1 xs.2.1 _) h)
def Vs (n:Nat):List Entry:=JK n::Mr n
theorem Ez (n:Nat):AllOk Tryz.prog gl (Vs n):=.cons (PP n) (xq n)
def xe (n:Nat) {R:Type} (i p1 p2 p3:Int) (p4:BA) (p5:Bool) (p6:Int) (p7:BA) (p8:Bool) (p9 p10:BA) (p11:(Sq U0)) (p12:(Sq BA)) (p13:Int) (p14:Bool) (p15:(Sq T2)) (c c1 c2:Int) (c3:BA) (c4:Bool) (c5:Int) (c6:BA) (c7:Bool) (c8 c9:BA) (c10:(Sq U0)) (c11:(Sq BA)) (c12:Int) (c13:Bool) (kn:Int→Int→Int→Int→BA→Bool→Int→BA→Bool→BA→BA→(Sq U0)→(Sq BA)→Int→Bool→(Sq T2)→Int→Int→Int→BA→Bool→Int→BA→Bool→BA→BA→(Sq U0)→(Sq BA)→Int→Bool→Option R) (ko:U4→Option R) (kr:(Bool)→Option R) (kp:Int→Option R):Option R:=if (decide (i<(10:Int)))=true then if qf (⟨#[82,67,80,84,32,84,79,58,60]⟩:BA) (Sk 1 (fun q=>List.getD (α:=Int) [(IntKind.wrap .u8 (IntKind.wrap .i64 ((97:Int)+i)))] q (sa (.int .u8))))=true then if qf ((⟨#[82,67,80,84,32,84,79,58,60]⟩:BA)++(Sk 1 (fun q=>List.getD (α:=Int) [(IntKind.wrap .u8 (IntKind.wrap .i64 ((97:Int)+i)))] q (sa (.int .u8))))) (⟨#[64,89,62]⟩:BA)=true then
 (Lb n (c,(c1,(c2,((c3,(c4,())),(c5,(c6,(c7,((c8,(c9,())),(c10,(c11,(c12,(c13,())))))))))))) ((((⟨#[82,67,80,84,32,84,79,58,60]⟩:BA)++(Sk 1 (fun q=>List.getD (α:=Int) [(IntKind.wrap .u8 (IntKind.wrap .i64 ((97:Int)+i)))] q (sa (.int .u8)))))++(⟨#[64,89,62]⟩:BA)),(false,()))).bind fun v6=>(Ex n (c,(c1,(c2,((c3,(c4,())),(c5,(c6,(c7,((c8,(c9,())),(c10,(c11,(c12,(c13,())))))))))))) ((4:Int),((⟨#[]⟩:BA),(false,(((Sk 1 (fun q=>List.getD (α:=Int) [(IntKind.wrap .u8 (IntKind.wrap .i64 ((97:Int)+i)))] q (sa (.int .u8)))),((⟨#[121]⟩:BA),())),((0:Int),())))))).bind fun v7=>(ob n v6.2.2.2.1).bind fun v8=>if (v8 !=(0:Int))=true then kr false else if (decide (i≥(8:Int)))=true then if (v6.2.1 !=(452:Int))=false then if (!(v6.2.2.1.toList==(⟨#[]⟩:BA).toList))=false then (ob n v7.2.1).bind fun v9=>if (v9 !=(5:Int))=true then kr false else kn (IntKind.wrap .i64 (i+(1:Int))) p1 p2 p3 p4 p5 p6 p7 p8 p9 p10 p11 p12 p13 p14 p15 c c1 c2 c3 c4 c5 c6 c7 c8 c9 c10 c11 c12 c13 else kr false else kr false else if (v6.2.1 !=(0:Int))=false then if (!(v6.2.2.1.toList==(⟨#[114,99,112,116]⟩:BA).toList))=false then (ob n v7.2.1).bind fun v10=>if (v10 !=(0:Int))=false then if ((v7.1.2.2.2.2.2.2.2.2.1.n:Int) !=(IntKind.wrap .i64 (i+(1:Int))))=true then kr false
 else if qf (⟨#[114,99,112,116,32,116,111,58,60]⟩:BA) (Sk 1 (fun q=>List.getD (α:=Int) [(IntKind.wrap .u8 (IntKind.wrap .i64 ((97:Int)+i)))] q (sa (.int .u8))))=true then if qf ((⟨#[114,99,112,116,32,116,111,58,60]⟩:BA)++(Sk 1 (fun q=>List.getD (α:=Int) [(IntKind.wrap .u8 (IntKind.wrap .i64 ((97:Int)+i)))] q (sa (.int .u8))))) (⟨#[64,121,62]⟩:BA)=true then (Lb n v7.1 ((((⟨#[114,99,112,116,32,116,111,58,60]⟩:BA)++(Sk 1 (fun q=>List.getD (α:=Int) [(IntKind.wrap .u8 (IntKind.wrap .i64 ((97:Int)+i)))] q (sa (.int .u8)))))++(⟨#[64,121,62]⟩:BA)),(false,()))).bind fun v11=>(Ex n v7.1 ((4:Int),((⟨#[]⟩:BA),(false,(((Sk 1 (fun q=>List.getD (α:=Int) [(IntKind.wrap .u8 (IntKind.wrap .i64 ((97:Int)+i)))] q (sa (.int .u8)))),((⟨#[121]⟩:BA),())),((0:Int),())))))).bind fun v12=>if (i==(7:Int))=true then (ob n v11.2.2.2.1).bind fun v13=>if (v13 !=(0:Int))=false then if (v11.2.1 !=(452:Int))=false then if (!(v11.2.2.1.toList==(⟨#[]⟩:BA).toList))=false then (ob n v12.2.1).bind fun v14=>if (v14 !=(4:Int))=true then kr false else kn (IntKind.wrap .i64 (i+(1:Int))) p1 p2 p3 p4 p5 p6 p7 p8 p9 p10 p11 p12 p13 p14 p15 v7.1.1 v7.1.2.1 v7.1.2.2.1 v7.1.2.2.2.1.1 v7.1.2.2.2.1.2.1 v7.1.2.2.2.2.1 v7.1.2.2.2.2.2.1 v7.1.2.2.2.2.2.2.1 v7.1.2.2.2.2.2.2.2.1.1 v7.1.2.2.2.2.2.2.2.1.2.1 v7.1.2.2.2.2.2.2.2.2.1 v7.1.2.2.2.2.2.2.2.2.2.1 v7.1.2.2.2.2.2.2.2.2.2.2.1 v7.1.2.2.2.2.2.2.2.2.2.2.2.1
 else kr false else kr false else kr false else (ob n v11.2.2.2.1).bind fun v15=>if (v15 !=(0:Int))=false then if (v11.2.1 !=(250:Int))=false then if (!(v11.2.2.1.toList==(⟨#[]⟩:BA).toList))=false then (ob n v12.2.1).bind fun v16=>if (v16 !=(4:Int))=true then kr false else kn (IntKind.wrap .i64 (i+(1:Int))) p1 p2 p3 p4 p5 p6 p7 p8 p9 p10 p11 p12 p13 p14 p15 v7.1.1 v7.1.2.1 v7.1.2.2.1 v7.1.2.2.2.1.1 v7.1.2.2.2.1.2.1 v7.1.2.2.2.2.1 v7.1.2.2.2.2.2.1 v7.1.2.2.2.2.2.2.1 v7.1.2.2.2.2.2.2.2.1.1 v7.1.2.2.2.2.2.2.2.1.2.1 v7.1.2.2.2.2.2.2.2.2.1 v7.1.2.2.2.2.2.2.2.2.2.1 v7.1.2.2.2.2.2.2.2.2.2.2.1 v7.1.2.2.2.2.2.2.2.2.2.2.2.1 else kr false else kr false else kr false else none else none else kr false else kr false else kr false else none else none else ko (p1,p2,p3,p4,p5,p6,p7,p8,p9,p10,p11,p12,p13,p14,p15)
def nb (n:Nat):Nat→Int→Int→Int→Int→BA→Bool→Int→BA→Bool→BA→BA→(Sq U0)→(Sq BA)→Int→Bool→(Sq T2)→Int→Int→Int→BA→Bool→Int→BA→Bool→BA→BA→(Sq U0)→(Sq BA)→Int→Bool→Option (Lx U4 (Bool))
 | 0,_,_,_,_,_,_,_,_,_,_,_,_,_,_,_,_,_,_,_,_,_,_,_,_,_,_,_,_,_,_=>none
 | m+1,i,p1,p2,p3,p4,p5,p6,p7,p8,p9,p10,p11,p12,p13,p14,p15,c,c1,c2,c3,c4,c5,c6,c7,c8,c9,c10,c11,c12,c13=>xe n i p1 p2 p3 p4 p5 p6 p7 p8 p9 p10 p11 p12 p13 p14 p15 c c1 c2 c3 c4 c5 c6 c7 c8 c9 c10 c11 c12 c13 (nb n m) (fun a=>some (.out a)) (fun a=>some (.ret a)) (fun p=>some (.pan p))
theorem Iu (n m:Nat) {S:Type}:∀ i p1 p2 p3 p4 p5 p6 p7 p8 p9 p10 p11 p12 p13 p14 p15 c c1 c2 c3 c4 c5 c6 c7 c8 c9 c10 c11 c12 c13 (φ:_→Option S),(nb n (m+1) i p1 p2 p3 p4 p5 p6 p7 p8 p9 p10 p11 p12 p13 p14 p15 c c1 c2 c3 c4 c5 c6 c7 c8 c9 c10 c11 c12 c13).bind φ=xe n i p1 p2 p3 p4 p5 p6 p7 p8 p9 p10 p11 p12 p13 p14 p15 c c1 c2 c3 c4 c5 c6 c7 c8 c9 c10 c11 c12 c13 (fun i p1 p2 p3 p4 p5 p6 p7 p8 p9 p10 p11 p12 p13 p14 p15 c c1 c2 c3 c4 c5 c6 c7 c8 c9 c10 c11 c12 c13=>(nb n m i p1 p2 p3 p4 p5 p6 p7 p8 p9 p10 p11 p12 p13 p14 p15 c c1 c2 c3 c4 c5 c6 c7 c8 c9 c10 c11 c12 c13).bind φ) (fun a=>φ (.out a)) (fun a=>φ (.ret a)) (fun p=>φ (.pan p)):=by
  intros;first | (simp only [nb,xe,ia,ba,iB,bB,oL,oX,nB,Option.bind_some]) | rfl
def Oe:List Sl:=.top::.ptr 0 0 0::.top::.ptr 1 0 0::tp 5 (.dat (.int .i64)::tp 155 [])
def Ne:List RS:=[.box 53 15 true [.dat (.int .i64),.dat (.int .i64),.dat (.int .i64),.dat .str,.dat .bool,.dat (.int .i64),.dat .str,.dat .bool,.dat .str,.dat .str,.dat (.sl (.pair .str (.pair .str .unit))),.dat (.sl .str),.dat (.int .i64),.dat .bool,.dat (.sl K3)],.box 50 14 true [.dat (.int .i64),.dat (.int .i64),.dat (.int .i64),.dat .str,.dat .bool,.dat (.int .i64),.dat .str,.dat .bool,.dat .str,.dat .str,.dat (.sl (.pair .str (.pair .str .unit))),.dat (.sl .str),.dat (.int .i64),.dat .bool]]
def am:List Sl:=.top::.ptr 0 0 0::tp 163 []
def Zl:List RS:=[.box 53 15 true [.dat (.int .i64),.dat (.int .i64),.dat (.int .i64),.dat .str,.dat .bool,.dat (.int .i64),.dat .str,.dat .bool,.dat .str,.dat .str,.dat (.sl (.pair .str (.pair .str .unit))),.dat (.sl .str),.dat (.int .i64),.dat .bool,.dat (.sl K3)]]
def cm:List Sl:=.top::.top::.dat .bool::tp 162 []
def bm:List RS:=[]
def jb (K:XE→List AV→la→Option Out):Lx U4 (Bool)→Option Out:=fun x=>dX x (fun a=>Zh am Zl () ((a.1,(a.2.1,(a.2.2.1,(a.2.2.2.1,(a.2.2.2.2.1,(a.2.2.2.2.2.1,(a.2.2.2.2.2.2.1,(a.2.2.2.2.2.2.2.1,(a.2.2.2.2.2.2.2.2.1,(a.2.2.2.2.2.2.2.2.2.1,(a.2.2.2.2.2.2.2.2.2.2.1,(a.2.2.2.2.2.2.2.2.2.2.2.1,(a.2.2.2.2.2.2.2.2.2.2.2.2.1,(a.2.2.2.2.2.2.2.2.2.2.2.2.2.1,(a.2.2.2.2.2.2.2.2.2.2.2.2.2.2,()))))))))))))))),()) (K (.exit 0))) (fun a=>Zh cm bm (a,()) () (K .ret)) (fun _=>none)
def wi (n:Nat) {R:Type} (p:U7) (k:Bool→Option R):Option R:=(Qs n (1:Int) (0:Int) (5:Int)).bind fun v=>(Lb n v.1 ((⟨#[72,69,76,79,32,120]⟩:BA),(false,()))).bind fun v1=>(Ex n v1.1 ((3:Int),((⟨#[]⟩:BA),(true,(((⟨#[]⟩:BA),((⟨#[]⟩:BA),())),((-1:Int),())))))).bind fun v2=>(ob n v.2.1).bind fun v3=>if (v3 !=(0:Int))=false then (ob n v1.2.2.2.1).bind fun v4=>if (v4 !=(0:Int))=false then (ob n v2.2.1).bind fun v5=>if (v5 !=(0:Int))=true then k false else (nb n n (0:Int) p.1.1 p.1.2.1 p.1.2.2.1 p.1.2.2.2.1.1 p.1.2.2.2.1.2.1 p.1.2.2.2.2.1 p.1.2.2.2.2.2.1 p.1.2.2.2.2.2.2.1 p.1.2.2.2.2.2.2.2.1.1 p.1.2.2.2.2.2.2.2.1.2.1 p.1.2.2.2.2.2.2.2.2.1 p.1.2.2.2.2.2.2.2.2.2.1 p.1.2.2.2.2.2.2.2.2.2.2.1 p.1.2.2.2.2.2.2.2.2.2.2.2.1 p.2.1 v2.1.1 v2.1.2.1 v2.1.2.2.1 v2.1.2.2.2.1.1 v2.1.2.2.2.1.2.1 v2.1.2.2.2.2.1 v2.1.2.2.2.2.2.1 v2.1.2.2.2.2.2.2.1 v2.1.2.2.2.2.2.2.2.1.1 v2.1.2.2.2.2.2.2.2.1.2.1 v2.1.2.2.2.2.2.2.2.2.1 v2.1.2.2.2.2.2.2.2.2.2.1 v2.1.2.2.2.2.2.2.2.2.2.2.1 v2.1.2.2.2.2.2.2.2.2.2.2.2.1).bind fun x_1=>dX x_1 (fun a_2=>if (decide ((a_2.2.2.2.2.2.2.2.2.2.2.2.2.2.2.n:Int)≥(0:Int)))=true then (wh n).bind fun v17=>k v17 else k false) (fun a_3=>k a_3) (fun _=>none) else k false else k false
def Yl (n:Nat) (p:U7):Option Bool:=wi n p some
theorem xB (n:Nat) {S:Type}:∀ p (φ:_→Option S),(Yl n p).bind φ=wi n p φ:=by
  intros;unfold Yl wi;first | (simp only [ia,ba,iB,bB,oL,oX,nB,Option.bind_some]) | rfl
def td (n:Nat):Hint Out:={ live:=fun c=>(cond (Nat.beq c 0) (lv [1,3,9]) []),run:=fun c=>(cond (Nat.beq c 0) (some (pq Oe Ne fun σ ρ K=>(nb n n σ.1 ρ.1.1 ρ.1.2.1 ρ.1.2.2.1 ρ.1.2.2.2.1 ρ.1.2.2.2.2.1 ρ.1.2.2.2.2.2.1 ρ.1.2.2.2.2.2.2.1 ρ.1.2.2.2.2.2.2.2.1 ρ.1.2.2.2.2.2.2.2.2.1 ρ.1.2.2.2.2.2.2.2.2.2.1 ρ.1.2.2.2.2.2.2.2.2.2.2.1 ρ.1.2.2.2.2.2.2.2.2.2.2.2.1 ρ.1.2.2.2.2.2.2.2.2.2.2.2.2.1 ρ.1.2.2.2.2.2.2.2.2.2.2.2.2.2.1 ρ.1.2.2.2.2.2.2.2.2.2.2.2.2.2.2.1 ρ.2.1.1 ρ.2.1.2.1 ρ.2.1.2.2.1 ρ.2.1.2.2.2.1 ρ.2.1.2.2.2.2.1 ρ.2.1.2.2.2.2.2.1 ρ.2.1.2.2.2.2.2.2.1 ρ.2.1.2.2.2.2.2.2.2.1 ρ.2.1.2.2.2.2.2.2.2.2.1 ρ.2.1.2.2.2.2.2.2.2.2.2.1 ρ.2.1.2.2.2.2.2.2.2.2.2.2.1 ρ.2.1.2.2.2.2.2.2.2.2.2.2.2.1 ρ.2.1.2.2.2.2.2.2.2.2.2.2.2.2.1 ρ.2.1.2.2.2.2.2.2.2.2.2.2.2.2.2.1).bind (jb K))) none),xm:=fun c q=>(cond (Nat.beq c 0&&Nat.beq (q.getD 1000000) 0&&q.isSome) (some [(1,none)]) (cond (Nat.beq c 1&&q.isNone) (some [(2,none)]) none)) }
def sd (n:Nat) (K:XE→List AV→la→Option Out) (m:Nat) (i:Int) (p1:Int) (p2:Int) (p3:Int) (p4:BA) (p5:Bool) (p6:Int) (p7:BA) (p8:Bool) (p9:BA) (p10:BA) (p11:(Sq U0)) (p12:(Sq BA)) (p13:Int) (p14:Bool) (p15:(Sq T2)) (c:Int) (c1:Int) (c2:Int) (c3:BA) (c4:Bool) (c5:Int) (c6:BA) (c7:Bool) (c8:BA) (c9:BA) (c10:(Sq U0)) (c11:(Sq BA)) (c12:Int) (c13:Bool):Option Out:=cf tys (fa Out (Vs n)) (td n) n (Ba [1,1,1,1,1,0,1,0,0] (aa Tryz.f6)) 0 Oe Ne K m (i,()) ((p1,(p2,(p3,(p4,(p5,(p6,(p7,(p8,(p9,(p10,(p11,(p12,(p13,(p14,(p15,()))))))))))))))),((c,(c1,(c2,(c3,(c4,(c5,(c6,(c7,(c8,(c9,(c10,(c11,(c12,(c13,())))))))))))))),()))
theorem uj (n:Nat) (K:XE→List AV→la→Option Out):∀ (m:Nat) i p1 p2 p3 p4 p5 p6 p7 p8 p9 p10 p11 p12 p13 p14 p15 c c1 c2 c3 c4 c5 c6 c7 c8 c9 c10 c11 c12 c13,sd n K m i p1 p2 p3 p4 p5 p6 p7 p8 p9 p10 p11 p12 p13 p14 p15 c c1 c2 c3 c4 c5 c6 c7 c8 c9 c10 c11 c12 c13=(nb n m i p1 p2 p3 p4 p5 p6 p7 p8 p9 p10 p11 p12 p13 p14 p15 c c1 c2 c3 c4 c5 c6 c7 c8 c9 c10 c11 c12 c13).bind (jb K)
  | 0,_,_,_,_,_,_,_,_,_,_,_,_,_,_,_,_,_,_,_,_,_,_,_,_,_,_,_,_,_,_=>by kernel_rfl
  | m+1,i,p1,p2,p3,p4,p5,p6,p7,p8,p9,p10,p11,p12,p13,p14,p15,c,c1,c2,c3,c4,c5,c6,c7,c8,c9,c10,c11,c12,c13=>by
    have h1:sd n K (m+1) i p1 p2 p3 p4 p5 p6 p7 p8 p9 p10 p11 p12 p13 p14 p15 c c1 c2 c3 c4 c5 c6 c7 c8 c9 c10 c11 c12 c13=xe n i p1 p2 p3 p4 p5 p6 p7 p8 p9 p10 p11 p12 p13 p14 p15 c c1 c2 c3 c4 c5 c6 c7 c8 c9 c10 c11 c12 c13 (sd n K m) (fun a=>jb K (.out a)) (fun a=>jb K (.ret a)) (fun p=>jb K (.pan p)):=by kernel_rfl
    have h2:sd n K m=fun i p1 p2 p3 p4 p5 p6 p7 p8 p9 p10 p11 p12 p13 p14 p15 c c1 c2 c3 c4 c5 c6 c7 c8 c9 c10 c11 c12 c13=>(nb n m i p1 p2 p3 p4 p5 p6 p7 p8 p9 p10 p11 p12 p13 p14 p15 c c1 c2 c3 c4 c5 c6 c7 c8 c9 c10 c11 c12 c13).bind (jb K):=by
      repeat (refine funext fun _=>?_)
      exact uj n K m _ _ _ _ _ _ _ _ _ _ _ _ _ _ _ _ _ _ _ _ _ _ _ _ _ _ _ _ _ _
    rw [h1,h2];exact (Iu n m _ _ _ _ _ _ _ _ _ _ _ _ _ _ _ _ _ _ _ _ _ _ _ _ _ _ _ _ _ _ (jb K)).symm
theorem Hr (n:Nat):ie tys (fa Out (Vs n)) (td n) n (Ba [1,1,1,1,1,0,1,0,0] (aa Tryz.f6)) 0:=La (sp:=Oe) (rp:=Ne) (by kernel_rfl) fun K σ ρ=>uj n K n σ.1 ρ.1.1 ρ.1.2.1 ρ.1.2.2.1 ρ.1.2.2.2.1 ρ.1.2.2.2.2.1 ρ.1.2.2.2.2.2.1 ρ.1.2.2.2.2.2.2.1 ρ.1.2.2.2.2.2.2.2.1 ρ.1.2.2.2.2.2.2.2.2.1 ρ.1.2.2.2.2.2.2.2.2.2.1 ρ.1.2.2.2.2.2.2.2.2.2.2.1 ρ.1.2.2.2.2.2.2.2.2.2.2.2.1 ρ.1.2.2.2.2.2.2.2.2.2.2.2.2.1 ρ.1.2.2.2.2.2.2.2.2.2.2.2.2.2.1 ρ.1.2.2.2.2.2.2.2.2.2.2.2.2.2.2.1 ρ.2.1.1 ρ.2.1.2.1 ρ.2.1.2.2.1 ρ.2.1.2.2.2.1 ρ.2.1.2.2.2.2.1 ρ.2.1.2.2.2.2.2.1 ρ.2.1.2.2.2.2.2.2.1 ρ.2.1.2.2.2.2.2.2.2.1 ρ.2.1.2.2.2.2.2.2.2.2.1 ρ.2.1.2.2.2.2.2.2.2.2.2.1 ρ.2.1.2.2.2.2.2.2.2.2.2.2.1 ρ.2.1.2.2.2.2.2.2.2.2.2.2.2.1 ρ.2.1.2.2.2.2.2.2.2.2.2.2.2.2.1 ρ.2.1.2.2.2.2.2.2.2.2.2.2.2.2.2.1
theorem Ju (n:Nat):ta tys (fa Out (Vs n)) (td n) n (aa Tryz.f6) 0:=⟨trivial,⟨trivial,⟨trivial,⟨trivial,⟨⟨trivial,⟨⟨trivial,trivial⟩,trivial⟩⟩,⟨⟨trivial,⟨Hr n,⟨⟨trivial,⟨trivial,trivial⟩⟩,⟨⟨trivial,⟨trivial,⟨trivial,⟨⟨trivial,⟨⟨trivial,trivial⟩,trivial⟩⟩,⟨⟨trivial,⟨⟨⟨trivial,⟨⟨trivial,trivial⟩,trivial⟩⟩,trivial⟩,trivial⟩⟩,⟨⟨trivial,⟨⟨trivial,trivial⟩,trivial⟩⟩,⟨trivial,⟨trivial,⟨trivial,⟨⟨trivial,⟨trivial,trivial⟩⟩,⟨⟨trivial,⟨⟨trivial,trivial⟩,trivial⟩⟩,trivial⟩⟩⟩⟩⟩⟩⟩⟩⟩⟩⟩,trivial⟩⟩⟩⟩,⟨trivial,trivial⟩⟩⟩⟩⟩⟩⟩
theorem sw (n:Nat):Enters Tryz.prog 6:=enters_of (c:=aa Tryz.f6) Tryz.func6 (by kernel_rfl) (by kernel_rfl)
def um (n:Nat):Entry:=⟨6,jX K5 (.one .bool) (fun xs=>Yl n xs.1),none,none⟩
theorem Ey (n:Nat):EntryOk Tryz.prog gl (um n):=Aa (sw n) fun xs y h=>ma tys_ok (Ez n) mixed (hint:=td n) (n:=n) Tryz.func6 (Ea (Ju n)) (na (φ:=(fun y=>some (Out.ret (Qb (.one .bool) y)))) (by kernel_rfl) (xB n xs.1 _) h)
def gd (n:Nat):List Entry:=um n::Vs n
theorem xi (n:Nat):AllOk Tryz.prog gl (gd n):=.cons (Ey n) (Ez n)
def Jf (n:Nat) {R:Type} (s1:BA) (i:Int) (kn:BA→Int→Option R) (ko:(BA)→Option R) (kr:(Bool)→Option R) (kp:Int→Option R):Option R:=if (decide (i<(s1.size:Int)))=true then if 0≤i∧i<(s1.size:Int) then if ((bt s1 i)==(13:Int))=false then if 0≤i∧i<(s1.size:Int) then if ((bt s1 i)==(10:Int))=true then kr false else kn s1 (IntKind.wrap .i64 (i+(1:Int))) else none else kr false else none else ko s1
def Nb (n:Nat):Nat→BA→Int→Option (Lx (BA) (Bool))
 | 0,_,_=>none
 | m+1,s1,i=>Jf n s1 i (Nb n m) (fun a=>some (.out a)) (fun a=>some (.ret a)) (fun p=>some (.pan p))
theorem RE (n m:Nat) {S:Type}:∀ s1 i (φ:_→Option S),(Nb n (m+1) s1 i).bind φ=Jf n s1 i (fun s1 i=>(Nb n m s1 i).bind φ) (fun a=>φ (.out a)) (fun a=>φ (.ret a)) (fun p=>φ (.pan p)):=by
  intros;first | (simp only [Nb,Jf,ia,ba,iB,bB,oL,oX,nB,Option.bind_some]) | rfl
def Qj:List Sl:=.dat .str::.top::.top::.dat (.int .i64)::tp 19 []
def Pj:List RS:=[]
def Tt:List Sl:=.dat .str::tp 22 []
def Rt:List RS:=[]
def Vt:List Sl:=.top::.top::.dat .bool::tp 20 []
def Ut:List RS:=[]
def Mc (K:XE→List AV→la→Option Out):Lx (BA) (Bool)→Option Out:=fun x=>dX x (fun a=>Zh Tt Rt (a,()) () (K (.exit 0))) (fun a=>Zh Vt Ut (a,()) () (K .ret)) (fun _=>none)
def Xo (n:Nat) {R:Type} (s:BA) (k:Bool→Option R):Option R:=(Nb n n s (0:Int)).bind fun x_1=>dX x_1 (fun a_2=>k (decide ((a_2.size:Int)≤(509:Int)))) (fun a_3=>k a_3) (fun _=>none)
def Si (n:Nat) (s:BA):Option Bool:=Xo n s some
theorem EM (n:Nat) {S:Type}:∀ s (φ:_→Option S),(Si n s).bind φ=Xo n s φ:=by
  intros;unfold Si Xo;first | (simp only [ia,ba,iB,bB,oL,oX,nB,Option.bind_some]) | rfl
def oh (n:Nat):Hint Out:={ live:=fun c=>(cond (Nat.beq c 0) [(0,none),(3,none)] []),run:=fun c=>(cond (Nat.beq c 0) (some (pq Qj Pj fun σ ρ K=>(Nb n n σ.1 σ.2.1).bind (Mc K))) none),xm:=fun c q=>(cond (Nat.beq c 0&&Nat.beq (q.getD 1000000) 0&&q.isSome) (some [(0,none)]) (cond (Nat.beq c 1&&q.isNone) (some [(2,none)]) none)) }
def nh (n:Nat) (K:XE→List AV→la→Option Out) (m:Nat) (s1:BA) (i:Int):Option Out:=cf tys (fa Out (gd n)) (oh n) n (Ba [1,0,1,0,0] (aa Tryz.f29)) 0 Qj Pj K m (s1,(i,())) ()
theorem Qt (n:Nat) (K:XE→List AV→la→Option Out):∀ (m:Nat) s1 i,nh n K m s1 i=(Nb n m s1 i).bind (Mc K)
  | 0,_,_=>by kernel_rfl
  | m+1,s1,i=>by
    have h1:nh n K (m+1) s1 i=Jf n s1 i (nh n K m) (fun a=>Mc K (.out a)) (fun a=>Mc K (.ret a)) (fun p=>Mc K (.pan p)):=by kernel_rfl
    have h2:nh n K m=fun s1 i=>(Nb n m s1 i).bind (Mc K):=by
      repeat (refine funext fun _=>?_)
      exact Qt n K m _ _
    rw [h1,h2];exact (RE n m _ _ (Mc K)).symm
theorem CC (n:Nat):ie tys (fa Out (gd n)) (oh n) n (Ba [1,0,1,0,0] (aa Tryz.f29)) 0:=La (sp:=Qj) (rp:=Pj) (by kernel_rfl) fun K σ ρ=>Qt n K n σ.1 σ.2.1
theorem SE (n:Nat):ta tys (fa Out (gd n)) (oh n) n (aa Tryz.f29) 0:=⟨trivial,⟨⟨trivial,⟨CC n,⟨⟨trivial,⟨trivial,trivial⟩⟩,⟨⟨trivial,⟨⟨trivial,trivial⟩,trivial⟩⟩,trivial⟩⟩⟩⟩,⟨trivial,trivial⟩⟩⟩
theorem tH (n:Nat):Enters Tryz.prog 29:=enters_of (c:=aa Tryz.f29) Tryz.func29 (by kernel_rfl) (by kernel_rfl)
def qA (n:Nat):Entry:=⟨29,jX (.pair .str .unit) (.one .bool) (fun xs=>Si n xs.1),none,none⟩
theorem FJ (n:Nat):EntryOk Tryz.prog gl (qA n):=Aa (tH n) fun xs y h=>ma tys_ok (xi n) mixed (hint:=oh n) (n:=n) Tryz.func29 (Ea (SE n)) (na (φ:=(fun y=>some (Out.ret (Qb (.one .bool) y)))) (by kernel_rfl) (EM n xs.1 _) h)
def Xq (n:Nat):List Entry:=qA n::gd n
theorem lq (n:Nat):AllOk Tryz.prog gl (Xq n):=.cons (FJ n) (xi n)
def Ts (n:Nat) {R:Type} (c:T0) (k:(T0×Int×Unit)→Option R):Option R:=(Dx n c).bind fun v=>if (!v)=true then k (((0:Int),((0:Int),((0:Int),(((⟨#[]⟩:BA),(false,())),((0:Int),((⟨#[]⟩:BA),(false,(((⟨#[]⟩:BA),((⟨#[]⟩:BA),())),((⟨0,fun _=>sa (.pair .str (.pair .str .unit))⟩:Sq U0),((⟨0,fun _=>sa .str⟩:Sq BA),((0:Int),(false,())))))))))))),((1:Int),())) else (wd n c).bind fun v1=>k ((v1.1,(v1.2.1,(v1.2.2.1,((v1.2.2.2.1,(v1.2.2.2.2.1,())),(v1.2.2.2.2.2.1,(v1.2.2.2.2.2.2.1,(v1.2.2.2.2.2.2.2.1,((v1.2.2.2.2.2.2.2.2.1,(v1.2.2.2.2.2.2.2.2.2.1,())),(v1.2.2.2.2.2.2.2.2.2.2.2.2.1,(v1.2.2.2.2.2.2.2.2.2.2.2.2.2.1,(v1.2.2.2.2.2.2.2.2.2.2.1,(v1.2.2.2.2.2.2.2.2.2.2.2.1,())))))))))))),((0:Int),()))
def Zu (n:Nat) (c:T0):Option (T0×Int×Unit):=Ts n c some
theorem LN (n:Nat) {S:Type}:∀ c (φ:_→Option S),(Zu n c).bind φ=Ts n c φ:=by
  intros;unfold Zu Ts;first | (simp only [ia,ba,iB,bB,oL,oX,nB,Option.bind_some]) | rfl
def Pw (n:Nat):Hint Out:={ live:=fun c=>[],run:=fun c=>none,xm:=fun c q=>none }
theorem xG (n:Nat):ta tys (fa Out (Xq n)) (Pw n) n (aa Tryz.f30) 0:=oa (fun _=>rfl) _ _ (by kernel_rfl)
theorem VI (n:Nat):Enters Tryz.prog 30:=enters_of (c:=aa Tryz.f30) Tryz.func30 (by kernel_rfl) (by kernel_rfl)
def gD (n:Nat):Entry:=⟨30,jX K1 (.many gW) (fun xs=>Zu n xs.1),none,none⟩
theorem dM (n:Nat):EntryOk Tryz.prog gl (gD n):=Aa (VI n) fun xs y h=>ma tys_ok (lq n) mixed (hint:=Pw n) (n:=n) Tryz.func30 (Ea (xG n)) (na (φ:=(fun y=>some (Out.ret (Qb (.many gW) y)))) (by kernel_rfl) (LN n xs.1 _) h)
def lk (n:Nat):List Entry:=gD n::Xq n
theorem Us (n:Nat):AllOk Tryz.prog gl (lk n):=.cons (dM n) (lq n)
def rc (n:Nat) {R:Type} (a1 b1:(Sq BA)) (i:Int) (kn:(Sq BA)→(Sq BA)→Int→Option R) (ko:(Unit)→Option R) (kr:(Bool)→Option R) (kp:Int→Option R):Option R:=if (decide (i<(a1.n:Int)))=true then if 0≤i∧i<(a1.n:Int) then if 0≤i∧i<(b1.n:Int) then if (!((a1.at' (Int.toNat i)).toList==(b1.at' (Int.toNat i)).toList))=true then kr false else kn a1 b1 (IntKind.wrap .i64 (i+(1:Int))) else none else none else ko ()
def Na (n:Nat):Nat→(Sq BA)→(Sq BA)→Int→Option (Lx (Unit) (Bool))
 | 0,_,_,_=>none
 | m+1,a1,b1,i=>rc n a1 b1 i (Na n m) (fun a=>some (.out a)) (fun a=>some (.ret a)) (fun p=>some (.pan p))
theorem Kv (n m:Nat) {S:Type}:∀ a1 b1 i (φ:_→Option S),(Na n (m+1) a1 b1 i).bind φ=rc n a1 b1 i (fun a1 b1 i=>(Na n m a1 b1 i).bind φ) (fun a=>φ (.out a)) (fun a=>φ (.ret a)) (fun p=>φ (.pan p)):=by
  intros;first | (simp only [Na,rc,ia,ba,iB,bB,oL,oX,nB,Option.bind_some]) | rfl
def ef:List Sl:=.dat (.sl .str)::.dat (.sl .str)::.top::.top::.top::.dat (.int .i64)::tp 20 []
def df:List RS:=[]
def wm:List Sl:=tp 26 []
def vm:List RS:=[]
def zm:List Sl:=tp 4 (.dat .bool::tp 21 [])
def ym:List RS:=[]
def ub (K:XE→List AV→la→Option Out):Lx (Unit) (Bool)→Option Out:=fun x=>dX x (fun a=>Zh wm vm () () (K (.exit 0))) (fun a=>Zh zm ym (a,()) () (K .ret)) (fun _=>none)
def Zf (n:Nat) {R:Type} (a b:(Sq BA)) (k:Bool→Option R):Option R:=if ((a.n:Int) !=(b.n:Int))=true then k false else (Na n n a b (0:Int)).bind fun x_1=>dX x_1 (fun a_2=>k true) (fun a_3=>k a_3) (fun _=>none)
def Re (n:Nat) (a b:(Sq BA)):Option Bool:=Zf n a b some
theorem zC (n:Nat) {S:Type}:∀ a b (φ:_→Option S),(Re n a b).bind φ=Zf n a b φ:=by
  intros;unfold Re Zf;first | (simp only [ia,ba,iB,bB,oL,oX,nB,Option.bind_some]) | rfl
def Wd (n:Nat):Hint Out:={ live:=fun c=>(cond (Nat.beq c 0) [(0,some (.sl .str)),(1,some (.sl .str)),(5,none)] []),run:=fun c=>(cond (Nat.beq c 0) (some (pq ef df fun σ ρ K=>(Na n n σ.1 σ.2.1 σ.2.2.1).bind (ub K))) none),xm:=fun c q=>(cond (Nat.beq c 0&&Nat.beq (q.getD 1000000) 0&&q.isSome) (some []) (cond (Nat.beq c 1&&q.isNone) (some [(4,none)]) none)) }
def Vd (n:Nat) (K:XE→List AV→la→Option Out) (m:Nat) (a1:(Sq BA)) (b1:(Sq BA)) (i:Int):Option Out:=cf tys (fa Out (lk n)) (Wd n) n (Ba [1,1,0,1,0,0] (aa Tryz.f18)) 0 ef df K m (a1,(b1,(i,()))) ()
theorem Fk (n:Nat) (K:XE→List AV→la→Option Out):∀ (m:Nat) a1 b1 i,Vd n K m a1 b1 i=(Na n m a1 b1 i).bind (ub K)
  | 0,_,_,_=>by kernel_rfl
  | m+1,a1,b1,i=>by
    have h1:Vd n K (m+1) a1 b1 i=rc n a1 b1 i (Vd n K m) (fun a=>ub K (.out a)) (fun a=>ub K (.ret a)) (fun p=>ub K (.pan p)):=by kernel_rfl
    have h2:Vd n K m=fun a1 b1 i=>(Na n m a1 b1 i).bind (ub K):=by
      repeat (refine funext fun _=>?_)
      exact Fk n K m _ _ _
    rw [h1,h2];exact (Kv n m _ _ _ (ub K)).symm
theorem Gt (n:Nat):ie tys (fa Out (lk n)) (Wd n) n (Ba [1,1,0,1,0,0] (aa Tryz.f18)) 0:=La (sp:=ef) (rp:=df) (by kernel_rfl) fun K σ ρ=>Fk n K n σ.1 σ.2.1 σ.2.2.1
theorem Lv (n:Nat):ta tys (fa Out (lk n)) (Wd n) n (aa Tryz.f18) 0:=⟨trivial,⟨⟨trivial,⟨⟨trivial,trivial⟩,trivial⟩⟩,⟨⟨trivial,⟨Gt n,⟨⟨trivial,⟨trivial,trivial⟩⟩,⟨⟨trivial,⟨⟨trivial,trivial⟩,trivial⟩⟩,trivial⟩⟩⟩⟩,⟨trivial,trivial⟩⟩⟩⟩
theorem Vx (n:Nat):Enters Tryz.prog 18:=enters_of (c:=aa Tryz.f18) Tryz.func18 (by kernel_rfl) (by kernel_rfl)
def Hn (n:Nat):Entry:=⟨18,jX (.pair (.sl .str) (.pair (.sl .str) .unit)) (.one .bool) (fun xs=>Re n xs.1 xs.2.1),none,none⟩
theorem nA (n:Nat):EntryOk Tryz.prog gl (Hn n):=Aa (Vx n) fun xs y h=>ma tys_ok (Us n) mixed (hint:=Wd n) (n:=n) Tryz.func18 (Ea (Lv n)) (na (φ:=(fun y=>some (Out.ret (Qb (.one .bool) y)))) (by kernel_rfl) (zC n xs.1 xs.2.1 _) h)
def Fd (n:Nat):List Entry:=Hn n::lk n
theorem Ri (n:Nat):AllOk Tryz.prog gl (Fd n):=.cons (nA n) (Us n)
def Gl (n:Nat) {R:Type} (s1:BA) (by01 from0 i:Int) (l:(Sq BA)) (kn:BA→Int→Int→Int→(Sq BA)→Option R) (ko:((Sq BA))→Option R) (kr:Unit→Option R) (kp:Int→Option R):Option R:=if (decide (i≤(s1.size:Int)))=true then if (i==(s1.size:Int))=false then if 0≤i∧i<(s1.size:Int) then if ((bt s1 i)==by01)=true then if 0≤i∧i≤(s1.size:Int) then if 0≤from0∧from0≤i then if Ya (l.n+1) 16=true then kn s1 by01 (IntKind.wrap .i64 (i+(1:Int))) (IntKind.wrap .i64 (i+(1:Int))) (⟨(l.n+1),fun q=>if q<l.n then l.at' q else (fun q=>List.getD (α:=BA) [(s1.extract (Int.toNat from0) (Int.toNat i))] q (sa .str)) (q - l.n)⟩:Sq BA) else none else none else none else kn s1 by01 from0 (IntKind.wrap .i64 (i+(1:Int))) l else none else if 0≤i∧i≤(s1.size:Int) then if 0≤from0∧from0≤i then if Ya (l.n+1) 16=true then kn s1 by01 (IntKind.wrap .i64 (i+(1:Int))) (IntKind.wrap .i64 (i+(1:Int))) (⟨(l.n+1),fun q=>if q<l.n then l.at' q else (fun q=>List.getD (α:=BA) [(s1.extract (Int.toNat from0) (Int.toNat i))] q (sa .str)) (q - l.n)⟩:Sq BA) else none else none else none else ko l
def Gd (n:Nat):Nat→BA→Int→Int→Int→(Sq BA)→Option (Lx ((Sq BA)) Unit)
 | 0,_,_,_,_,_=>none
 | m+1,s1,by01,from0,i,l=>Gl n s1 by01 from0 i l (Gd n m) (fun a=>some (.out a)) (fun a=>some (.ret a)) (fun p=>some (.pan p))
theorem NE (n m:Nat) {S:Type}:∀ s1 by01 from0 i l (φ:_→Option S),(Gd n (m+1) s1 by01 from0 i l).bind φ=Gl n s1 by01 from0 i l (fun s1 by01 from0 i l=>(Gd n m s1 by01 from0 i l).bind φ) (fun a=>φ (.out a)) (fun a=>φ (.ret a)) (fun p=>φ (.pan p)):=by
  intros;first | (simp only [Gd,Gl,ia,ba,iB,bB,oL,oX,nB,Option.bind_some]) | rfl
def Mj:List Sl:=.dat .str::.dat (.int .u8)::.top::.top::.top::.row 0::.dat (.int .i64)::.dat (.int .i64)::tp 27 []
def Lj:List RS:=[.row 9 1 .str true false]
def Kt:List Sl:=tp 5 (.row 0::tp 29 [])
def Jt:List RS:=[.row 9 1 .str true false]
def Jc (K:XE→List AV→la→Option Out):Lx ((Sq BA)) Unit→Option Out:=fun x=>dX x (fun a=>Zh Kt Jt () (a,()) (K (.exit 0))) (fun _=>none) (fun _=>none)
def Mv (n:Nat) {R:Type} (s:BA) (by0:Int) (k:(Sq BA)→Option R):Option R:=(Gd n n s by0 (0:Int) (0:Int) (⟨0,fun _=>sa .str⟩:Sq BA)).bind fun x_1=>dX x_1 (fun a_2=>k a_2) (fun _=>none) (fun _=>none)
def Ht (n:Nat) (s:BA) (by0:Int):Option (Sq BA):=Mv n s by0 some
theorem CM (n:Nat) {S:Type}:∀ s by0 (φ:_→Option S),(Ht n s by0).bind φ=Mv n s by0 φ:=by
  intros;unfold Ht Mv;first | (simp only [ia,ba,iB,bB,oL,oX,nB,Option.bind_some]) | rfl
def kh (n:Nat):Hint Out:={ live:=fun c=>(cond (Nat.beq c 0) [(0,none),(1,none),(5,some (.sl .str)),(6,none),(7,none)] []),run:=fun c=>(cond (Nat.beq c 0) (some (pq Mj Lj fun σ ρ K=>(Gd n n σ.1 σ.2.1 σ.2.2.1 σ.2.2.2.1 ρ.1).bind (Jc K))) none),xm:=fun c q=>(cond (Nat.beq c 0&&Nat.beq (q.getD 1000000) 0&&q.isSome) (some [(5,some (.sl .str))]) none) }
def jh (n:Nat) (K:XE→List AV→la→Option Out) (m:Nat) (s1:BA) (by01:Int) (from0:Int) (i:Int) (l:(Sq BA)):Option Out:=cf tys (fa Out (Fd n)) (kh n) n (Ba [1,1,1,0,1,0,0] (aa Tryz.f48)) 0 Mj Lj K m (s1,(by01,(from0,(i,())))) (l,())
theorem It (n:Nat) (K:XE→List AV→la→Option Out):∀ (m:Nat) s1 by01 from0 i l,jh n K m s1 by01 from0 i l=(Gd n m s1 by01 from0 i l).bind (Jc K)
  | 0,_,_,_,_,_=>by kernel_rfl
  | m+1,s1,by01,from0,i,l=>by
    have h1:jh n K (m+1) s1 by01 from0 i l=Gl n s1 by01 from0 i l (jh n K m) (fun a=>Jc K (.out a)) (fun a=>Jc K (.ret a)) (fun p=>Jc K (.pan p)):=by kernel_rfl
    have h2:jh n K m=fun s1 by01 from0 i l=>(Gd n m s1 by01 from0 i l).bind (Jc K):=by
      repeat (refine funext fun _=>?_)
      exact It n K m _ _ _ _ _
    rw [h1,h2];exact (NE n m _ _ _ _ _ (Jc K)).symm
theorem AC (n:Nat):ie tys (fa Out (Fd n)) (kh n) n (Ba [1,1,1,0,1,0,0] (aa Tryz.f48)) 0:=La (sp:=Mj) (rp:=Lj) (by kernel_rfl) fun K σ ρ=>It n K n σ.1 σ.2.1 σ.2.2.1 σ.2.2.2.1 ρ.1
theorem OE (n:Nat):ta tys (fa Out (Fd n)) (kh n) n (aa Tryz.f48) 0:=⟨trivial,⟨trivial,⟨trivial,⟨⟨trivial,⟨AC n,⟨⟨trivial,⟨trivial,trivial⟩⟩,⟨⟨trivial,⟨⟨trivial,trivial⟩,trivial⟩⟩,trivial⟩⟩⟩⟩,⟨trivial,trivial⟩⟩⟩⟩⟩
theorem rH (n:Nat):Enters Tryz.prog 48:=enters_of (c:=aa Tryz.f48) Tryz.func48 (by kernel_rfl) (by kernel_rfl)
def oA (n:Nat):Entry:=⟨48,jX (.pair .str (.pair (.int .u8) .unit)) (.one (.sl .str)) (fun xs=>Ht n xs.1 xs.2.1),none,none⟩
theorem DJ (n:Nat):EntryOk Tryz.prog gl (oA n):=Aa (rH n) fun xs y h=>ma tys_ok (Ri n) mixed (hint:=kh n) (n:=n) Tryz.func48 (Ea (OE n)) (na (φ:=(fun y=>some (Out.ret (Qb (.one (.sl .str)) y)))) (by kernel_rfl) (CM n xs.1 xs.2.1 _) h)
def ai (n:Nat):List Entry:=oA n::Fd n
theorem jq (n:Nat):AllOk Tryz.prog gl (ai n):=.cons (DJ n) (Ri n)
def Hl (n:Nat) {R:Type} (s1:BA) (n0 i:Int) (kn:BA→Int→Int→Option R) (ko:(Int)→Option R) (kr:(Int×Bool)→Option R) (kp:Int→Option R):Option R:=if (decide (i<(s1.size:Int)))=true then if 0≤i∧i<(s1.size:Int) then if (decide ((bt s1 i)<(48:Int)))=false then if 0≤i∧i<(s1.size:Int) then if (decide ((bt s1 i)>(57:Int)))=true then kr ((0:Int),false) else if 0≤i∧i<(s1.size:Int) then kn s1 (IntKind.wrap .i64 ((IntKind.wrap .i64 ((10:Int)*n0))+(IntKind.wrap .i64 (IntKind.wrap .u8 ((bt s1 i) - (48:Int)))))) (IntKind.wrap .i64 (i+(1:Int))) else none else none else kr ((0:Int),false) else none else ko n0
def Kc (n:Nat):Nat→BA→Int→Int→Option (Lx (Int) (Int×Bool))
 | 0,_,_,_=>none
 | m+1,s1,n0,i=>Hl n s1 n0 i (Kc n m) (fun a=>some (.out a)) (fun a=>some (.ret a)) (fun p=>some (.pan p))
theorem PE (n m:Nat) {S:Type}:∀ s1 n0 i (φ:_→Option S),(Kc n (m+1) s1 n0 i).bind φ=Hl n s1 n0 i (fun s1 n0 i=>(Kc n m s1 n0 i).bind φ) (fun a=>φ (.out a)) (fun a=>φ (.ret a)) (fun p=>φ (.pan p)):=by
  intros;first | (simp only [Kc,Hl,ia,ba,iB,bB,oL,oX,nB,Option.bind_some]) | rfl
def Oj:List Sl:=.dat .str::.top::.top::.top::.dat (.int .i64)::.dat (.int .i64)::tp 42 []
def Nj:List RS:=[]
def Nt:List Sl:=tp 4 (.dat (.int .i64)::tp 43 [])
def Mt:List RS:=[]
def Pt:List Sl:=.top::.top::.dat (.int .i64)::.dat .bool::tp 44 []
def Ot:List RS:=[]
def Lc (K:XE→List AV→la→Option Out):Lx (Int) (Int×Bool)→Option Out:=fun x=>dX x (fun a=>Zh Nt Mt (a,()) () (K (.exit 0))) (fun a=>Zh Pt Ot (a.1,(a.2,())) () (K .ret)) (fun _=>none)
def Nv (n:Nat) {R:Type} (s:BA) (k:(Int×Bool×Unit)→Option R):Option R:=if (s.toList==(⟨#[]⟩:BA).toList)=false then if (decide ((s.size:Int)>(16:Int)))=false then if (decide ((s.size:Int)>(1:Int)))=true then if 0≤(0:Int)∧(0:Int)<(s.size:Int) then if ((bt s (0:Int))==(48:Int))=true then k ((0:Int),(false,())) else (Kc n n s (0:Int) (0:Int)).bind fun x_1=>dX x_1 (fun a_2=>k (a_2,(true,()))) (fun a_3=>k (a_3.1,(a_3.2,()))) (fun _=>none) else none else (Kc n n s (0:Int) (0:Int)).bind fun x_4=>dX x_4 (fun a_5=>k (a_5,(true,()))) (fun a_6=>k (a_6.1,(a_6.2,()))) (fun _=>none) else k ((0:Int),(false,())) else k ((0:Int),(false,()))
def Ny (n:Nat) (s:BA):Option (Int×Bool×Unit):=Nv n s some
theorem DM (n:Nat) {S:Type}:∀ s (φ:_→Option S),(Ny n s).bind φ=Nv n s φ:=by
  intros;unfold Ny Nv;first | (simp only [ia,ba,iB,bB,oL,oX,nB,Option.bind_some]) | rfl
def mh (n:Nat):Hint Out:={ live:=fun c=>(cond (Nat.beq c 0) (lv [0,4,5]) []),run:=fun c=>(cond (Nat.beq c 0) (some (pq Oj Nj fun σ ρ K=>(Kc n n σ.1 σ.2.1 σ.2.2.1).bind (Lc K))) none),xm:=fun c q=>(cond (Nat.beq c 0&&Nat.beq (q.getD 1000000) 0&&q.isSome) (some [(4,none)]) (cond (Nat.beq c 1&&q.isNone) (some [(2,none),(3,none)]) none)) }
def lh (n:Nat) (K:XE→List AV→la→Option Out) (m:Nat) (s1:BA) (n0:Int) (i:Int):Option Out:=cf tys (fa Out (ai n)) (mh n) n (Ba [1,1,1,0,1,0,0] (aa Tryz.f84)) 0 Oj Nj K m (s1,(n0,(i,()))) ()
theorem Lt (n:Nat) (K:XE→List AV→la→Option Out):∀ (m:Nat) s1 n0 i,lh n K m s1 n0 i=(Kc n m s1 n0 i).bind (Lc K)
  | 0,_,_,_=>by kernel_rfl
  | m+1,s1,n0,i=>by
    have h1:lh n K (m+1) s1 n0 i=Hl n s1 n0 i (lh n K m) (fun a=>Lc K (.out a)) (fun a=>Lc K (.ret a)) (fun p=>Lc K (.pan p)):=by kernel_rfl
    have h2:lh n K m=fun s1 n0 i=>(Kc n m s1 n0 i).bind (Lc K):=by
      repeat (refine funext fun _=>?_)
      exact Lt n K m _ _ _
    rw [h1,h2];exact (PE n m _ _ _ (Lc K)).symm
theorem BC (n:Nat):ie tys (fa Out (ai n)) (mh n) n (Ba [1,1,1,0,1,0,0] (aa Tryz.f84)) 0:=La (sp:=Oj) (rp:=Nj) (by kernel_rfl) fun K σ ρ=>Lt n K n σ.1 σ.2.1 σ.2.2.1
theorem QE (n:Nat):ta tys (fa Out (ai n)) (mh n) n (aa Tryz.f84) 0:=⟨trivial,⟨⟨trivial,⟨⟨trivial,trivial⟩,trivial⟩⟩,⟨trivial,⟨⟨trivial,⟨BC n,⟨⟨trivial,⟨trivial,trivial⟩⟩,⟨⟨⟨trivial,⟨⟨trivial,trivial⟩,trivial⟩⟩,trivial⟩,trivial⟩⟩⟩⟩,⟨trivial,trivial⟩⟩⟩⟩⟩
theorem sH (n:Nat):Enters Tryz.prog 84:=enters_of (c:=aa Tryz.f84) Tryz.func84 (by kernel_rfl) (by kernel_rfl)
def pA (n:Nat):Entry:=⟨84,jX (.pair .str .unit) (.many (.pair (.int .i64) (.pair .bool .unit))) (fun xs=>Ny n xs.1),none,none⟩
theorem EJ (n:Nat):EntryOk Tryz.prog gl (pA n):=Aa (sH n) fun xs y h=>ma tys_ok (jq n) mixed (hint:=mh n) (n:=n) Tryz.func84 (Ea (QE n)) (na (φ:=(fun y=>some (Out.ret (Qb (.many (.pair (.int .i64) (.pair .bool .unit))) y)))) (by kernel_rfl) (DM n xs.1 _) h)
def bi (n:Nat):List Entry:=pA n::ai n
theorem kq (n:Nat):AllOk Tryz.prog gl (bi n):=.cons (EJ n) (jq n)
def ph (n:Nat) {R:Type} (l:(Sq BA)) (i:Int) (kn:(Sq BA)→Int→Option R) (ko:((Sq BA))→Option R) (kr:(Bool)→Option R) (kp:Int→Option R):Option R:=if (decide (i<(l.n:Int)))=true then if 0≤i∧i<(l.n:Int) then (Ny n (l.at' (Int.toNat i))).bind fun v1=>if (!v1.2.1)=false then if (decide (v1.1>(255:Int)))=true then kr false else kn l (IntKind.wrap .i64 (i+(1:Int))) else kr false else none else ko l
def Tb (n:Nat):Nat→(Sq BA)→Int→Option (Lx ((Sq BA)) (Bool))
 | 0,_,_=>none
 | m+1,l,i=>ph n l i (Tb n m) (fun a=>some (.out a)) (fun a=>some (.ret a)) (fun p=>some (.pan p))
theorem uA (n m:Nat) {S:Type}:∀ l i (φ:_→Option S),(Tb n (m+1) l i).bind φ=ph n l i (fun l i=>(Tb n m l i).bind φ) (fun a=>φ (.out a)) (fun a=>φ (.ret a)) (fun p=>φ (.pan p)):=by
  intros;first | (simp only [Tb,ph,ia,ba,iB,bB,oL,oX,nB,Option.bind_some]) | rfl
def Gg:List Sl:=.top::.top::.top::.dat (.sl .str)::.dat (.int .i64)::tp 47 []
def Fg:List RS:=[]
def Dp:List Sl:=.top::.top::.top::.dat (.sl .str)::tp 48 []
def Cp:List RS:=[]
def Fp:List Sl:=.top::.top::.dat .bool::tp 49 []
def Ep:List RS:=[]
def Ob (K:XE→List AV→la→Option Out):Lx ((Sq BA)) (Bool)→Option Out:=fun x=>dX x (fun a=>Zh Dp Cp (a,()) () (K (.exit 0))) (fun a=>Zh Fp Ep (a,()) () (K .ret)) (fun _=>none)
def In (n:Nat) {R:Type} (s:BA) (k:Bool→Option R):Option R:=if (decide ((s.size:Int)<(2:Int)))=false then if 0≤(0:Int)∧(0:Int)<(s.size:Int) then if ((bt s (0:Int)) !=(91:Int))=false then if 0≤(IntKind.wrap .i64 ((s.size:Int) - (1:Int)))∧(IntKind.wrap .i64 ((s.size:Int) - (1:Int)))<(s.size:Int) then if ((bt s (IntKind.wrap .i64 ((s.size:Int) - (1:Int)))) !=(93:Int))=true then k false else if 0≤(IntKind.wrap .i64 ((s.size:Int) - (1:Int)))∧(IntKind.wrap .i64 ((s.size:Int) - (1:Int)))≤(s.size:Int) then if 0≤(1:Int)∧(1:Int)≤(IntKind.wrap .i64 ((s.size:Int) - (1:Int))) then (Ht n (s.extract (Int.toNat (1:Int)) (Int.toNat (IntKind.wrap .i64 ((s.size:Int) - (1:Int))))) (46:Int)).bind fun v=>(Tb n n v (0:Int)).bind fun x_1=>dX x_1 (fun a_2=>k ((a_2.n:Int)==(4:Int))) (fun a_3=>k a_3) (fun _=>none) else none else none else none else k false else none else k false
def Yo (n:Nat) (s:BA):Option Bool:=In n s some
theorem vH (n:Nat) {S:Type}:∀ s (φ:_→Option S),(Yo n s).bind φ=In n s φ:=by
  intros;unfold Yo In;first | (simp only [ia,ba,iB,bB,oL,oX,nB,Option.bind_some]) | rfl
def gf (n:Nat):Hint Out:={ live:=fun c=>(cond (Nat.beq c 0) [(3,some (.sl .str)),(4,none)] []),run:=fun c=>(cond (Nat.beq c 0) (some (pq Gg Fg fun σ ρ K=>(Tb n n σ.1 σ.2.1).bind (Ob K))) none),xm:=fun c q=>(cond (Nat.beq c 0&&Nat.beq (q.getD 1000000) 0&&q.isSome) (some [(3,some (.sl .str))]) (cond (Nat.beq c 1&&q.isNone) (some [(2,none)]) none)) }
def ff (n:Nat) (K:XE→List AV→la→Option Out) (m:Nat) (l:(Sq BA)) (i:Int):Option Out:=cf tys (fa Out (bi n)) (gf n) n (Ba [1,1,1,0,1,0,0] (aa Tryz.f47)) 0 Gg Fg K m (l,(i,())) ()
theorem Jn (n:Nat) (K:XE→List AV→la→Option Out):∀ (m:Nat) l i,ff n K m l i=(Tb n m l i).bind (Ob K)
  | 0,_,_=>by kernel_rfl
  | m+1,l,i=>by
    have h1:ff n K (m+1) l i=ph n l i (ff n K m) (fun a=>Ob K (.out a)) (fun a=>Ob K (.ret a)) (fun p=>Ob K (.pan p)):=by kernel_rfl
    have h2:ff n K m=fun l i=>(Tb n m l i).bind (Ob K):=by
      repeat (refine funext fun _=>?_)
      exact Jn n K m _ _
    rw [h1,h2];exact (uA n m _ _ (Ob K)).symm
theorem Wx (n:Nat):ie tys (fa Out (bi n)) (gf n) n (Ba [1,1,1,0,1,0,0] (aa Tryz.f47)) 0:=La (sp:=Gg) (rp:=Fg) (by kernel_rfl) fun K σ ρ=>Jn n K n σ.1 σ.2.1
theorem vA (n:Nat):ta tys (fa Out (bi n)) (gf n) n (aa Tryz.f47) 0:=⟨trivial,⟨⟨trivial,⟨⟨trivial,trivial⟩,trivial⟩⟩,⟨trivial,⟨⟨trivial,⟨Wx n,⟨⟨trivial,⟨trivial,trivial⟩⟩,⟨⟨trivial,⟨trivial,⟨⟨trivial,trivial⟩,trivial⟩⟩⟩,trivial⟩⟩⟩⟩,⟨trivial,trivial⟩⟩⟩⟩⟩
theorem GC (n:Nat):Enters Tryz.prog 47:=enters_of (c:=aa Tryz.f47) Tryz.func47 (by kernel_rfl) (by kernel_rfl)
def Wt (n:Nat):Entry:=⟨47,jX (.pair .str .unit) (.one .bool) (fun xs=>Yo n xs.1),none,none⟩
theorem UE (n:Nat):EntryOk Tryz.prog gl (Wt n):=Aa (GC n) fun xs y h=>ma tys_ok (kq n) mixed (hint:=gf n) (n:=n) Tryz.func47 (Ea (vA n)) (na (φ:=(fun y=>some (Out.ret (Qb (.one .bool) y)))) (by kernel_rfl) (vH n xs.1 _) h)
def Il (n:Nat):List Entry:=Wt n::bi n
theorem mm (n:Nat):AllOk Tryz.prog gl (Il n):=.cons (UE n) (kq n)
def Ov (n:Nat) {R:Type} (c:Int) (k:Bool→Option R):Option R:=if (decide (c≥(48:Int)))=true then k (decide (c≤(57:Int))) else k false
def Xt (n:Nat) (c:Int):Option Bool:=Ov n c some
theorem FM (n:Nat) {S:Type}:∀ c (φ:_→Option S),(Xt n c).bind φ=Ov n c φ:=by
  intros;unfold Xt Ov;first | (simp only [ia,ba,iB,bB,oL,oX,nB,Option.bind_some]) | rfl
def Yt (n:Nat):Hint Out:={ live:=fun c=>[],run:=fun c=>none,xm:=fun c q=>none }
theorem VE (n:Nat):ta tys (fa Out (Il n)) (Yt n) n (aa Tryz.f49) 0:=oa (fun _=>rfl) _ _ (by kernel_rfl)
theorem wH (n:Nat):Enters Tryz.prog 49:=enters_of (c:=aa Tryz.f49) Tryz.func49 (by kernel_rfl) (by kernel_rfl)
def wA (n:Nat):Entry:=⟨49,jX (.pair (.int .u8) .unit) (.one .bool) (fun xs=>Xt n xs.1),none,none⟩
theorem HJ (n:Nat):EntryOk Tryz.prog gl (wA n):=Aa (wH n) fun xs y h=>ma tys_ok (mm n) mixed (hint:=Yt n) (n:=n) Tryz.func49 (Ea (VE n)) (na (φ:=(fun y=>some (Out.ret (Qb (.one .bool) y)))) (by kernel_rfl) (FM n xs.1 _) h)
def Ee (n:Nat):List Entry:=wA n::Il n
theorem oq (n:Nat):AllOk Tryz.prog gl (Ee n):=.cons (HJ n) (mm n)
def Ui (n:Nat) {R:Type} (l1:(Sq BA)) (i1:Int) (w:BA) (k0:Int) (kn:(Sq BA)→Int→BA→Int→Option R) (ko:((Sq BA)×Int)→Option R) (kr:(Bool)→Option R) (kp:Int→Option R):Option R:=if (decide (k0<(w.size:Int)))=true then if 0≤k0∧k0<(w.size:Int) then if (decide ((bt w k0)≥(97:Int)))=true then if 0≤k0∧k0<(w.size:Int) then if (!(decide ((bt w k0)≤(122:Int))))=true then if 0≤k0∧k0<(w.size:Int) then (Xt n (bt w k0)).bind fun v2=>if (!v2)=true then if 0≤k0∧k0<(w.size:Int) then if ((bt w k0) !=(45:Int))=true then kr false else kn l1 i1 w (IntKind.wrap .i64 (k0+(1:Int))) else none else kn l1 i1 w (IntKind.wrap .i64 (k0+(1:Int))) else none else kn l1 i1 w (IntKind.wrap .i64 (k0+(1:Int))) else none else if 0≤k0∧k0<(w.size:Int) then (Xt n (bt w k0)).bind fun v3=>if (!v3)=true then if 0≤k0∧k0<(w.size:Int) then if ((bt w k0) !=(45:Int))=true then kr false else kn l1 i1 w (IntKind.wrap .i64 (k0+(1:Int))) else none else kn l1 i1 w (IntKind.wrap .i64 (k0+(1:Int))) else none else none else ko (l1,i1)
def Ac (n:Nat):Nat→(Sq BA)→Int→BA→Int→Option (Lx ((Sq BA)×Int) (Bool))
 | 0,_,_,_,_=>none
 | m+1,l1,i1,w,k0=>Ui n l1 i1 w k0 (Ac n m) (fun a=>some (.out a)) (fun a=>some (.ret a)) (fun p=>some (.pan p))
theorem EC (n m:Nat) {S:Type}:∀ l1 i1 w k0 (φ:_→Option S),(Ac n (m+1) l1 i1 w k0).bind φ=Ui n l1 i1 w k0 (fun l1 i1 w k0=>(Ac n m l1 i1 w k0).bind φ) (fun a=>φ (.out a)) (fun a=>φ (.ret a)) (fun p=>φ (.pan p)):=by
  intros;first | (simp only [Ac,Ui,ia,ba,iB,bB,oL,oX,nB,Option.bind_some]) | rfl
def fi:List Sl:=.top::.top::.top::.dat (.sl .str)::.dat (.int .i64)::.dat .str::.dat (.int .i64)::tp 68 []
def ei:List RS:=[]
def gr:List Sl:=.top::.top::.top::.dat (.sl .str)::.dat (.int .i64)::tp 70 []
def er:List RS:=[]
def jr:List Sl:=.top::.top::.dat .bool::tp 72 []
def ir:List RS:=[]
def bc (K:XE→List AV→la→Option Out):Lx ((Sq BA)×Int) (Bool)→Option Out:=fun x=>dX x (fun a=>Zh gr er (a.1,(a.2,())) () (K (.exit 2))) (fun a=>Zh jr ir (a,()) () (K .ret)) (fun _=>none)
def Ti (n:Nat) {R:Type} (l:(Sq BA)) (i:Int) (kn:(Sq BA)→Int→Option R) (ko:(Unit)→Option R) (kr:(Bool)→Option R) (kp:Int→Option R):Option R:=if (decide (i<(l.n:Int)))=true then if 0≤i∧i<(l.n:Int) then if (decide (((l.at' (Int.toNat i)).size:Int)<(1:Int)))=false then if (decide (((l.at' (Int.toNat i)).size:Int)>(63:Int)))=false then if 0≤(0:Int)∧(0:Int)<((l.at' (Int.toNat i)).size:Int) then if ((bt (l.at' (Int.toNat i)) (0:Int))==(45:Int))=false then if 0≤(IntKind.wrap .i64 (((l.at' (Int.toNat i)).size:Int) - (1:Int)))∧(IntKind.wrap .i64 (((l.at' (Int.toNat i)).size:Int) - (1:Int)))<((l.at' (Int.toNat i)).size:Int) then if ((bt (l.at' (Int.toNat i)) (IntKind.wrap .i64 (((l.at' (Int.toNat i)).size:Int) - (1:Int))))==(45:Int))=true then kr false else (Ac n n l i (l.at' (Int.toNat i)) (0:Int)).bind fun x_1=>dX x_1 (fun a_2=>kn a_2.1 (IntKind.wrap .i64 (a_2.2+(1:Int)))) (fun a_3=>kr a_3) (fun _=>none) else none else kr false else none else kr false else kr false else none else ko ()
def zc (n:Nat):Nat→(Sq BA)→Int→Option (Lx (Unit) (Bool))
 | 0,_,_=>none
 | m+1,l,i=>Ti n l i (zc n m) (fun a=>some (.out a)) (fun a=>some (.ret a)) (fun p=>some (.pan p))
theorem DC (n m:Nat) {S:Type}:∀ l i (φ:_→Option S),(zc n (m+1) l i).bind φ=Ti n l i (fun l i=>(zc n m l i).bind φ) (fun a=>φ (.out a)) (fun a=>φ (.ret a)) (fun p=>φ (.pan p)):=by
  intros;first | (simp only [zc,Ti,ia,ba,iB,bB,oL,oX,nB,Option.bind_some]) | rfl
def di:List Sl:=.top::.top::.top::.dat (.sl .str)::.dat (.int .i64)::tp 70 []
def ci:List RS:=[]
def ar:List Sl:=tp 75 []
def Zq:List RS:=[]
def dr:List Sl:=.top::.top::.dat .bool::tp 72 []
def br:List RS:=[]
def ac (K:XE→List AV→la→Option Out):Lx (Unit) (Bool)→Option Out:=fun x=>dX x (fun a=>Zh ar Zq () () (K (.exit 0))) (fun a=>Zh dr br (a,()) () (K .ret)) (fun _=>none)
def Yq (n:Nat) {R:Type} (s:BA) (k:Bool→Option R):Option R:=if (decide ((s.size:Int)>(255:Int)))=true then k false else (Yo n s).bind fun v=>if v=true then k true else (Ht n s (46:Int)).bind fun v1=>(zc n n v1 (0:Int)).bind fun x_1=>dX x_1 (fun a_2=>k true) (fun a_3=>k a_3) (fun _=>none)
def Gk (n:Nat) (s:BA):Option Bool:=Yq n s some
theorem GJ (n:Nat) {S:Type}:∀ s (φ:_→Option S),(Gk n s).bind φ=Yq n s φ:=by
  intros;unfold Gk Yq;first | (simp only [ia,ba,iB,bB,oL,oX,nB,Option.bind_some]) | rfl
def jd (n:Nat):Hint Out:={ live:=fun c=>(cond (Nat.beq c 0) [(3,some (.sl .str)),(4,none)] (cond (Nat.beq c 2) [(3,some (.sl .str)),(4,none),(5,none),(6,none)] [])),run:=fun c=>(cond (Nat.beq c 0) (some (pq di ci fun σ ρ K=>(zc n n σ.1 σ.2.1).bind (ac K))) (cond (Nat.beq c 2) (some (pq fi ei fun σ ρ K=>(Ac n n σ.1 σ.2.1 σ.2.2.1 σ.2.2.2.1).bind (bc K))) none)),xm:=fun c q=>(cond (Nat.beq c 0&&Nat.beq (q.getD 1000000) 0&&q.isSome) (some []) (cond (Nat.beq c 2&&Nat.beq (q.getD 1000000) 2&&q.isSome) (some [(3,some (.sl .str)),(4,none)]) (cond (Nat.beq c 3&&q.isNone) (some [(2,none)]) (cond (Nat.beq c 1&&q.isNone) (some [(2,none)]) none)))) }
def cg (n:Nat) (K:XE→List AV→la→Option Out) (m:Nat) (l1:(Sq BA)) (i1:Int) (w:BA) (k0:Int):Option Out:=cf tys (fa Out (Ee n)) (jd n) n (Ba [1,1,1,1,0,1,0,0,1,0,0,1,1,1,0,0] (aa Tryz.f31)) 2 fi ei K m (l1,(i1,(w,(k0,())))) ()
theorem nq (n:Nat) (K:XE→List AV→la→Option Out):∀ (m:Nat) l1 i1 w k0,cg n K m l1 i1 w k0=(Ac n m l1 i1 w k0).bind (bc K)
  | 0,_,_,_,_=>by kernel_rfl
  | m+1,l1,i1,w,k0=>by
    have h1:cg n K (m+1) l1 i1 w k0=Ui n l1 i1 w k0 (cg n K m) (fun a=>bc K (.out a)) (fun a=>bc K (.ret a)) (fun p=>bc K (.pan p)):=by kernel_rfl
    have h2:cg n K m=fun l1 i1 w k0=>(Ac n m l1 i1 w k0).bind (bc K):=by
      repeat (refine funext fun _=>?_)
      exact nq n K m _ _ _ _
    rw [h1,h2];exact (EC n m _ _ _ _ (bc K)).symm
theorem sA (n:Nat):ie tys (fa Out (Ee n)) (jd n) n (Ba [1,1,1,1,0,1,0,0,1,0,0,1,1,1,0,0] (aa Tryz.f31)) 2:=La (sp:=fi) (rp:=ei) (by kernel_rfl) fun K σ ρ=>nq n K n σ.1 σ.2.1 σ.2.2.1 σ.2.2.2.1
def bg (n:Nat) (K:XE→List AV→la→Option Out) (m:Nat) (l:(Sq BA)) (i:Int):Option Out:=cf tys (fa Out (Ee n)) (jd n) n (Ba [1,1,1,1,0,1,0,0] (aa Tryz.f31)) 0 di ci K m (l,(i,())) ()
theorem mq (n:Nat) (K:XE→List AV→la→Option Out):∀ (m:Nat) l i,bg n K m l i=(zc n m l i).bind (ac K)
  | 0,_,_=>by kernel_rfl
  | m+1,l,i=>by
    have h1:bg n K (m+1) l i=Ti n l i (bg n K m) (fun a=>ac K (.out a)) (fun a=>ac K (.ret a)) (fun p=>ac K (.pan p)):=by kernel_rfl
    have h2:bg n K m=fun l i=>(zc n m l i).bind (ac K):=by
      repeat (refine funext fun _=>?_)
      exact mq n K m _ _
    rw [h1,h2];exact (DC n m _ _ (ac K)).symm
theorem rA (n:Nat):ie tys (fa Out (Ee n)) (jd n) n (Ba [1,1,1,1,0,1,0,0] (aa Tryz.f31)) 0:=La (sp:=di) (rp:=ci) (by kernel_rfl) fun K σ ρ=>mq n K n σ.1 σ.2.1
theorem FC (n:Nat):ta tys (fa Out (Ee n)) (jd n) n (aa Tryz.f31) 0:=⟨trivial,⟨⟨trivial,⟨⟨trivial,trivial⟩,trivial⟩⟩,⟨⟨trivial,⟨⟨trivial,trivial⟩,trivial⟩⟩,⟨trivial,⟨⟨trivial,⟨rA n,⟨⟨trivial,⟨trivial,trivial⟩⟩,⟨⟨trivial,⟨⟨trivial,⟨⟨trivial,trivial⟩,trivial⟩⟩,⟨trivial,⟨sA n,⟨⟨trivial,⟨trivial,trivial⟩⟩,⟨⟨trivial,⟨⟨trivial,trivial⟩,trivial⟩⟩,trivial⟩⟩⟩⟩⟩⟩,trivial⟩⟩⟩⟩,⟨trivial,trivial⟩⟩⟩⟩⟩⟩
theorem TE (n:Nat):Enters Tryz.prog 31:=enters_of (c:=aa Tryz.f31) Tryz.func31 (by kernel_rfl) (by kernel_rfl)
def dx (n:Nat):Entry:=⟨31,jX (.pair .str .unit) (.one .bool) (fun xs=>Gk n xs.1),none,none⟩
theorem uH (n:Nat):EntryOk Tryz.prog gl (dx n):=Aa (TE n) fun xs y h=>ma tys_ok (oq n) mixed (hint:=jd n) (n:=n) Tryz.func31 (Ea (FC n)) (na (φ:=(fun y=>some (Out.ret (Qb (.one .bool) y)))) (by kernel_rfl) (GJ n xs.1 _) h)
def Vi (n:Nat):List Entry:=dx n::Ee n
theorem tA (n:Nat):AllOk Tryz.prog gl (Vi n):=.cons (uH n) (oq n)
end
end Go.Proofs.YtddefjokgaajfaaGreatDoor.AM
