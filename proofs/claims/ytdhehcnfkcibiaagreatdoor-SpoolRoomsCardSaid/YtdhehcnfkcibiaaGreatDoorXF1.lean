/- Typed functions that tell what the Go functions of this seat answer, and proofs of it, by program (gen.py). -/
import Derived.Test.YtdhehcnfkcibiaaGreatDoorXF0
set_option linter.all false
set_option linter.unusedVariables false
set_option linter.unusedSimpArgs false
set_option maxRecDepth 1000000
set_option maxHeartbeats 0
namespace Go.Proofs.YtdhehcnfkcibiaaGreatDoor.AM
open Go Go.RowKit
noncomputable section
def vp (n:Nat) {R:Type} (s1:BA) (t5 t6:Int) (kn:BA→Int→Int→Option R) (ko:(BA)→Option R) (kr:(Bool)→Option R) (kp:Int→Option R):Option R:=if (decide (t6<t5))=true then if 0≤t6∧t6<(s1.size:Int) then (iJ n (bt s1 t6)).bind fun v=>if (!v)=true then if 0≤t6∧t6<(s1.size:Int) then if ((bt s1 t6) !=(45:Int))=false then if (t6==(0:Int))=false then if (t6==(IntKind.wrap .i64 ((s1.size:Int) - (1:Int))))=true then kr false else kn s1 t5 (IntKind.wrap .i64 (t6+(1:Int))) else kr false else kr false else none else kn s1 t5 (IntKind.wrap .i64 (t6+(1:Int))) else none else ko s1
def Ef (n:Nat):Nat→BA→Int→Int→Option (Lx (BA) (Bool))
 | 0,_,_,_=>none
 | m+1,s1,t5,t6=>vp n s1 t5 t6 (Ef n m) (fun a=>some (.out a)) (fun a=>some (.ret a)) (fun p=>some (.pan p))
theorem kY (n m:Nat) {S:Type}:∀ s1 t5 t6 (φ:_→Option S),(Ef n (m+1) s1 t5 t6).bind φ=vp n s1 t5 t6 (fun s1 t5 t6=>(Ef n m s1 t5 t6).bind φ) (fun a=>φ (.out a)) (fun a=>φ (.ret a)) (fun p=>φ (.pan p)):=by
  intros;first | (simp only [Ef,vp,fa,ba,iB,bB,oL,oX,nB,Option.bind_some]) | rfl
def iy:List Sl:=.dat .str::tp 4 (.dat (.int .i64)::.dat (.int .i64)::tp 33 [])
def gy:List RS:=[]
def KK:List Sl:=.dat .str::tp 39 []
def JK:List RS:=[]
def MK:List Sl:=.top::.top::.dat .bool::tp 37 []
def LK:List RS:=[]
def Zh (K:XE→List AV→ia→Option Out):Lx (BA) (Bool)→Option Out:=fun x=>onL x (fun a=>Ye KK JK (a,()) () (K (.exit 0))) (fun a=>Ye MK LK (a,()) () (K .ret)) (fun _=>none)
def bG (n:Nat) {R:Type} (s:BA) (k:Bool→Option R):Option R:=(Ef n n s (s.size:Int) (0:Int)).bind fun x_1=>onL x_1 (fun a_2=>if (decide ((a_2.size:Int)≥(1:Int)))=true then k (decide ((a_2.size:Int)≤(63:Int))) else k false) (fun a_3=>k a_3) (fun _=>none)
def yw (n:Nat) (s:BA):Option Bool:=bG n s some
theorem zab (n:Nat) {S:Type}:∀ s (φ:_→Option S),(yw n s).bind φ=bG n s φ:=by
  intros;unfold yw bG;first | (simp only [fa,ba,iB,bB,oL,oX,nB,Option.bind_some]) | rfl
def ct (n:Nat):Hint Out:={ live:=fun c=>(cond (Nat.beq c 0) (lv [0,5,6]) []),run:=fun c=>(cond (Nat.beq c 0) (some (Zl iy gy fun σ ρ K=>(Ef n n σ.1 σ.2.1 σ.2.2.1).bind (Zh K))) none),xm:=fun c q=>(cond (Nat.beq c 0&&Nat.beq (q.getD 1000000) 0&&q.isSome) (some [(0,none)]) (cond (Nat.beq c 1&&q.isNone) (some [(2,none)]) none)) }
def Zs (n:Nat) (K:XE→List AV→ia→Option Out) (m:Nat) (s1:BA) (t5:Int) (t6:Int):Option Out:=rd tys (da Out (vn n)) (ct n) n (ta [1,0,1,0,0] (aa Tryz.f154)) 0 iy gy K m (s1,(t5,(t6,()))) ()
theorem IK (n:Nat) (K:XE→List AV→ia→Option Out):∀ (m:Nat) s1 t5 t6,Zs n K m s1 t5 t6=(Ef n m s1 t5 t6).bind (Zh K)
  | 0,_,_,_=>by kernel_rfl
  | m+1,s1,t5,t6=>by
    have h1:Zs n K (m+1) s1 t5 t6=vp n s1 t5 t6 (Zs n K m) (fun a=>Zh K (.out a)) (fun a=>Zh K (.ret a)) (fun p=>Zh K (.pan p)):=by kernel_rfl
    have h2:Zs n K m=fun s1 t5 t6=>(Ef n m s1 t5 t6).bind (Zh K):=by
      repeat (refine funext fun _=>?_)
      exact IK n K m _ _ _
    rw [h1,h2];exact (kY n m _ _ _ (Zh K)).symm
theorem wV (n:Nat):Vc tys (da Out (vn n)) (ct n) n (ta [1,0,1,0,0] (aa Tryz.f154)) 0:=Ca (sp:=iy) (rp:=gy) (by kernel_rfl) fun K σ ρ=>IK n K n σ.1 σ.2.1 σ.2.2.1
theorem lY (n:Nat):qa tys (da Out (vn n)) (ct n) n (aa Tryz.f154) 0:=⟨trivial,⟨⟨trivial,⟨wV n,⟨trivial,⟨⟨trivial,trivial⟩,⟨⟨trivial,⟨trivial,⟨⟨trivial,trivial⟩,trivial⟩⟩⟩,trivial⟩⟩⟩⟩⟩,⟨trivial,trivial⟩⟩⟩
theorem H1 (n:Nat):Enters Tryz.prog 154:=enters_of (c:=aa Tryz.f154) Tryz.func154 (by kernel_rfl) (by kernel_rfl)
def BS (n:Nat):Entry:=⟨154,pcT (.pair .str .unit) (.one .bool) (fun xs=>yw n xs.1),none,none⟩
theorem DS (n:Nat):EntryOk Tryz.prog gl (BS n):=wa (H1 n) fun xs y h=>ja tys_ok (DC n) mixed (hint:=ct n) (n:=n) Tryz.func154 (Ea (lY n)) (ma (φ:=(fun y=>some (Out.ret (Uc (.one .bool) y)))) (by kernel_rfl) (zab n xs.1 _) h)
def CS (n:Nat):List Entry:=BS n::vn n
theorem xV (n:Nat):AllOk Tryz.prog gl (CS n):=.cons (DS n) (DC n)
def Lj (n:Nat) (s:BA):Option Bool:=(qg n s).bind fun b=>if b=true then (Xh n s ⟨#[93]⟩).bind fun c=>if c=true then (if 2≤(s.size:Int)∧(s.size:Int)≤9223372036854775807 then xp n (s.extract 1 (s.size - 1)) else none) else some false else Dom.domT (fun x=>zq n x Dom.dot) (yw n) n s
theorem sV:Tryz.prog.funcs[103]?=some Tryz.f103:=by kernel_rfl
theorem tV (n:Nat):EntryOk Tryz.prog gl ⟨103,pcT (.pair .str .unit) (.one .bool) (fun xs=>Lj n xs.1),none,none⟩:=wa (enters_of (c:=aa Tryz.f103) sV (by kernel_rfl) (by kernel_rfl)) fun xs y h=>by
  refine dS (args:=[.string xs.1]) (v:=.bool y) (fun w0 hg hn=>?_)
  have hlit:∀ b,qg n xs.1=some b→∀ (w:World),Below w0.heap.size w0 w→Calls Tryz.prog 150 #[.string xs.1] w fun e w'=>e=.returned (.bool b)∧Below w.heap.size w w':=fun b hb' w hb=>
    xL (UD n) (args:=[.string xs.1]) (v:=.bool b) (by show (qg n xs.1).bind _=_;rw [hb'];rfl) hg hn hb
  have hsuf:∀ b,Xh n xs.1 ⟨#[93]⟩=some b→∀ (w:World),Below w0.heap.size w0 w→Calls Tryz.prog 151 #[.string xs.1,.string ⟨#[93]⟩] w fun e w'=>e=.returned (.bool b)∧Below w.heap.size w w':=fun b hb' w hb=>
    xL (QF n) (args:=[.string xs.1,.string ⟨#[93]⟩]) (v:=.bool b) (by show (Xh n xs.1 ⟨#[93]⟩).bind _=_;rw [hb'];rfl) hg hn hb
  unfold Lj at h
  obtain ⟨b,hb,h⟩:=Option.bind_eq_some_iff.1 h
  cases b with
  | true=>
    rw [if_pos rfl] at h
    obtain ⟨c,hc,h⟩:=Option.bind_eq_some_iff.1 h
    refine Dom.dom2 xs.1 c y w0 (hlit true hb) (hsuf c hc) (fun hc'=>?_) (fun hc'=>?_)
    · rw [if_pos hc'] at h
      split at h
      · rename_i hsz
        exact ⟨hsz,fun w hbw=>xL (OK n) (args:=[.string (xs.1.extract 1 (xs.1.size - 1))]) (v:=.bool y) (by show (xp n (xs.1.extract 1 (xs.1.size - 1))).bind _=_;rw [h];rfl) hg hn hbw⟩
      · cases h
    · rw [if_neg (by rw [hc'];simp)] at h
      exact (Option.some.inj h).symm
  | false=>
    rw [if_neg (by simp)] at h
    exact Dom.dom1 _ _ n xs.1 y w0 (fun x i w hbw hx=>xL (VU n) (args:=[.string x,.string Dom.dot]) (v:=.int .i64 i) (by show (zq n x Dom.dot).bind _=_;rw [hx];rfl) hg hn hbw)
      (fun x i w hbw hx=>xL (DS n) (args:=[.string x]) (v:=.bool i) (by show (yw n x).bind _=_;rw [hx];rfl) hg hn hbw) (hlit false hb) h
def fy (n:Nat):List Entry:=⟨103,pcT (.pair .str .unit) (.one .bool) (fun xs=>Lj n xs.1),none,none⟩::CS n
theorem pp (n:Nat):AllOk Tryz.prog gl (fy n):=.cons (tV n) (xV n)
def Cq (n:Nat) {R:Type} (s:BA) (k:U2→Option R) (kp:Int→Option R):Option R:=(xn n s).bind fun x_1=>onX x_1 (fun p=>kp p) (fun v=>if (decide ((v.1.size:Int)≤(64:Int)))=true then (Ee n v.2.1 (⟨#[64]⟩:BA)).bind fun v1=>(Xc n v1).bind fun x_2=>onX x_2 (fun p1=>kp p1) (fun v2=>if 0≤(1:Int)∧(1:Int)≤(v.2.1.size:Int) then (Bw n (v.2.1.extract (Int.toNat (1:Int)) (Int.toNat (v.2.1.size:Int)))).bind fun v3=>(Lj n v3).bind fun v4=>(Xc n v4).bind fun x_3=>onX x_3 (fun p2=>kp p2) (fun v5=>k (v.1,(v3,()))) else none) else (Xc n false).bind fun x_4=>onX x_4 (fun p3=>kp p3) (fun v6=>if 0≤(1:Int)∧(1:Int)≤(v.2.1.size:Int) then (Bw n (v.2.1.extract (Int.toNat (1:Int)) (Int.toNat (v.2.1.size:Int)))).bind fun v7=>(Lj n v7).bind fun v8=>(Xc n v8).bind fun x_5=>onX x_5 (fun p4=>kp p4) (fun v9=>k (v.1,(v7,()))) else none))
def uu (n:Nat) (s:BA):Option (Except Int U2):=Cq n s (fun y=>some (.ok y)) (fun p=>some (.error p))
theorem X1 (n:Nat) {S:Type}:∀ s (φ:_→Option S),(uu n s).bind φ=Cq n s (fun y=>φ (.ok y)) (fun p=>φ (.error p)):=by
  intros;unfold uu Cq;first | (simp only [fa,ba,iB,bB,oL,oX,nB,Option.bind_some]) | rfl
def ZD (n:Nat):Hint Out:={ live:=fun c=>[],run:=fun c=>none,xm:=fun c q=>none }
theorem jQ (n:Nat):qa tys (da Out (fy n)) (ZD n) n (aa Tryz.f216) 0:=oa (fun _=>rfl) _ _ (by kernel_rfl)
theorem H6 (n:Nat):Enters Tryz.prog 216:=enters_of (c:=aa Tryz.f216) Tryz.func216 (by kernel_rfl) (by kernel_rfl)
def pX (n:Nat):Entry:=⟨216,pcX 244 (.pair .str .unit) (.one (.pair .str (.pair .str .unit))) (fun xs=>uu n xs.1),none,none⟩
theorem Dab (n:Nat):EntryOk Tryz.prog gl (pX n):=L9 (H6 n) (fun xs y h=>ja tys_ok (pp n) mixed (hint:=ZD n) (n:=n) Tryz.func216 (Ea (jQ n)) (ma (φ:=(fun r=>onX r (fun p=>some (Out.pan (aG 244 p))) fun y=>some (Out.ret (Uc (.one (.pair .str (.pair .str .unit))) y)))) (by kernel_rfl) (X1 n xs.1 _) h)) (fun xs p h=>ja tys_ok (pp n) mixed (hint:=ZD n) (n:=n) Tryz.func216 (Ea (jQ n)) (ma (φ:=(fun r=>onX r (fun p=>some (Out.pan (aG 244 p))) fun y=>some (Out.ret (Uc (.one (.pair .str (.pair .str .unit))) y)))) (by kernel_rfl) (X1 n xs.1 _) h))
def fu (n:Nat):List Entry:=pX n::fy n
theorem aL (n:Nat):AllOk Tryz.prog gl (fu n):=.cons (Dab n) (pp n)
def eu (n:Nat) {R:Type} (s:BA) (k:(U2×Int×Unit)→Option R):Option R:=(uu n s).bind fun x_1=>onX x_1 (fun p=>k (((⟨#[]⟩:BA),((⟨#[]⟩:BA),())),(p,()))) (fun v=>k ((v.1,(v.2.1,())),((0:Int),())))
def xw (n:Nat) (s:BA):Option (U2×Int×Unit):=eu n s some
theorem xab (n:Nat) {S:Type}:∀ s (φ:_→Option S),(xw n s).bind φ=eu n s φ:=by
  intros;unfold xw eu;first | (simp only [fa,ba,iB,bB,oL,oX,nB,Option.bind_some]) | rfl
def Ys (n:Nat):Hint Out:={ live:=fun c=>[],run:=fun c=>none,xm:=fun c q=>none,pm:=some [(2,none),(3,none)] }
theorem jY (n:Nat):qa tys (da Out (fu n)) (Ys n) n (ta [0] (aa Tryz.f174)) 0∧qa tys (da Out (fu n)) (Ys n) n (ta [1,1] (aa Tryz.f174)) 0:=⟨trivial,⟨trivial,trivial⟩⟩
theorem F1 (n:Nat):Enters Tryz.prog 174:=enters_of (c:=aa Tryz.f174) Tryz.func174 (by kernel_rfl) (by kernel_rfl)
theorem eQ:Tryz.prog.funcs[215]?=some Tryz.f215:=by kernel_rfl
theorem iY:Enters Tryz.prog 215:=enters_of (c:=aa Tryz.f215) eQ (by kernel_rfl) (by kernel_rfl)
theorem vV (n:Nat):qa tys (da Out (fu n)) F3 n (ta [1] (aa Tryz.f215)) 0:=⟨⟨trivial,⟨trivial,trivial⟩⟩,⟨trivial,⟨⟨trivial,⟨trivial,trivial⟩⟩,trivial⟩⟩⟩
theorem wab (n:Nat) (s:BA):fnD tys (da Out (fu n)) (Ys n) n 215 Tryz.f215 Tryz.f174 (Gbb (.pair .str .unit) (s,())) (vbb fun v=>some (.ret v))=eu n s (fun y=>some (.ret (Uc (.many (.pair (.pair .str (.pair .str .unit)) (.pair (.int .i64) .unit))) y))):=by kernel_rfl
def AS (n:Nat):Entry:=⟨174,pcT (.pair .str .unit) (.many (.pair (.pair .str (.pair .str .unit)) (.pair (.int .i64) .unit))) (fun xs=>xw n xs.1),none,none⟩
theorem B6 (n:Nat):EntryOk Tryz.prog gl (AS n):=wa (F1 n) fun xs y h=>Hab tys_ok (aL n) mixed (hint:=Ys n) (n:=n) (fn:=Tryz.f174) (f2:=Tryz.f215) Tryz.func174 eQ iY (rmb (jY n)) (nkb (vV n)) (ma (φ:=(fun y=>some (Out.ret (Uc (.many (.pair (.pair .str (.pair .str .unit)) (.pair (.int .i64) .unit))) y)))) (wab n xs.1) (xab n xs.1 _) h)
def cJ (n:Nat):List Entry:=AS n::fu n
theorem iI (n:Nat):AllOk Tryz.prog gl (cJ n):=.cons (B6 n) (aL n)
def cS (n:Nat) {R:Type} (m0:U2) (k:Bool→Option R):Option R:=(kX n (m0.1,(m0.2.1,()))).bind fun v=>(xw n v).bind fun v1=>if (v1.2.1==(0:Int))=true then k ((v1.1.1.toList==m0.1.toList)&&((v1.1.2.1.toList==m0.2.1.toList)&&true)) else k false
def xS (n:Nat) (m0:U2):Option Bool:=cS n m0 some
theorem feb (n:Nat) {S:Type}:∀ m0 (φ:_→Option S),(xS n m0).bind φ=cS n m0 φ:=by
  intros;unfold xS cS;first | (simp only [fa,ba,iB,bB,oL,oX,nB,Option.bind_some]) | rfl
def zS (n:Nat):Hint Out:={ live:=fun c=>[],run:=fun c=>none,xm:=fun c q=>none }
theorem A6 (n:Nat):qa tys (da Out (cJ n)) (zS n) n (aa Tryz.f130) 0:=oa (fun _=>rfl) _ _ (by kernel_rfl)
theorem vab (n:Nat):Enters Tryz.prog 130:=enters_of (c:=aa Tryz.f130) Tryz.func130 (by kernel_rfl) (by kernel_rfl)
def D1 (n:Nat):Entry:=⟨130,pcT (.pair (.pair .str (.pair .str .unit)) .unit) (.one .bool) (fun xs=>xS n xs.1),none,none⟩
theorem Zbb (n:Nat):EntryOk Tryz.prog gl (D1 n):=wa (vab n) fun xs y h=>ja tys_ok (iI n) mixed (hint:=zS n) (n:=n) Tryz.func130 (Ea (A6 n)) (ma (φ:=(fun y=>some (Out.ret (Uc (.one .bool) y)))) (by kernel_rfl) (feb n xs.1 _) h)
def yS (n:Nat):List Entry:=D1 n::cJ n
theorem dQ (n:Nat):AllOk Tryz.prog gl (yS n):=.cons (Zbb n) (iI n)
def KB (n:Nat) {R:Type} (r:T0) (k:Bool→Option R):Option R:=(xS n (r.1.1,(r.1.2.1,()))).bind fun v=>if v=true then (Zd n r.2.1 (0:Int) (4:Int)).bind fun v1=>if v1=true then (Zd n r.2.2.1 (0:Int) (1048576:Int)).bind fun v2=>if v2=true then (Zd n r.2.2.2.1 (0:Int) (2199023255552:Int)).bind fun v3=>if v3=true then (Zd n r.2.2.2.2.1 (0:Int) (599:Int)).bind fun v4=>k v4 else k false else k false else k false else k false
def sA (n:Nat) (r:T0):Option Bool:=KB n r some
theorem n7 (n:Nat) {S:Type}:∀ r (φ:_→Option S),(sA n r).bind φ=KB n r φ:=by
  intros;unfold sA KB;first | (simp only [fa,ba,iB,bB,oL,oX,nB,Option.bind_some]) | rfl
def AI (n:Nat):Hint Out:={ live:=fun c=>[],run:=fun c=>none,xm:=fun c q=>none }
theorem YV (n:Nat):qa tys (da Out (yS n)) (AI n) n (aa Tryz.f171) 0:=oa (fun _=>rfl) _ _ (by kernel_rfl)
theorem VY (n:Nat):Enters Tryz.prog 171:=enters_of (c:=aa Tryz.f171) Tryz.func171 (by kernel_rfl) (by kernel_rfl)
def qQ (n:Nat):Entry:=⟨171,pcT K14 (.one .bool) (fun xs=>sA n xs.1),none,none⟩
theorem Y3 (n:Nat):EntryOk Tryz.prog gl (qQ n):=wa (VY n) fun xs y h=>ja tys_ok (dQ n) mixed (hint:=AI n) (n:=n) Tryz.func171 (Ea (YV n)) (ma (φ:=(fun y=>some (Out.ret (Uc (.one .bool) y)))) (by kernel_rfl) (n7 n xs.1 _) h)
def Lq (n:Nat):List Entry:=qQ n::yS n
theorem uE (n:Nat):AllOk Tryz.prog gl (Lq n):=.cons (Y3 n) (dQ n)
def Uk (n:Nat) {R:Type} (l1 t7:(Sq T0)) (t8 t9:Int) (seen:(Sq U2)) (kn:(Sq T0)→(Sq T0)→Int→Int→(Sq U2)→Option R) (ko:((Sq T0))→Option R) (kr:(Bool)→Option R) (kp:Int→Option R):Option R:=if (decide (t9<t8))=true then if 0≤t9∧t9<(t7.n:Int) then (sA n (((((t7.at' (Int.toNat t9))).1).1,(((((t7.at' (Int.toNat t9))).1).2).1,())),((((t7.at' (Int.toNat t9))).2).1,(((((t7.at' (Int.toNat t9))).2).2).1,((((((t7.at' (Int.toNat t9))).2).2).2).1,(((((((t7.at' (Int.toNat t9))).2).2).2).2).1,())))))).bind fun v=>if (!v)=false then if rh (.pair .str (.pair .str .unit)) ((((t7.at' (Int.toNat t9))).1).1,(((((t7.at' (Int.toNat t9))).1).2).1,()))=true then if (AX (.pair .str (.pair .str .unit)) seen ((((t7.at' (Int.toNat t9))).1).1,(((((t7.at' (Int.toNat t9))).1).2).1,())))=true then kr false else if rh (.pair .str (.pair .str .unit)) ((((t7.at' (Int.toNat t9))).1).1,(((((t7.at' (Int.toNat t9))).1).2).1,()))=true then kn l1 t7 t8 (IntKind.wrap .i64 (t9+(1:Int))) (KX (.pair .str (.pair .str .unit)) seen ((((t7.at' (Int.toNat t9))).1).1,(((((t7.at' (Int.toNat t9))).1).2).1,()))) else none else none else kr false else none else ko l1
def wd (n:Nat):Nat→(Sq T0)→(Sq T0)→Int→Int→(Sq U2)→Option (Lx ((Sq T0)) (Bool))
 | 0,_,_,_,_,_=>none
 | m+1,l1,t7,t8,t9,seen=>Uk n l1 t7 t8 t9 seen (wd n m) (fun a=>some (.out a)) (fun a=>some (.ret a)) (fun p=>some (.pan p))
theorem ET (n m:Nat) {S:Type}:∀ l1 t7 t8 t9 seen (φ:_→Option S),(wd n (m+1) l1 t7 t8 t9 seen).bind φ=Uk n l1 t7 t8 t9 seen (fun l1 t7 t8 t9 seen=>(wd n m l1 t7 t8 t9 seen).bind φ) (fun a=>φ (.out a)) (fun a=>φ (.ret a)) (fun p=>φ (.pan p)):=by
  intros;first | (simp only [wd,Uk,fa,ba,iB,bB,oL,oX,nB,Option.bind_some]) | rfl
def Jr:List Sl:=.dat (.sl K0)::.top::.top::.mp 0::.top::.top::.top::.dat (.sl K0)::.dat (.int .i64)::.dat (.int .i64)::tp 19 []
def Ir:List RS:=[.set 195 (.pair .str (.pair .str .unit))]
def ZG:List Sl:=.dat (.sl K0)::tp 28 []
def YG:List RS:=[]
def bH:List Sl:=.top::.top::.dat .bool::tp 26 []
def aH:List RS:=[]
def Jf (K:XE→List AV→ia→Option Out):Lx ((Sq T0)) (Bool)→Option Out:=fun x=>onL x (fun a=>Ye ZG YG (a,()) () (K (.exit 0))) (fun a=>Ye bH aH (a,()) () (K .ret)) (fun _=>none)
def Tw (n:Nat) {R:Type} (l:(Sq T0)) (k:Bool→Option R):Option R:=(wd n n l l (l.n:Int) (0:Int) (⟨0,fun _=>Ba (.pair .str (.pair .str .unit))⟩:Sq U2)).bind fun x_1=>onL x_1 (fun a_2=>(Zd n (a_2.n:Int) (1:Int) (8:Int)).bind fun v1=>k v1) (fun a_3=>k a_3) (fun _=>none)
def ju (n:Nat) (l:(Sq T0)):Option Bool:=Tw n l some
theorem Z3 (n:Nat) {S:Type}:∀ l (φ:_→Option S),(ju n l).bind φ=Tw n l φ:=by
  intros;unfold ju Tw;first | (simp only [fa,ba,iB,bB,oL,oX,nB,Option.bind_some]) | rfl
def Qn (n:Nat):Hint Out:={ live:=fun c=>(cond (Nat.beq c 0) [(0,some (.sl K0)),(3,none),(7,some (.sl K0)),(8,none),(9,none)] []),run:=fun c=>(cond (Nat.beq c 0) (some (Zl Jr Ir fun σ ρ K=>(wd n n σ.1 σ.2.1 σ.2.2.1 σ.2.2.2.1 ρ.1).bind (Jf K))) none),xm:=fun c q=>(cond (Nat.beq c 0&&Nat.beq (q.getD 1000000) 0&&q.isSome) (some [(0,some (.sl K0))]) (cond (Nat.beq c 1&&q.isNone) (some [(2,none)]) none)) }
def Pn (n:Nat) (K:XE→List AV→ia→Option Out) (m:Nat) (l1:(Sq T0)) (t7:(Sq T0)) (t8:Int) (t9:Int) (seen:(Sq U2)):Option Out:=rd tys (da Out (Lq n)) (Qn n) n (ta [1,1,0,1,0,0] (aa Tryz.f128)) 0 Jr Ir K m (l1,(t7,(t8,(t9,())))) (seen,())
theorem vE (n:Nat) (K:XE→List AV→ia→Option Out):∀ (m:Nat) l1 t7 t8 t9 seen,Pn n K m l1 t7 t8 t9 seen=(wd n m l1 t7 t8 t9 seen).bind (Jf K)
  | 0,_,_,_,_,_=>by kernel_rfl
  | m+1,l1,t7,t8,t9,seen=>by
    have h1:Pn n K (m+1) l1 t7 t8 t9 seen=Uk n l1 t7 t8 t9 seen (Pn n K m) (fun a=>Jf K (.out a)) (fun a=>Jf K (.ret a)) (fun p=>Jf K (.pan p)):=by kernel_rfl
    have h2:Pn n K m=fun l1 t7 t8 t9 seen=>(wd n m l1 t7 t8 t9 seen).bind (Jf K):=by
      repeat (refine funext fun _=>?_)
      exact vE n K m _ _ _ _ _
    rw [h1,h2];exact (ET n m _ _ _ _ _ (Jf K)).symm
theorem dR (n:Nat):Vc tys (da Out (Lq n)) (Qn n) n (ta [1,1,0,1,0,0] (aa Tryz.f128)) 0:=Ca (sp:=Jr) (rp:=Ir) (by kernel_rfl) fun K σ ρ=>vE n K n σ.1 σ.2.1 σ.2.2.1 σ.2.2.2.1 ρ.1
theorem FT (n:Nat):qa tys (da Out (Lq n)) (Qn n) n (aa Tryz.f128) 0:=⟨trivial,⟨trivial,⟨⟨trivial,⟨dR n,⟨trivial,⟨⟨trivial,trivial⟩,⟨⟨trivial,⟨⟨trivial,⟨⟨trivial,trivial⟩,trivial⟩⟩,trivial⟩⟩,trivial⟩⟩⟩⟩⟩,⟨trivial,trivial⟩⟩⟩⟩
theorem ZV (n:Nat):Enters Tryz.prog 128:=enters_of (c:=aa Tryz.f128) Tryz.func128 (by kernel_rfl) (by kernel_rfl)
def ML (n:Nat):Entry:=⟨128,pcT K15 (.one .bool) (fun xs=>ju n xs.1),none,none⟩
theorem WY (n:Nat):EntryOk Tryz.prog gl (ML n):=wa (ZV n) fun xs y h=>ja tys_ok (uE n) mixed (hint:=Qn n) (n:=n) Tryz.func128 (Ea (FT n)) (ma (φ:=(fun y=>some (Out.ret (Uc (.one .bool) y)))) (by kernel_rfl) (Z3 n xs.1 _) h)
def MB (n:Nat):List Entry:=ML n::Lq n
theorem VC (n:Nat):AllOk Tryz.prog gl (MB n):=.cons (WY n) (uE n)
def DL (n:Nat) {R:Type} (s sep:BA) (k:(BA×BA×Bool×Unit)→Option R):Option R:=(uI s sep).bind fun v=>if (decide (v≥(0:Int)))=true then if 0≤v∧v≤(s.size:Int) then if 0≤(IntKind.wrap .i64 (v+(sep.size:Int)))∧(IntKind.wrap .i64 (v+(sep.size:Int)))≤(s.size:Int) then k ((s.extract (Int.toNat (0:Int)) (Int.toNat v)),((s.extract (Int.toNat (IntKind.wrap .i64 (v+(sep.size:Int)))) (Int.toNat (s.size:Int))),(true,()))) else none else none else k (s,((⟨#[]⟩:BA),(false,())))
def BX (n:Nat) (s sep:BA):Option (BA×BA×Bool×Unit):=DL n s sep some
theorem veb (n:Nat) {S:Type}:∀ s sep (φ:_→Option S),(BX n s sep).bind φ=DL n s sep φ:=by
  intros;unfold BX DL;first | (simp only [fa,ba,iB,bB,oL,oX,nB,Option.bind_some]) | rfl
def nT (n:Nat):Hint Out:={ live:=fun c=>[],run:=fun c=>none,xm:=fun c q=>none }
theorem b7 (n:Nat):qa tys (da Out (MB n)) (nT n) n (aa Tryz.f213) 0:=oa (fun _=>rfl) _ _ (by kernel_rfl)
theorem Rab (n:Nat):Enters Tryz.prog 213:=enters_of (c:=aa Tryz.f213) Tryz.func213 (by kernel_rfl) (by kernel_rfl)
def H3 (n:Nat):Entry:=⟨213,pcT (.pair .str (.pair .str .unit)) (.many (.pair .str (.pair .str (.pair .bool .unit)))) (fun xs=>BX n xs.1 xs.2.1),none,none⟩
theorem Icb (n:Nat):EntryOk Tryz.prog gl (H3 n):=wa (Rab n) fun xs y h=>ja tys_ok (VC n) mixed (hint:=nT n) (n:=n) Tryz.func213 (Ea (b7 n)) (ma (φ:=(fun y=>some (Out.ret (Uc (.many (.pair .str (.pair .str (.pair .bool .unit)))) y)))) (by kernel_rfl) (veb n xs.1 xs.2.1 _) h)
def mT (n:Nat):List Entry:=H3 n::MB n
theorem oQ (n:Nat):AllOk Tryz.prog gl (mT n):=.cons (Icb n) (VC n)
def GN (n:Nat) {R:Type} (s sep:BA) (k:(BA×BA×Bool×Unit)→Option R):Option R:=(BX n s sep).bind fun v=>k (v.1,(v.2.1,(v.2.2.1,())))
def GQ (n:Nat) (s sep:BA):Option (BA×BA×Bool×Unit):=GN n s sep some
theorem ifb (n:Nat) {S:Type}:∀ s sep (φ:_→Option S),(GQ n s sep).bind φ=GN n s sep φ:=by
  intros;unfold GQ GN;first | (simp only [fa,ba,iB,bB,oL,oX,nB,Option.bind_some]) | rfl
def RU (n:Nat):Hint Out:={ live:=fun c=>[],run:=fun c=>none,xm:=fun c q=>none }
theorem l8 (n:Nat):qa tys (da Out (mT n)) (RU n) n (aa Tryz.f172) 0:=oa (fun _=>rfl) _ _ (by kernel_rfl)
theorem ybb (n:Nat):Enters Tryz.prog 172:=enters_of (c:=aa Tryz.f172) Tryz.func172 (by kernel_rfl) (by kernel_rfl)
def M5 (n:Nat):Entry:=⟨172,pcT (.pair .str (.pair .str .unit)) (.many (.pair .str (.pair .str (.pair .bool .unit)))) (fun xs=>GQ n xs.1 xs.2.1),none,none⟩
theorem Edb (n:Nat):EntryOk Tryz.prog gl (M5 n):=wa (ybb n) fun xs y h=>ja tys_ok (oQ n) mixed (hint:=RU n) (n:=n) Tryz.func172 (Ea (l8 n)) (ma (φ:=(fun y=>some (Out.ret (Uc (.many (.pair .str (.pair .str (.pair .bool .unit)))) y)))) (by kernel_rfl) (ifb n xs.1 xs.2.1 _) h)
def N5 (n:Nat):List Entry:=M5 n::mT n
theorem O5 (n:Nat):AllOk Tryz.prog gl (N5 n):=.cons (Edb n) (oQ n)
def aq (n:Nat):List Entry:=⟨214,pcT (.pair .str (.pair .str .unit)) (.one .bool) (fun xs=>Mab xs.1 xs.2.1),none,none⟩::N5 n
theorem Ts (n:Nat):AllOk Tryz.prog gl (aq n):=.cons KV (O5 n)
def EB (n:Nat) {R:Type} (s:BA) (k:Bool→Option R):Option R:=if (decide ((s.size:Int)≤(509:Int)))=true then (Mab s (⟨#[13,10]⟩:BA)).bind fun v=>k (!v) else k false
def eA (n:Nat) (s:BA):Option Bool:=EB n s some
theorem V6 (n:Nat) {S:Type}:∀ s (φ:_→Option S),(eA n s).bind φ=EB n s φ:=by
  intros;unfold eA EB;first | (simp only [fa,ba,iB,bB,oL,oX,nB,Option.bind_some]) | rfl
def qI (n:Nat):Hint Out:={ live:=fun c=>[],run:=fun c=>none,xm:=fun c q=>none }
theorem LV (n:Nat):qa tys (da Out (aq n)) (qI n) n (aa Tryz.f173) 0:=oa (fun _=>rfl) _ _ (by kernel_rfl)
theorem FY (n:Nat):Enters Tryz.prog 173:=enters_of (c:=aa Tryz.f173) Tryz.func173 (by kernel_rfl) (by kernel_rfl)
def lQ (n:Nat):Entry:=⟨173,pcT (.pair .str .unit) (.one .bool) (fun xs=>eA n xs.1),none,none⟩
theorem R2 (n:Nat):EntryOk Tryz.prog gl (lQ n):=wa (FY n) fun xs y h=>ja tys_ok (Ts n) mixed (hint:=qI n) (n:=n) Tryz.func173 (Ea (LV n)) (ma (φ:=(fun y=>some (Out.ret (Uc (.one .bool) y)))) (by kernel_rfl) (V6 n xs.1 _) h)
def Gq (n:Nat):List Entry:=lQ n::aq n
theorem lE (n:Nat):AllOk Tryz.prog gl (Gq n):=.cons (R2 n) (Ts n)
def Du (n:Nat) {R:Type} (s1:BA) (kn:BA→Option R) (ko:(Unit)→Option R) (kr:(Bool)→Option R) (kp:Int→Option R):Option R:=if (!(s1.toList==(⟨#[]⟩:BA).toList))=true then (GQ n s1 (⟨#[13,10]⟩:BA)).bind fun v=>if (!v.2.2.1)=false then (eA n v.1).bind fun v1=>if (!v1)=true then kr false else kn v.2.1 else kr false else ko ()
def Hg (n:Nat):Nat→BA→Option (Lx (Unit) (Bool))
 | 0,_=>none
 | m+1,s1=>Du n s1 (Hg n m) (fun a=>some (.out a)) (fun a=>some (.ret a)) (fun p=>some (.pan p))
theorem GY (n m:Nat) {S:Type}:∀ s1 (φ:_→Option S),(Hg n (m+1) s1).bind φ=Du n s1 (fun s1=>(Hg n m s1).bind φ) (fun a=>φ (.out a)) (fun a=>φ (.ret a)) (fun p=>φ (.pan p)):=by
  intros;first | (simp only [Hg,Du,fa,ba,iB,bB,oL,oX,nB,Option.bind_some]) | rfl
def xy:List Sl:=.dat .str::tp 24 []
def wy:List RS:=[]
def uL:List Sl:=tp 25 []
def tL:List RS:=[]
def wL:List Sl:=.top::.top::.dat .bool::tp 22 []
def vL:List RS:=[]
def ei (K:XE→List AV→ia→Option Out):Lx (Unit) (Bool)→Option Out:=fun x=>onL x (fun a=>Ye uL tL () () (K (.exit 0))) (fun a=>Ye wL vL (a,()) () (K .ret)) (fun _=>none)
def iG (n:Nat) {R:Type} (s:BA) (k:Bool→Option R):Option R:=if (decide ((s.size:Int)>(8192:Int)))=true then k false else (Hg n n s).bind fun x_1=>onL x_1 (fun a_2=>k true) (fun a_3=>k a_3) (fun _=>none)
def FB (n:Nat) (s:BA):Option Bool:=iG n s some
theorem Oab (n:Nat) {S:Type}:∀ s (φ:_→Option S),(FB n s).bind φ=iG n s φ:=by
  intros;unfold FB iG;first | (simp only [fa,ba,iB,bB,oL,oX,nB,Option.bind_some]) | rfl
def vt (n:Nat):Hint Out:={ live:=fun c=>(cond (Nat.beq c 0) [(0,none)] []),run:=fun c=>(cond (Nat.beq c 0) (some (Zl xy wy fun σ ρ K=>(Hg n n σ.1).bind (ei K))) none),xm:=fun c q=>(cond (Nat.beq c 0&&Nat.beq (q.getD 1000000) 0&&q.isSome) (some []) (cond (Nat.beq c 1&&q.isNone) (some [(2,none)]) none)) }
def ut (n:Nat) (K:XE→List AV→ia→Option Out) (m:Nat) (s1:BA):Option Out:=rd tys (da Out (Gq n)) (vt n) n (ta [1,1,0,0,0] (aa Tryz.f129)) 0 xy wy K m (s1,()) ()
theorem sL (n:Nat) (K:XE→List AV→ia→Option Out):∀ (m:Nat) s1,ut n K m s1=(Hg n m s1).bind (ei K)
  | 0,_=>by kernel_rfl
  | m+1,s1=>by
    have h1:ut n K (m+1) s1=Du n s1 (ut n K m) (fun a=>ei K (.out a)) (fun a=>ei K (.ret a)) (fun p=>ei K (.pan p)):=by kernel_rfl
    have h2:ut n K m=fun s1=>(Hg n m s1).bind (ei K):=by
      repeat (refine funext fun _=>?_)
      exact sL n K m _
    rw [h1,h2];exact (GY n m _ (ei K)).symm
theorem MV (n:Nat):Vc tys (da Out (Gq n)) (vt n) n (ta [1,1,0,0,0] (aa Tryz.f129)) 0:=Ca (sp:=xy) (rp:=wy) (by kernel_rfl) fun K σ ρ=>sL n K n σ.1
theorem HY (n:Nat):qa tys (da Out (Gq n)) (vt n) n (aa Tryz.f129) 0:=⟨trivial,⟨⟨trivial,⟨⟨trivial,trivial⟩,trivial⟩⟩,⟨⟨MV n,⟨⟨trivial,⟨trivial,trivial⟩⟩,⟨trivial,⟨⟨trivial,⟨⟨trivial,trivial⟩,trivial⟩⟩,trivial⟩⟩⟩⟩,⟨trivial,trivial⟩⟩⟩⟩
theorem S2 (n:Nat):Enters Tryz.prog 129:=enters_of (c:=aa Tryz.f129) Tryz.func129 (by kernel_rfl) (by kernel_rfl)
def eT (n:Nat):Entry:=⟨129,pcT (.pair .str .unit) (.one .bool) (fun xs=>FB n xs.1),none,none⟩
theorem W6 (n:Nat):EntryOk Tryz.prog gl (eT n):=wa (S2 n) fun xs y h=>ja tys_ok (lE n) mixed (hint:=vt n) (n:=n) Tryz.func129 (Ea (HY n)) (ma (φ:=(fun y=>some (Out.ret (Uc (.one .bool) y)))) (by kernel_rfl) (Oab n xs.1 _) h)
def oJ (n:Nat):List Entry:=eT n::Gq n
theorem rI (n:Nat):AllOk Tryz.prog gl (oJ n):=.cons (W6 n) (lE n)
def nG (n:Nat) {R:Type} (m0:T1) (k:Bool→Option R):Option R:=(Zd n m0.1 (1:Int) (1099511627776:Int)).bind fun v=>if (!v)=false then (Zd n m0.2.1 (0:Int) (3:Int)).bind fun v1=>if (!v1)=false then (Zd n m0.2.2.2.2.2.2.1 (0:Int) (1099511627776:Int)).bind fun v2=>if (!v2)=false then (ju n m0.2.2.2.2.1).bind fun v3=>if (!v3)=true then k false else if m0.2.2.1=true then if ((m0.2.2.2.1.1.toList==(⟨#[]⟩:BA).toList)&&((m0.2.2.2.1.2.1.toList==(⟨#[]⟩:BA).toList)&&true))=true then (FB n m0.2.2.2.2.2.1).bind fun v4=>k v4 else k false else (xS n (m0.2.2.2.1.1,(m0.2.2.2.1.2.1,()))).bind fun v5=>if v5=true then (FB n m0.2.2.2.2.2.1).bind fun v6=>k v6 else k false else k false else k false else k false
def Sw (n:Nat) (m0:T1):Option Bool:=nG n m0 some
theorem Zab (n:Nat) {S:Type}:∀ m0 (φ:_→Option S),(Sw n m0).bind φ=nG n m0 φ:=by
  intros;unfold Sw nG;first | (simp only [fa,ba,iB,bB,oL,oX,nB,Option.bind_some]) | rfl
def JL (n:Nat):Hint Out:={ live:=fun c=>[],run:=fun c=>none,xm:=fun c q=>none }
theorem RY (n:Nat):qa tys (da Out (oJ n)) (JL n) n (aa Tryz.f91) 0:=oa (fun _=>rfl) _ _ (by kernel_rfl)
theorem S3 (n:Nat):Enters Tryz.prog 91:=enters_of (c:=aa Tryz.f91) Tryz.func91 (by kernel_rfl) (by kernel_rfl)
def vT (n:Nat):Entry:=⟨91,pcT K2 (.one .bool) (fun xs=>Sw n xs.1),none,none⟩
theorem j7 (n:Nat):EntryOk Tryz.prog gl (vT n):=wa (S3 n) fun xs y h=>ja tys_ok (rI n) mixed (hint:=JL n) (n:=n) Tryz.func91 (Ea (RY n)) (ma (φ:=(fun y=>some (Out.ret (Uc (.one .bool) y)))) (by kernel_rfl) (Zab n xs.1 _) h)
def Mu (n:Nat):List Entry:=vT n::oJ n
theorem xI (n:Nat):AllOk Tryz.prog gl (Mu n):=.cons (j7 n) (rI n)
def og (n:Nat) {R:Type} (n0:Int) (t6:(Sq T1)) (t7 t8:Int) (kn:Int→(Sq T1)→Int→Int→Option R) (ko:(Int)→Option R) (kr:Unit→Option R) (kp:Int→Option R):Option R:=if (decide (t8<t7))=true then if 0≤t8∧t8<(t6.n:Int) then if (!(((((t6.at' (Int.toNat t8))).2).2).1))=true then kn (IntKind.wrap .i64 (n0+(1:Int))) t6 t7 (IntKind.wrap .i64 (t8+(1:Int))) else kn n0 t6 t7 (IntKind.wrap .i64 (t8+(1:Int))) else none else ko n0
def Zb (n:Nat):Nat→Int→(Sq T1)→Int→Int→Option (Lx (Int) Unit)
 | 0,_,_,_,_=>none
 | m+1,n0,t6,t7,t8=>og n n0 t6 t7 t8 (Zb n m) (fun a=>some (.out a)) (fun a=>some (.ret a)) (fun p=>some (.pan p))
theorem AN (n m:Nat) {S:Type}:∀ n0 t6 t7 t8 (φ:_→Option S),(Zb n (m+1) n0 t6 t7 t8).bind φ=og n n0 t6 t7 t8 (fun n0 t6 t7 t8=>(Zb n m n0 t6 t7 t8).bind φ) (fun a=>φ (.out a)) (fun a=>φ (.ret a)) (fun p=>φ (.pan p)):=by
  intros;first | (simp only [Zb,og,fa,ba,iB,bB,oL,oX,nB,Option.bind_some]) | rfl
def Lm:List Sl:=.top::.top::.dat (.int .i64)::.top::.top::.top::.dat (.sl K1)::.dat (.int .i64)::.dat (.int .i64)::tp 10 []
def Km:List RS:=[]
def yC:List Sl:=.top::.top::.dat (.int .i64)::tp 16 []
def xC:List RS:=[]
def Ld (K:XE→List AV→ia→Option Out):Lx (Int) Unit→Option Out:=fun x=>onL x (fun a=>Ye yC xC (a,()) () (K (.exit 0))) (fun _=>none) (fun _=>none)
def Po (n:Nat) {R:Type} (s:U1) (k:Int→Option R):Option R:=(Zb n n (0:Int) s.2.1 (s.2.1.n:Int) (0:Int)).bind fun x_1=>onL x_1 (fun a_2=>k a_2) (fun _=>none) (fun _=>none)
def Ri (n:Nat) (s:U1):Option Int:=Po n s some
theorem PU (n:Nat) {S:Type}:∀ s (φ:_→Option S),(Ri n s).bind φ=Po n s φ:=by
  intros;unfold Ri Po;first | (simp only [fa,ba,iB,bB,oL,oX,nB,Option.bind_some]) | rfl
def Hj (n:Nat):Hint Out:={ live:=fun c=>(cond (Nat.beq c 0) [(2,none),(6,some (.sl K1)),(7,none),(8,none)] []),run:=fun c=>(cond (Nat.beq c 0) (some (Zl Lm Km fun σ ρ K=>(Zb n n σ.1 σ.2.1 σ.2.2.1 σ.2.2.2.1).bind (Ld K))) none),xm:=fun c q=>(cond (Nat.beq c 0&&Nat.beq (q.getD 1000000) 0&&q.isSome) (some [(2,none)]) none) }
def Gj (n:Nat) (K:XE→List AV→ia→Option Out) (m:Nat) (n0:Int) (t6:(Sq T1)) (t7:Int) (t8:Int):Option Out:=rd tys (da Out (Mu n)) (Hj n) n (ta [1,0,1,0,0] (aa Tryz.f102)) 0 Lm Km K m (n0,(t6,(t7,(t8,())))) ()
theorem Wx (n:Nat) (K:XE→List AV→ia→Option Out):∀ (m:Nat) n0 t6 t7 t8,Gj n K m n0 t6 t7 t8=(Zb n m n0 t6 t7 t8).bind (Ld K)
  | 0,_,_,_,_=>by kernel_rfl
  | m+1,n0,t6,t7,t8=>by
    have h1:Gj n K (m+1) n0 t6 t7 t8=og n n0 t6 t7 t8 (Gj n K m) (fun a=>Ld K (.out a)) (fun a=>Ld K (.ret a)) (fun p=>Ld K (.pan p)):=by kernel_rfl
    have h2:Gj n K m=fun n0 t6 t7 t8=>(Zb n m n0 t6 t7 t8).bind (Ld K):=by
      repeat (refine funext fun _=>?_)
      exact Wx n K m _ _ _ _
    rw [h1,h2];exact (AN n m _ _ _ _ (Ld K)).symm
theorem yK (n:Nat):Vc tys (da Out (Mu n)) (Hj n) n (ta [1,0,1,0,0] (aa Tryz.f102)) 0:=Ca (sp:=Lm) (rp:=Km) (by kernel_rfl) fun K σ ρ=>Wx n K n σ.1 σ.2.1 σ.2.2.1 σ.2.2.2.1
theorem BN (n:Nat):qa tys (da Out (Mu n)) (Hj n) n (aa Tryz.f102) 0:=⟨trivial,⟨⟨trivial,⟨yK n,⟨trivial,⟨⟨trivial,trivial⟩,⟨⟨trivial,⟨trivial,⟨trivial,trivial⟩⟩⟩,trivial⟩⟩⟩⟩⟩,⟨trivial,trivial⟩⟩⟩
theorem LP (n:Nat):Enters Tryz.prog 102:=enters_of (c:=aa Tryz.f102) Tryz.func102 (by kernel_rfl) (by kernel_rfl)
def kD (n:Nat):Entry:=⟨102,pcT K4 (.one (.int .i64)) (fun xs=>Ri n xs.1),none,none⟩
theorem PR (n:Nat):EntryOk Tryz.prog gl (kD n):=wa (LP n) fun xs y h=>ja tys_ok (xI n) mixed (hint:=Hj n) (n:=n) Tryz.func102 (Ea (BN n)) (ma (φ:=(fun y=>some (Out.ret (Uc (.one (.int .i64)) y)))) (by kernel_rfl) (PU n xs.1 _) h)
def gj (n:Nat):List Entry:=kD n::Mu n
theorem aw (n:Nat):AllOk Tryz.prog gl (gj n):=.cons (PR n) (xI n)
def sn (n:Nat) {R:Type} (last:Int) (t7:(Sq T1)) (t8 t9 s1:Int) (s2:(Sq T1)) (kn:Int→(Sq T1)→Int→Int→Int→(Sq T1)→Option R) (ko:(Int×(Sq T1))→Option R) (kr:(Bool)→Option R) (kp:Int→Option R):Option R:=if (decide (t9<t8))=true then if 0≤t9∧t9<(t7.n:Int) then (Sw n (((t7.at' (Int.toNat t9))).1,((((t7.at' (Int.toNat t9))).2).1,(((((t7.at' (Int.toNat t9))).2).2).1,((((((((t7.at' (Int.toNat t9))).2).2).2).1).1,((((((((t7.at' (Int.toNat t9))).2).2).2).1).2).1,())),((((((((t7.at' (Int.toNat t9))).2).2).2).2).1),((((((((t7.at' (Int.toNat t9))).2).2).2).2).2).1,(((((((((t7.at' (Int.toNat t9))).2).2).2).2).2).2).1,((((((((((t7.at' (Int.toNat t9))).2).2).2).2).2).2).2).1,(((((((((((t7.at' (Int.toNat t9))).2).2).2).2).2).2).2).2).1,())))))))))).bind fun v=>if (!v)=false then if (decide ((((t7.at' (Int.toNat t9))).1)≤last))=false then if (decide ((((t7.at' (Int.toNat t9))).1)≥s1))=true then kr false else kn (((t7.at' (Int.toNat t9))).1) t7 t8 (IntKind.wrap .i64 (t9+(1:Int))) s1 s2 else kr false else kr false else none else ko (s1,s2)
def De (n:Nat):Nat→Int→(Sq T1)→Int→Int→Int→(Sq T1)→Option (Lx (Int×(Sq T1)) (Bool))
 | 0,_,_,_,_,_,_=>none
 | m+1,last,t7,t8,t9,s1,s2=>sn n last t7 t8 t9 s1 s2 (De n m) (fun a=>some (.out a)) (fun a=>some (.ret a)) (fun p=>some (.pan p))
theorem NW (n m:Nat) {S:Type}:∀ last t7 t8 t9 s1 s2 (φ:_→Option S),(De n (m+1) last t7 t8 t9 s1 s2).bind φ=sn n last t7 t8 t9 s1 s2 (fun last t7 t8 t9 s1 s2=>(De n m last t7 t8 t9 s1 s2).bind φ) (fun a=>φ (.out a)) (fun a=>φ (.ret a)) (fun p=>φ (.pan p)):=by
  intros;first | (simp only [De,sn,fa,ba,iB,bB,oL,oX,nB,Option.bind_some]) | rfl
def Vv:List Sl:=.top::.ptr 0 0 0::.top::.dat (.int .i64)::.top::.top::.top::.dat (.sl K1)::.dat (.int .i64)::.dat (.int .i64)::tp 41 []
def Uv:List RS:=[.box 24 2 true [.dat (.int .i64),.dat (.sl K1)]]
def uK:List Sl:=.top::.ptr 0 0 0::tp 49 []
def tK:List RS:=[.box 24 2 true [.dat (.int .i64),.dat (.sl K1)]]
def wK:List Sl:=.top::.top::.dat .bool::tp 48 []
def vK:List RS:=[]
def Pg (K:XE→List AV→ia→Option Out):Lx (Int×(Sq T1)) (Bool)→Option Out:=fun x=>onL x (fun a=>Ye uK tK () ((a.1,(a.2,())),()) (K (.exit 0))) (fun a=>Ye wK vK (a,()) () (K .ret)) (fun _=>none)
def uC (n:Nat) {R:Type} (s:U1) (k:Bool→Option R):Option R:=(De n n (0:Int) s.2.1 (s.2.1.n:Int) (0:Int) s.1 s.2.1).bind fun x_1=>onL x_1 (fun a_2=>if (decide (a_2.1≥(1:Int)))=true then if (decide (a_2.1≤(1099511627776:Int)))=true then if (decide ((a_2.2.n:Int)≤(128:Int)))=true then (Ri n (a_2.1,(a_2.2,()))).bind fun v1=>k (decide (v1≤(64:Int))) else k false else k false else k false) (fun a_3=>k a_3) (fun _=>none)
def mm (n:Nat) (s:U1):Option Bool:=uC n s some
theorem g8 (n:Nat) {S:Type}:∀ s (φ:_→Option S),(mm n s).bind φ=uC n s φ:=by
  intros;unfold mm uC;first | (simp only [fa,ba,iB,bB,oL,oX,nB,Option.bind_some]) | rfl
def wq (n:Nat):Hint Out:={ live:=fun c=>(cond (Nat.beq c 0) [(1,none),(3,none),(7,some (.sl K1)),(8,none),(9,none)] []),run:=fun c=>(cond (Nat.beq c 0) (some (Zl Vv Uv fun σ ρ K=>(De n n σ.1 σ.2.1 σ.2.2.1 σ.2.2.2.1 ρ.1.1 ρ.1.2.1).bind (Pg K))) none),xm:=fun c q=>(cond (Nat.beq c 0&&Nat.beq (q.getD 1000000) 0&&q.isSome) (some [(1,none)]) (cond (Nat.beq c 1&&q.isNone) (some [(2,none)]) none)) }
def vq (n:Nat) (K:XE→List AV→ia→Option Out) (m:Nat) (last:Int) (t7:(Sq T1)) (t8:Int) (t9:Int) (s1:Int) (s2:(Sq T1)):Option Out:=rd tys (da Out (gj n)) (wq n) n (ta [1,1,0,1,0,0] (aa Tryz.f61)) 0 Vv Uv K m (last,(t7,(t8,(t9,())))) ((s1,(s2,())),())
theorem VI (n:Nat) (K:XE→List AV→ia→Option Out):∀ (m:Nat) last t7 t8 t9 s1 s2,vq n K m last t7 t8 t9 s1 s2=(De n m last t7 t8 t9 s1 s2).bind (Pg K)
  | 0,_,_,_,_,_,_=>by kernel_rfl
  | m+1,last,t7,t8,t9,s1,s2=>by
    have h1:vq n K (m+1) last t7 t8 t9 s1 s2=sn n last t7 t8 t9 s1 s2 (vq n K m) (fun a=>Pg K (.out a)) (fun a=>Pg K (.ret a)) (fun p=>Pg K (.pan p)):=by kernel_rfl
    have h2:vq n K m=fun last t7 t8 t9 s1 s2=>(De n m last t7 t8 t9 s1 s2).bind (Pg K):=by
      repeat (refine funext fun _=>?_)
      exact VI n K m _ _ _ _ _ _
    rw [h1,h2];exact (NW n m _ _ _ _ _ _ (Pg K)).symm
theorem IU (n:Nat):Vc tys (da Out (gj n)) (wq n) n (ta [1,1,0,1,0,0] (aa Tryz.f61)) 0:=Ca (sp:=Vv) (rp:=Uv) (by kernel_rfl) fun K σ ρ=>VI n K n σ.1 σ.2.1 σ.2.2.1 σ.2.2.2.1 ρ.1.1 ρ.1.2.1
theorem OW (n:Nat):qa tys (da Out (gj n)) (wq n) n (aa Tryz.f61) 0:=⟨trivial,⟨trivial,⟨⟨trivial,⟨IU n,⟨trivial,⟨⟨trivial,trivial⟩,⟨⟨trivial,⟨⟨trivial,⟨⟨trivial,trivial⟩,trivial⟩⟩,trivial⟩⟩,trivial⟩⟩⟩⟩⟩,⟨trivial,trivial⟩⟩⟩⟩
theorem VZ (n:Nat):Enters Tryz.prog 61:=enters_of (c:=aa Tryz.f61) Tryz.func61 (by kernel_rfl) (by kernel_rfl)
def EQ (n:Nat):Entry:=⟨61,pcT K4 (.one .bool) (fun xs=>mm n xs.1),none,none⟩
theorem F5 (n:Nat):EntryOk Tryz.prog gl (EQ n):=wa (VZ n) fun xs y h=>ja tys_ok (aw n) mixed (hint:=wq n) (n:=n) Tryz.func61 (Ea (OW n)) (ma (φ:=(fun y=>some (Out.ret (Uc (.one .bool) y)))) (by kernel_rfl) (g8 n xs.1 _) h)
def DF (n:Nat):List Entry:=EQ n::gj n
theorem EF (n:Nat):AllOk Tryz.prog gl (DF n):=.cons (F5 n) (aw n)
def Kn (n:Nat) {R:Type} (n0 least most:Int) (k:Bool→Option R):Option R:=if (decide (n0≥least))=true then k (decide (n0≤most)) else k false
def lc (n:Nat) (n0 least most:Int):Option Bool:=Kn n n0 least most some
theorem bT (n:Nat) {S:Type}:∀ n0 least most (φ:_→Option S),(lc n n0 least most).bind φ=Kn n n0 least most φ:=by
  intros;unfold lc Kn;first | (simp only [fa,ba,iB,bB,oL,oX,nB,Option.bind_some]) | rfl
def Lw (n:Nat):Hint Out:={ live:=fun c=>[],run:=fun c=>none,xm:=fun c q=>none }
theorem qL (n:Nat):qa tys (da Out (DF n)) (Lw n) n (aa Tryz.f118) 0:=oa (fun _=>rfl) _ _ (by kernel_rfl)
theorem lO (n:Nat):Enters Tryz.prog 118:=enters_of (c:=aa Tryz.f118) Tryz.func118 (by kernel_rfl) (by kernel_rfl)
def OC (n:Nat):Entry:=⟨118,pcT (.pair (.int .i64) (.pair (.int .i64) (.pair (.int .i64) .unit))) (.one .bool) (fun xs=>lc n xs.1 xs.2.1 xs.2.2.1),none,none⟩
theorem UQ (n:Nat):EntryOk Tryz.prog gl (OC n):=wa (lO n) fun xs y h=>ja tys_ok (EF n) mixed (hint:=Lw n) (n:=n) Tryz.func118 (Ea (qL n)) (ma (φ:=(fun y=>some (Out.ret (Uc (.one .bool) y)))) (by kernel_rfl) (bT n xs.1 xs.2.1 xs.2.2.1 _) h)
def Yi (n:Nat):List Entry:=OC n::DF n
theorem Bu (n:Nat):AllOk Tryz.prog gl (Yi n):=.cons (UQ n) (EF n)
def jj (n:Nat) {R:Type} (s1:BA) (t5 t6:Int) (kn:BA→Int→Int→Option R) (ko:(BA)→Option R) (kr:(Bool)→Option R) (kp:Int→Option R):Option R:=if (decide (t6<t5))=true then if 0≤t6∧t6<(s1.size:Int) then if (decide ((bt s1 t6)<(97:Int)))=false then if 0≤t6∧t6<(s1.size:Int) then if (decide ((bt s1 t6)>(122:Int)))=true then kr false else kn s1 t5 (IntKind.wrap .i64 (t6+(1:Int))) else none else kr false else none else ko s1
def Rc (n:Nat):Nat→BA→Int→Int→Option (Lx (BA) (Bool))
 | 0,_,_,_=>none
 | m+1,s1,t5,t6=>jj n s1 t5 t6 (Rc n m) (fun a=>some (.out a)) (fun a=>some (.ret a)) (fun p=>some (.pan p))
theorem RQ (n m:Nat) {S:Type}:∀ s1 t5 t6 (φ:_→Option S),(Rc n (m+1) s1 t5 t6).bind φ=jj n s1 t5 t6 (fun s1 t5 t6=>(Rc n m s1 t5 t6).bind φ) (fun a=>φ (.out a)) (fun a=>φ (.ret a)) (fun p=>φ (.pan p)):=by
  intros;first | (simp only [Rc,jj,fa,ba,iB,bB,oL,oX,nB,Option.bind_some]) | rfl
def Cp:List Sl:=.dat .str::tp 4 (.dat (.int .i64)::.dat (.int .i64)::tp 16 [])
def Bp:List RS:=[]
def iE:List Sl:=.dat .str::tp 22 []
def gE:List RS:=[]
def kE:List Sl:=.top::.top::.dat .bool::tp 20 []
def jE:List RS:=[]
def Qe (K:XE→List AV→ia→Option Out):Lx (BA) (Bool)→Option Out:=fun x=>onL x (fun a=>Ye iE gE (a,()) () (K (.exit 0))) (fun a=>Ye kE jE (a,()) () (K .ret)) (fun _=>none)
def tt (n:Nat) {R:Type} (s:BA) (k:Bool→Option R):Option R:=(Rc n n s (s.size:Int) (0:Int)).bind fun x_1=>onL x_1 (fun a_2=>(lc n (a_2.size:Int) (1:Int) (32:Int)).bind fun v=>k v) (fun a_3=>k a_3) (fun _=>none)
def Ap (n:Nat) (s:BA):Option Bool:=tt n s some
theorem BY (n:Nat) {S:Type}:∀ s (φ:_→Option S),(Ap n s).bind φ=tt n s φ:=by
  intros;unfold Ap tt;first | (simp only [fa,ba,iB,bB,oL,oX,nB,Option.bind_some]) | rfl
def rm (n:Nat):Hint Out:={ live:=fun c=>(cond (Nat.beq c 0) (lv [0,5,6]) []),run:=fun c=>(cond (Nat.beq c 0) (some (Zl Cp Bp fun σ ρ K=>(Rc n n σ.1 σ.2.1 σ.2.2.1).bind (Qe K))) none),xm:=fun c q=>(cond (Nat.beq c 0&&Nat.beq (q.getD 1000000) 0&&q.isSome) (some [(0,none)]) (cond (Nat.beq c 1&&q.isNone) (some [(2,none)]) none)) }
def qm (n:Nat) (K:XE→List AV→ia→Option Out) (m:Nat) (s1:BA) (t5:Int) (t6:Int):Option Out:=rd tys (da Out (Yi n)) (rm n) n (ta [1,0,1,0,0] (aa Tryz.f165)) 0 Cp Bp K m (s1,(t5,(t6,()))) ()
theorem MC (n:Nat) (K:XE→List AV→ia→Option Out):∀ (m:Nat) s1 t5 t6,qm n K m s1 t5 t6=(Rc n m s1 t5 t6).bind (Qe K)
  | 0,_,_,_=>by kernel_rfl
  | m+1,s1,t5,t6=>by
    have h1:qm n K (m+1) s1 t5 t6=jj n s1 t5 t6 (qm n K m) (fun a=>Qe K (.out a)) (fun a=>Qe K (.ret a)) (fun p=>Qe K (.pan p)):=by kernel_rfl
    have h2:qm n K m=fun s1 t5 t6=>(Rc n m s1 t5 t6).bind (Qe K):=by
      repeat (refine funext fun _=>?_)
      exact MC n K m _ _ _
    rw [h1,h2];exact (RQ n m _ _ _ (Qe K)).symm
theorem jO (n:Nat):Vc tys (da Out (Yi n)) (rm n) n (ta [1,0,1,0,0] (aa Tryz.f165)) 0:=Ca (sp:=Cp) (rp:=Bp) (by kernel_rfl) fun K σ ρ=>MC n K n σ.1 σ.2.1 σ.2.2.1
theorem SQ (n:Nat):qa tys (da Out (Yi n)) (rm n) n (aa Tryz.f165) 0:=⟨trivial,⟨⟨trivial,⟨jO n,⟨trivial,⟨⟨trivial,trivial⟩,⟨⟨trivial,⟨trivial,⟨⟨trivial,trivial⟩,trivial⟩⟩⟩,trivial⟩⟩⟩⟩⟩,⟨trivial,trivial⟩⟩⟩
theorem ZS (n:Nat):Enters Tryz.prog 165:=enters_of (c:=aa Tryz.f165) Tryz.func165 (by kernel_rfl) (by kernel_rfl)
def pI (n:Nat):Entry:=⟨165,pcT (.pair .str .unit) (.one .bool) (fun xs=>Ap n xs.1),none,none⟩
theorem IV (n:Nat):EntryOk Tryz.prog gl (pI n):=wa (ZS n) fun xs y h=>ja tys_ok (Bu n) mixed (hint:=rm n) (n:=n) Tryz.func165 (Ea (SQ n)) (ma (φ:=(fun y=>some (Out.ret (Uc (.one .bool) y)))) (by kernel_rfl) (BY n xs.1 _) h)
def uy (n:Nat):List Entry:=pI n::Yi n
theorem dA (n:Nat):AllOk Tryz.prog gl (uy n):=.cons (IV n) (Bu n)
def In (n:Nat) {R:Type} (bytes count:Int) (k:Bool→Option R):Option R:=(lc n bytes (0:Int) (1073741824:Int)).bind fun v=>if v=true then (lc n count (0:Int) (64:Int)).bind fun v1=>k v1 else k false
def Hn (n:Nat) (bytes count:Int):Option Bool:=In n bytes count some
theorem YS (n:Nat) {S:Type}:∀ bytes count (φ:_→Option S),(Hn n bytes count).bind φ=In n bytes count φ:=by
  intros;unfold Hn In;first | (simp only [fa,ba,iB,bB,oL,oX,nB,Option.bind_some]) | rfl
def Jw (n:Nat):Hint Out:={ live:=fun c=>[],run:=fun c=>none,xm:=fun c q=>none }
theorem nL (n:Nat):qa tys (da Out (uy n)) (Jw n) n (aa Tryz.f166) 0:=oa (fun _=>rfl) _ _ (by kernel_rfl)
theorem iO (n:Nat):Enters Tryz.prog 166:=enters_of (c:=aa Tryz.f166) Tryz.func166 (by kernel_rfl) (by kernel_rfl)
def LC (n:Nat):Entry:=⟨166,pcT (.pair (.int .i64) (.pair (.int .i64) .unit)) (.one .bool) (fun xs=>Hn n xs.1 xs.2.1),none,none⟩
theorem QQ (n:Nat):EntryOk Tryz.prog gl (LC n):=wa (iO n) fun xs y h=>ja tys_ok (dA n) mixed (hint:=Jw n) (n:=n) Tryz.func166 (Ea (nL n)) (ma (φ:=(fun y=>some (Out.ret (Uc (.one .bool) y)))) (by kernel_rfl) (YS n xs.1 xs.2.1 _) h)
def Gr (n:Nat):List Entry:=LC n::uy n
theorem zu (n:Nat):AllOk Tryz.prog gl (Gr n):=.cons (QQ n) (dA n)
def zn (n:Nat) {R:Type} (n0 least most:Int) (k:Bool→Option R):Option R:=if (decide (n0≥least))=true then k (decide (n0≤most)) else k false
def qe (n:Nat) (n0 least most:Int):Option Bool:=zn n n0 least most some
theorem SS (n:Nat) {S:Type}:∀ n0 least most (φ:_→Option S),(qe n n0 least most).bind φ=zn n n0 least most φ:=by
  intros;unfold qe zn;first | (simp only [fa,ba,iB,bB,oL,oX,nB,Option.bind_some]) | rfl
def Dw (n:Nat):Hint Out:={ live:=fun c=>[],run:=fun c=>none,xm:=fun c q=>none }
theorem iL (n:Nat):qa tys (da Out (Gr n)) (Dw n) n (aa Tryz.f209) 0:=oa (fun _=>rfl) _ _ (by kernel_rfl)
theorem cO (n:Nat):Enters Tryz.prog 209:=enters_of (c:=aa Tryz.f209) Tryz.func209 (by kernel_rfl) (by kernel_rfl)
def GC (n:Nat):Entry:=⟨209,pcT (.pair (.int .i64) (.pair (.int .i64) (.pair (.int .i64) .unit))) (.one .bool) (fun xs=>qe n xs.1 xs.2.1 xs.2.2.1),none,none⟩
theorem MQ (n:Nat):EntryOk Tryz.prog gl (GC n):=wa (cO n) fun xs y h=>ja tys_ok (zu n) mixed (hint:=Dw n) (n:=n) Tryz.func209 (Ea (iL n)) (ma (φ:=(fun y=>some (Out.ret (Uc (.one .bool) y)))) (by kernel_rfl) (SS n xs.1 xs.2.1 xs.2.2.1 _) h)
def Cr (n:Nat):List Entry:=GC n::Gr n
theorem vu (n:Nat):AllOk Tryz.prog gl (Cr n):=.cons (MQ n) (zu n)
def Cw (n:Nat) {R:Type} (b:(Int×U3)) (k:Bool→Option R):Option R:=(qe n b.2.1 (0:Int) (1048576:Int)).bind fun v=>if v=true then (qe n b.2.2.1 (0:Int) (1048576:Int)).bind fun v1=>if v1=true then (qe n b.1 (0:Int) b.2.1).bind fun v2=>if v2=true then (qe n b.2.2.2.1 (1:Int) (1048576:Int)).bind fun v3=>if v3=true then (qe n b.2.2.2.2.1 (0:Int) (IntKind.wrap .i64 (b.2.2.2.1 - (1:Int)))).bind fun v4=>k v4 else k false else k false else k false else k false
def gu (n:Nat) (b:(Int×U3)):Option Bool:=Cw n b some
theorem G2 (n:Nat) {S:Type}:∀ b (φ:_→Option S),(gu n b).bind φ=Cw n b φ:=by
  intros;unfold gu Cw;first | (simp only [fa,ba,iB,bB,oL,oX,nB,Option.bind_some]) | rfl
def cE (n:Nat):Hint Out:={ live:=fun c=>[],run:=fun c=>none,xm:=fun c q=>none }
theorem QS (n:Nat):qa tys (da Out (Cr n)) (cE n) n (aa Tryz.f167) 0:=oa (fun _=>rfl) _ _ (by kernel_rfl)
theorem GV (n:Nat):Enters Tryz.prog 167:=enters_of (c:=aa Tryz.f167) Tryz.func167 (by kernel_rfl) (by kernel_rfl)
def gL (n:Nat):Entry:=⟨167,pcT K12 (.one .bool) (fun xs=>gu n xs.1),none,none⟩
theorem zY (n:Nat):EntryOk Tryz.prog gl (gL n):=wa (GV n) fun xs y h=>ja tys_ok (vu n) mixed (hint:=cE n) (n:=n) Tryz.func167 (Ea (QS n)) (ma (φ:=(fun y=>some (Out.ret (Uc (.one .bool) y)))) (by kernel_rfl) (G2 n xs.1 _) h)
def CB (n:Nat):List Entry:=gL n::Cr n
theorem FC (n:Nat):AllOk Tryz.prog gl (CB n):=.cons (zY n) (vu n)
def Jn (n:Nat) {R:Type} (t:T2) (k:Bool→Option R):Option R:=(Ap n t.1).bind fun v=>if v=true then (Hn n t.2.1 t.2.2.1).bind fun v1=>if v1=true then (lc n t.2.2.2.1 (1:Int) (16384:Int)).bind fun v2=>if v2=true then (gu n (t.2.2.2.2.1.1,(t.2.2.2.2.1.2.1,(t.2.2.2.2.1.2.2.1,(t.2.2.2.2.1.2.2.2.1,(t.2.2.2.2.1.2.2.2.2.1,())))))).bind fun v3=>if v3=true then if (t.2.2.2.2.1.1==t.2.2.2.2.1.2.1)=true then k (t.2.2.2.2.1.2.2.2.2.1==(0:Int)) else k false else k false else k false else k false else k false
def Rk (n:Nat) (t:T2):Option Bool:=Jn n t some
theorem aT (n:Nat) {S:Type}:∀ t (φ:_→Option S),(Rk n t).bind φ=Jn n t φ:=by
  intros;unfold Rk Jn;first | (simp only [fa,ba,iB,bB,oL,oX,nB,Option.bind_some]) | rfl
def Kw (n:Nat):Hint Out:={ live:=fun c=>[],run:=fun c=>none,xm:=fun c q=>none }
theorem pL (n:Nat):qa tys (da Out (CB n)) (Kw n) n (aa Tryz.f117) 0:=oa (fun _=>rfl) _ _ (by kernel_rfl)
theorem kO (n:Nat):Enters Tryz.prog 117:=enters_of (c:=aa Tryz.f117) Tryz.func117 (by kernel_rfl) (by kernel_rfl)
def NC (n:Nat):Entry:=⟨117,pcT K16 (.one .bool) (fun xs=>Rk n xs.1),none,none⟩
theorem TQ (n:Nat):EntryOk Tryz.prog gl (NC n):=wa (kO n) fun xs y h=>ja tys_ok (FC n) mixed (hint:=Kw n) (n:=n) Tryz.func117 (Ea (pL n)) (ma (φ:=(fun y=>some (Out.ret (Uc (.one .bool) y)))) (by kernel_rfl) (aT n xs.1 _) h)
def Hr (n:Nat):List Entry:=NC n::CB n
theorem Au (n:Nat):AllOk Tryz.prog gl (Hr n):=.cons (TQ n) (FC n)
def Dn (n:Nat) {R:Type} (s:BA) (k:Bool→Option R):Option R:=if (decide ((s.size:Int)≤(200:Int)))=true then (Lj n s).bind fun v=>if v=true then (qg n s).bind fun v1=>k (!v1) else k false else k false
def Pk (n:Nat) (s:BA):Option Bool:=Dn n s some
theorem US (n:Nat) {S:Type}:∀ s (φ:_→Option S),(Pk n s).bind φ=Dn n s φ:=by
  intros;unfold Pk Dn;first | (simp only [fa,ba,iB,bB,oL,oX,nB,Option.bind_some]) | rfl
def Hw (n:Nat):Hint Out:={ live:=fun c=>[],run:=fun c=>none,xm:=fun c q=>none }
theorem lL (n:Nat):qa tys (da Out (Hr n)) (Hw n) n (aa Tryz.f119) 0:=oa (fun _=>rfl) _ _ (by kernel_rfl)
theorem gO (n:Nat):Enters Tryz.prog 119:=enters_of (c:=aa Tryz.f119) Tryz.func119 (by kernel_rfl) (by kernel_rfl)
def JC (n:Nat):Entry:=⟨119,pcT (.pair .str .unit) (.one .bool) (fun xs=>Pk n xs.1),none,none⟩
theorem OQ (n:Nat):EntryOk Tryz.prog gl (JC n):=wa (gO n) fun xs y h=>ja tys_ok (Au n) mixed (hint:=Hw n) (n:=n) Tryz.func119 (Ea (lL n)) (ma (φ:=(fun y=>some (Out.ret (Uc (.one .bool) y)))) (by kernel_rfl) (US n xs.1 _) h)
def Xi (n:Nat):List Entry:=JC n::Hr n
theorem xu (n:Nat):AllOk Tryz.prog gl (Xi n):=.cons (OQ n) (Au n)
def pd (n:Nat) {R:Type} (x1:(Sq Int)) (m0 i:Int) (kn:(Sq Int)→Int→Int→Option R) (ko:(Int)→Option R) (kr:Unit→Option R) (kp:Int→Option R):Option R:=if (decide (i<(x1.n:Int)))=true then if 0≤i∧i<(x1.n:Int) then kn x1 (if (x1.at' (Int.toNat i))<m0 then (x1.at' (Int.toNat i)) else m0) (IntKind.wrap .i64 (i+(1:Int))) else none else ko m0
def Ra (n:Nat):Nat→(Sq Int)→Int→Int→Option (Lx (Int) Unit)
 | 0,_,_,_=>none
 | m+1,x1,m0,i=>pd n x1 m0 i (Ra n m) (fun a=>some (.out a)) (fun a=>some (.ret a)) (fun p=>some (.pan p))
theorem qC (n m:Nat) {S:Type}:∀ x1 m0 i (φ:_→Option S),(Ra n (m+1) x1 m0 i).bind φ=pd n x1 m0 i (fun x1 m0 i=>(Ra n m x1 m0 i).bind φ) (fun a=>φ (.out a)) (fun a=>φ (.ret a)) (fun p=>φ (.pan p)):=by
  intros;first | (simp only [Ra,pd,fa,ba,iB,bB,oL,oX,nB,Option.bind_some]) | rfl
def Lh:List Sl:=.dat (.sl (.int .i64))::.top::.top::.dat (.int .i64)::.dat (.int .i64)::tp 20 []
def Kh:List RS:=[]
def Yt:List Sl:=.top::.top::.top::.dat (.int .i64)::tp 21 []
def Xt:List RS:=[]
def Wb (K:XE→List AV→ia→Option Out):Lx (Int) Unit→Option Out:=fun x=>onL x (fun a=>Ye Yt Xt (a,()) () (K (.exit 0))) (fun _=>none) (fun _=>none)
def kh (n:Nat) {R:Type} (x:(Sq Int)) (k:Int→Option R):Option R:=if (decide ((x.n:Int)<(1:Int)))=true then none else if 0≤(0:Int)∧(0:Int)<(x.n:Int) then (Ra n n x (x.at' (Int.toNat (0:Int))) (1:Int)).bind fun x_1=>onL x_1 (fun a_2=>k a_2) (fun _=>none) (fun _=>none) else none
def Oe (n:Nat) (x:(Sq Int)):Option Int:=kh n x some
theorem VH (n:Nat) {S:Type}:∀ x (φ:_→Option S),(Oe n x).bind φ=kh n x φ:=by
  intros;unfold Oe kh;first | (simp only [fa,ba,iB,bB,oL,oX,nB,Option.bind_some]) | rfl
def mf (n:Nat):Hint Out:={ live:=fun c=>(cond (Nat.beq c 0) [(0,some (.sl (.int .i64))),(3,none),(4,none)] []),run:=fun c=>(cond (Nat.beq c 0) (some (Zl Lh Kh fun σ ρ K=>(Ra n n σ.1 σ.2.1 σ.2.2.1).bind (Wb K))) none),xm:=fun c q=>(cond (Nat.beq c 0&&Nat.beq (q.getD 1000000) 0&&q.isSome) (some [(3,none)]) none) }
def lf (n:Nat) (K:XE→List AV→ia→Option Out) (m:Nat) (x1:(Sq Int)) (m0:Int) (i:Int):Option Out:=rd tys (da Out (Xi n)) (mf n) n (ta [1,1,1,0,1,0,0] (aa Tryz.f168)) 0 Lh Kh K m (x1,(m0,(i,()))) ()
theorem Jo (n:Nat) (K:XE→List AV→ia→Option Out):∀ (m:Nat) x1 m0 i,lf n K m x1 m0 i=(Ra n m x1 m0 i).bind (Wb K)
  | 0,_,_,_=>by kernel_rfl
  | m+1,x1,m0,i=>by
    have h1:lf n K (m+1) x1 m0 i=pd n x1 m0 i (lf n K m) (fun a=>Wb K (.out a)) (fun a=>Wb K (.ret a)) (fun p=>Wb K (.pan p)):=by kernel_rfl
    have h2:lf n K m=fun x1 m0 i=>(Ra n m x1 m0 i).bind (Wb K):=by
      repeat (refine funext fun _=>?_)
      exact Jo n K m _ _ _
    rw [h1,h2];exact (qC n m _ _ _ (Wb K)).symm
theorem lB (n:Nat):Vc tys (da Out (Xi n)) (mf n) n (ta [1,1,1,0,1,0,0] (aa Tryz.f168)) 0:=Ca (sp:=Lh) (rp:=Kh) (by kernel_rfl) fun K σ ρ=>Jo n K n σ.1 σ.2.1 σ.2.2.1
theorem rC (n:Nat):qa tys (da Out (Xi n)) (mf n) n (aa Tryz.f168) 0:=⟨trivial,⟨⟨trivial,⟨trivial,trivial⟩⟩,⟨trivial,⟨⟨trivial,⟨lB n,⟨⟨trivial,⟨trivial,trivial⟩⟩,⟨trivial,trivial⟩⟩⟩⟩,⟨trivial,trivial⟩⟩⟩⟩⟩
theorem QD (n:Nat):Enters Tryz.prog 168:=enters_of (c:=aa Tryz.f168) Tryz.func168 (by kernel_rfl) (by kernel_rfl)
def vr (n:Nat):Entry:=⟨168,pcT (.pair (.sl (.int .i64)) .unit) (.one (.int .i64)) (fun xs=>Oe n xs.1),none,none⟩
theorem vF (n:Nat):EntryOk Tryz.prog gl (vr n):=wa (QD n) fun xs y h=>ja tys_ok (xu n) mixed (hint:=mf n) (n:=n) Tryz.func168 (Ea (rC n)) (ma (φ:=(fun y=>some (Out.ret (Uc (.one (.int .i64)) y)))) (by kernel_rfl) (VH n xs.1 _) h)
def Ce (n:Nat):List Entry:=vr n::Xi n
theorem en (n:Nat):AllOk Tryz.prog gl (Ce n):=.cons (vF n) (xu n)
def od (n:Nat) {R:Type} (x1:(Sq Int)) (m0 i:Int) (kn:(Sq Int)→Int→Int→Option R) (ko:(Int)→Option R) (kr:Unit→Option R) (kp:Int→Option R):Option R:=if (decide (i<(x1.n:Int)))=true then if 0≤i∧i<(x1.n:Int) then kn x1 (if (x1.at' (Int.toNat i))>m0 then (x1.at' (Int.toNat i)) else m0) (IntKind.wrap .i64 (i+(1:Int))) else none else ko m0
def Qa (n:Nat):Nat→(Sq Int)→Int→Int→Option (Lx (Int) Unit)
 | 0,_,_,_=>none
 | m+1,x1,m0,i=>od n x1 m0 i (Qa n m) (fun a=>some (.out a)) (fun a=>some (.ret a)) (fun p=>some (.pan p))
theorem oC (n m:Nat) {S:Type}:∀ x1 m0 i (φ:_→Option S),(Qa n (m+1) x1 m0 i).bind φ=od n x1 m0 i (fun x1 m0 i=>(Qa n m x1 m0 i).bind φ) (fun a=>φ (.out a)) (fun a=>φ (.ret a)) (fun p=>φ (.pan p)):=by
  intros;first | (simp only [Qa,od,fa,ba,iB,bB,oL,oX,nB,Option.bind_some]) | rfl
def Jh:List Sl:=.dat (.sl (.int .i64))::.top::.top::.dat (.int .i64)::.dat (.int .i64)::tp 20 []
def Ih:List RS:=[]
def Wt:List Sl:=.top::.top::.top::.dat (.int .i64)::tp 21 []
def Vt:List RS:=[]
def Vb (K:XE→List AV→ia→Option Out):Lx (Int) Unit→Option Out:=fun x=>onL x (fun a=>Ye Wt Vt (a,()) () (K (.exit 0))) (fun _=>none) (fun _=>none)
def jh (n:Nat) {R:Type} (x:(Sq Int)) (k:Int→Option R):Option R:=if (decide ((x.n:Int)<(1:Int)))=true then none else if 0≤(0:Int)∧(0:Int)<(x.n:Int) then (Qa n n x (x.at' (Int.toNat (0:Int))) (1:Int)).bind fun x_1=>onL x_1 (fun a_2=>k a_2) (fun _=>none) (fun _=>none) else none
def Jd (n:Nat) (x:(Sq Int)):Option Int:=jh n x some
theorem UH (n:Nat) {S:Type}:∀ x (φ:_→Option S),(Jd n x).bind φ=jh n x φ:=by
  intros;unfold Jd jh;first | (simp only [fa,ba,iB,bB,oL,oX,nB,Option.bind_some]) | rfl
def kf (n:Nat):Hint Out:={ live:=fun c=>(cond (Nat.beq c 0) [(0,some (.sl (.int .i64))),(3,none),(4,none)] []),run:=fun c=>(cond (Nat.beq c 0) (some (Zl Jh Ih fun σ ρ K=>(Qa n n σ.1 σ.2.1 σ.2.2.1).bind (Vb K))) none),xm:=fun c q=>(cond (Nat.beq c 0&&Nat.beq (q.getD 1000000) 0&&q.isSome) (some [(3,none)]) none) }
def jf (n:Nat) (K:XE→List AV→ia→Option Out) (m:Nat) (x1:(Sq Int)) (m0:Int) (i:Int):Option Out:=rd tys (da Out (Ce n)) (kf n) n (ta [1,1,1,0,1,0,0] (aa Tryz.f121)) 0 Jh Ih K m (x1,(m0,(i,()))) ()
theorem Io (n:Nat) (K:XE→List AV→ia→Option Out):∀ (m:Nat) x1 m0 i,jf n K m x1 m0 i=(Qa n m x1 m0 i).bind (Vb K)
  | 0,_,_,_=>by kernel_rfl
  | m+1,x1,m0,i=>by
    have h1:jf n K (m+1) x1 m0 i=od n x1 m0 i (jf n K m) (fun a=>Vb K (.out a)) (fun a=>Vb K (.ret a)) (fun p=>Vb K (.pan p)):=by kernel_rfl
    have h2:jf n K m=fun x1 m0 i=>(Qa n m x1 m0 i).bind (Vb K):=by
      repeat (refine funext fun _=>?_)
      exact Io n K m _ _ _
    rw [h1,h2];exact (oC n m _ _ _ (Vb K)).symm
theorem kB (n:Nat):Vc tys (da Out (Ce n)) (kf n) n (ta [1,1,1,0,1,0,0] (aa Tryz.f121)) 0:=Ca (sp:=Jh) (rp:=Ih) (by kernel_rfl) fun K σ ρ=>Io n K n σ.1 σ.2.1 σ.2.2.1
theorem pC (n:Nat):qa tys (da Out (Ce n)) (kf n) n (aa Tryz.f121) 0:=⟨trivial,⟨⟨trivial,⟨trivial,trivial⟩⟩,⟨trivial,⟨⟨trivial,⟨kB n,⟨⟨trivial,⟨trivial,trivial⟩⟩,⟨trivial,trivial⟩⟩⟩⟩,⟨trivial,trivial⟩⟩⟩⟩⟩
theorem PD (n:Nat):Enters Tryz.prog 121:=enters_of (c:=aa Tryz.f121) Tryz.func121 (by kernel_rfl) (by kernel_rfl)
def ur (n:Nat):Entry:=⟨121,pcT (.pair (.sl (.int .i64)) .unit) (.one (.int .i64)) (fun xs=>Jd n xs.1),none,none⟩
theorem uF (n:Nat):EntryOk Tryz.prog gl (ur n):=wa (PD n) fun xs y h=>ja tys_ok (en n) mixed (hint:=kf n) (n:=n) Tryz.func121 (Ea (pC n)) (ma (φ:=(fun y=>some (Out.ret (Uc (.one (.int .i64)) y)))) (by kernel_rfl) (UH n xs.1 _) h)
def Fk (n:Nat):List Entry:=ur n::Ce n
theorem dn (n:Nat):AllOk Tryz.prog gl (Fk n):=.cons (uF n) (en n)
def rt (n:Nat) {R:Type} (l:(Sq Int)) (k:Bool→Option R):Option R:=if (decide ((l.n:Int)≥(1:Int)))=true then if (decide ((l.n:Int)≤(16:Int)))=true then (Oe n l).bind fun v=>if (decide (v≥(1:Int)))=true then (Jd n l).bind fun v1=>k (decide (v1≤(1099511627776:Int))) else k false else k false else k false
def zp (n:Nat) (l:(Sq Int)):Option Bool:=rt n l some
theorem vY (n:Nat) {S:Type}:∀ l (φ:_→Option S),(zp n l).bind φ=rt n l φ:=by
  intros;unfold zp rt;first | (simp only [fa,ba,iB,bB,oL,oX,nB,Option.bind_some]) | rfl
def EC (n:Nat):Hint Out:={ live:=fun c=>[],run:=fun c=>none,xm:=fun c q=>none }
theorem KQ (n:Nat):qa tys (da Out (Fk n)) (EC n) n (aa Tryz.f120) 0:=oa (fun _=>rfl) _ _ (by kernel_rfl)
theorem PS (n:Nat):Enters Tryz.prog 120:=enters_of (c:=aa Tryz.f120) Tryz.func120 (by kernel_rfl) (by kernel_rfl)
def oI (n:Nat):Entry:=⟨120,pcT (.pair (.sl (.int .i64)) .unit) (.one .bool) (fun xs=>zp n xs.1),none,none⟩
theorem FV (n:Nat):EntryOk Tryz.prog gl (oI n):=wa (PS n) fun xs y h=>ja tys_ok (dn n) mixed (hint:=EC n) (n:=n) Tryz.func120 (Ea (KQ n)) (ma (φ:=(fun y=>some (Out.ret (Uc (.one .bool) y)))) (by kernel_rfl) (vY n xs.1 _) h)
def dm (n:Nat):List Entry:=oI n::Fk n
theorem cA (n:Nat):AllOk Tryz.prog gl (dm n):=.cons (FV n) (dn n)
def Qk (n:Nat) {R:Type} (t8:(Sq T2)) (t9 t10:Int) (c1:(Sq T2)) (c2:BA) (c3 c4:Int) (c5:(Sq Int)) (c6 c7:Int) (c8:Nat) (seen:(Sq BA)) (kn:(Sq T2)→Int→Int→(Sq T2)→BA→Int→Int→(Sq Int)→Int→Int→Nat→(Sq BA)→Option R) (ko:((Sq T2)×BA×Int×Int×(Sq Int)×Int×Int×Nat)→Option R) (kr:(Bool)→Option R) (kp:Int→Option R):Option R:=if (decide (t10<t9))=true then if 0≤t10∧t10<(t8.n:Int) then (Rk n (((t8.at' (Int.toNat t10))).1,((((t8.at' (Int.toNat t10))).2).1,(((((t8.at' (Int.toNat t10))).2).2).1,((((((t8.at' (Int.toNat t10))).2).2).2).1,(((((((((t8.at' (Int.toNat t10))).2).2).2).2).1).1,(((((((((t8.at' (Int.toNat t10))).2).2).2).2).1).2).1,((((((((((t8.at' (Int.toNat t10))).2).2).2).2).1).2).2).1,(((((((((((t8.at' (Int.toNat t10))).2).2).2).2).1).2).2).2).1,((((((((((((t8.at' (Int.toNat t10))).2).2).2).2).1).2).2).2).2).1,()))))),((((((((t8.at' (Int.toNat t10))).2).2).2).2).2).1,()))))))).bind fun v=>if (!v)=false then if rh .str (((t8.at' (Int.toNat t10))).1)=true then if (AX .str seen (((t8.at' (Int.toNat t10))).1))=true then kr false else if rh .str (((t8.at' (Int.toNat t10))).1)=true then kn t8 t9 (IntKind.wrap .i64 (t10+(1:Int))) c1 c2 c3 c4 c5 c6 c7 c8 (KX .str seen (((t8.at' (Int.toNat t10))).1)) else none else none else kr false else none else ko (c1,c2,c3,c4,c5,c6,c7,c8)
def vd (n:Nat):Nat→(Sq T2)→Int→Int→(Sq T2)→BA→Int→Int→(Sq Int)→Int→Int→Nat→(Sq BA)→Option (Lx ((Sq T2)×BA×Int×Int×(Sq Int)×Int×Int×Nat) (Bool))
 | 0,_,_,_,_,_,_,_,_,_,_,_,_=>none
 | m+1,t8,t9,t10,c1,c2,c3,c4,c5,c6,c7,c8,seen=>Qk n t8 t9 t10 c1 c2 c3 c4 c5 c6 c7 c8 seen (vd n m) (fun a=>some (.out a)) (fun a=>some (.ret a)) (fun p=>some (.pan p))
theorem WS (n m:Nat) {S:Type}:∀ t8 t9 t10 c1 c2 c3 c4 c5 c6 c7 c8 seen (φ:_→Option S),(vd n (m+1) t8 t9 t10 c1 c2 c3 c4 c5 c6 c7 c8 seen).bind φ=Qk n t8 t9 t10 c1 c2 c3 c4 c5 c6 c7 c8 seen (fun t8 t9 t10 c1 c2 c3 c4 c5 c6 c7 c8 seen=>(vd n m t8 t9 t10 c1 c2 c3 c4 c5 c6 c7 c8 seen).bind φ) (fun a=>φ (.out a)) (fun a=>φ (.ret a)) (fun p=>φ (.pan p)):=by
  intros;first | (simp only [vd,Qk,fa,ba,iB,bB,oL,oX,nB,Option.bind_some]) | rfl
def Fr:List Sl:=.top::.ptr 0 0 0::.top::.mp 1::tp 4 (.dat (.sl K6)::.dat (.int .i64)::.dat (.int .i64)::tp 57 [])
def Er:List RS:=[.box 29 8 true [.dat (.sl K6),.dat .str,.dat (.int .i64),.dat (.int .i64),.dat (.sl (.int .i64)),.dat (.int .i64),.dat (.int .i64),.dat (.flt .f64)],.set 148 .str]
def TG:List Sl:=.top::.ptr 0 0 0::tp 66 []
def SG:List RS:=[.box 29 8 true [.dat (.sl K6),.dat .str,.dat (.int .i64),.dat (.int .i64),.dat (.sl (.int .i64)),.dat (.int .i64),.dat (.int .i64),.dat (.flt .f64)]]
def VG:List Sl:=.top::.top::.dat .bool::tp 65 []
def UG:List RS:=[]
def If (K:XE→List AV→ia→Option Out):Lx ((Sq T2)×BA×Int×Int×(Sq Int)×Int×Int×Nat) (Bool)→Option Out:=fun x=>onL x (fun a=>Ye TG SG () ((a.1,(a.2.1,(a.2.2.1,(a.2.2.2.1,(a.2.2.2.2.1,(a.2.2.2.2.2.1,(a.2.2.2.2.2.2.1,(a.2.2.2.2.2.2.2,())))))))),()) (K (.exit 0))) (fun a=>Ye VG UG (a,()) () (K .ret)) (fun _=>none)
def Iw (n:Nat) {R:Type} (c:T3) (k:Bool→Option R):Option R:=(vd n n c.1 (c.1.n:Int) (0:Int) c.1 c.2.1 c.2.2.1 c.2.2.2.1 c.2.2.2.2.1 c.2.2.2.2.2.1 c.2.2.2.2.2.2.1 c.2.2.2.2.2.2.2.1 (⟨0,fun _=>Ba .str⟩:Sq BA)).bind fun x_1=>onL x_1 (fun a_2=>(lc n (a_2.1.n:Int) (1:Int) (4:Int)).bind fun v1=>if (!v1)=false then (Pk n a_2.2.1).bind fun v2=>if (!v2)=false then (zp n a_2.2.2.2.2.1).bind fun v3=>if (!v3)=false then (Jd n a_2.2.2.2.2.1).bind fun v4=>if (decide (v4>(1073741824:Int)))=true then k false else (lc n a_2.2.2.1 (0:Int) (1099511627776:Int)).bind fun v5=>if v5=true then (lc n a_2.2.2.2.1 (1:Int) (1099511627776:Int)).bind fun v6=>if v6=true then (lc n a_2.2.2.2.2.2.1 (1:Int) (1048576:Int)).bind fun v7=>if v7=true then (lc n a_2.2.2.2.2.2.2.1 (0:Int) (1073741824:Int)).bind fun v8=>k v8 else k false else k false else k false else k false else k false else k false) (fun a_3=>k a_3) (fun _=>none)
def Qm (n:Nat) (c:T3):Option Bool:=Iw n c some
theorem P2 (n:Nat) {S:Type}:∀ c (φ:_→Option S),(Qm n c).bind φ=Iw n c φ:=by
  intros;unfold Qm Iw;first | (simp only [fa,ba,iB,bB,oL,oX,nB,Option.bind_some]) | rfl
def Gn (n:Nat):Hint Out:={ live:=fun c=>(cond (Nat.beq c 0) [(1,none),(3,none),(8,some (.sl K6)),(9,none),(10,none)] []),run:=fun c=>(cond (Nat.beq c 0) (some (Zl Fr Er fun σ ρ K=>(vd n n σ.1 σ.2.1 σ.2.2.1 ρ.1.1 ρ.1.2.1 ρ.1.2.2.1 ρ.1.2.2.2.1 ρ.1.2.2.2.2.1 ρ.1.2.2.2.2.2.1 ρ.1.2.2.2.2.2.2.1 ρ.1.2.2.2.2.2.2.2.1 ρ.2.1).bind (If K))) none),xm:=fun c q=>(cond (Nat.beq c 0&&Nat.beq (q.getD 1000000) 0&&q.isSome) (some [(1,none)]) (cond (Nat.beq c 1&&q.isNone) (some [(2,none)]) none)) }
def En (n:Nat) (K:XE→List AV→ia→Option Out) (m:Nat) (t8:(Sq T2)) (t9:Int) (t10:Int) (c1:(Sq T2)) (c2:BA) (c3:Int) (c4:Int) (c5:(Sq Int)) (c6:Int) (c7:Int) (c8:Nat) (seen:(Sq BA)):Option Out:=rd tys (da Out (dm n)) (Gn n) n (ta [1,1,0,1,0,0] (aa Tryz.f85)) 0 Fr Er K m (t8,(t9,(t10,()))) ((c1,(c2,(c3,(c4,(c5,(c6,(c7,(c8,())))))))),(seen,()))
theorem fE (n:Nat) (K:XE→List AV→ia→Option Out):∀ (m:Nat) t8 t9 t10 c1 c2 c3 c4 c5 c6 c7 c8 seen,En n K m t8 t9 t10 c1 c2 c3 c4 c5 c6 c7 c8 seen=(vd n m t8 t9 t10 c1 c2 c3 c4 c5 c6 c7 c8 seen).bind (If K)
  | 0,_,_,_,_,_,_,_,_,_,_,_,_=>by kernel_rfl
  | m+1,t8,t9,t10,c1,c2,c3,c4,c5,c6,c7,c8,seen=>by
    have h1:En n K (m+1) t8 t9 t10 c1 c2 c3 c4 c5 c6 c7 c8 seen=Qk n t8 t9 t10 c1 c2 c3 c4 c5 c6 c7 c8 seen (En n K m) (fun a=>If K (.out a)) (fun a=>If K (.ret a)) (fun p=>If K (.pan p)):=by kernel_rfl
    have h2:En n K m=fun t8 t9 t10 c1 c2 c3 c4 c5 c6 c7 c8 seen=>(vd n m t8 t9 t10 c1 c2 c3 c4 c5 c6 c7 c8 seen).bind (If K):=by
      repeat (refine funext fun _=>?_)
      exact fE n K m _ _ _ _ _ _ _ _ _ _ _ _
    rw [h1,h2];exact (WS n m _ _ _ _ _ _ _ _ _ _ _ _ (If K)).symm
theorem PQ (n:Nat):Vc tys (da Out (dm n)) (Gn n) n (ta [1,1,0,1,0,0] (aa Tryz.f85)) 0:=Ca (sp:=Fr) (rp:=Er) (by kernel_rfl) fun K σ ρ=>fE n K n σ.1 σ.2.1 σ.2.2.1 ρ.1.1 ρ.1.2.1 ρ.1.2.2.1 ρ.1.2.2.2.1 ρ.1.2.2.2.2.1 ρ.1.2.2.2.2.2.1 ρ.1.2.2.2.2.2.2.1 ρ.1.2.2.2.2.2.2.2.1 ρ.2.1
theorem XS (n:Nat):qa tys (da Out (dm n)) (Gn n) n (aa Tryz.f85) 0:=⟨trivial,⟨trivial,⟨⟨trivial,⟨PQ n,⟨trivial,⟨⟨trivial,trivial⟩,⟨⟨trivial,⟨⟨trivial,⟨⟨trivial,trivial⟩,trivial⟩⟩,trivial⟩⟩,trivial⟩⟩⟩⟩⟩,⟨⟨trivial,⟨⟨trivial,trivial⟩,trivial⟩⟩,⟨trivial,trivial⟩⟩⟩⟩⟩
theorem HV (n:Nat):Enters Tryz.prog 85:=enters_of (c:=aa Tryz.f85) Tryz.func85 (by kernel_rfl) (by kernel_rfl)
def mL (n:Nat):Entry:=⟨85,pcT K8 (.one .bool) (fun xs=>Qm n xs.1),none,none⟩
theorem AY (n:Nat):EntryOk Tryz.prog gl (mL n):=wa (HV n) fun xs y h=>ja tys_ok (cA n) mixed (hint:=Gn n) (n:=n) Tryz.func85 (Ea (XS n)) (ma (φ:=(fun y=>some (Out.ret (Uc (.one .bool) y)))) (by kernel_rfl) (P2 n xs.1 _) h)
def Fn (n:Nat):List Entry:=mL n::dm n
theorem KC (n:Nat):AllOk Tryz.prog gl (Fn n):=.cons (AY n) (cA n)
def Gc (n:Nat) {R:Type} (s1:(Sq Int)) (v1 t7 t8:Int) (kn:(Sq Int)→Int→Int→Int→Option R) (ko:(Unit)→Option R) (kr:(Int)→Option R) (kp:Int→Option R):Option R:=if (decide (t8<t7))=true then if 0≤t8∧t8<(s1.n:Int) then if (v1==(s1.at' (Int.toNat t8)))=true then kr t8 else kn s1 v1 t7 (IntKind.wrap .i64 (t8+(1:Int))) else none else ko ()
def Ga (n:Nat):Nat→(Sq Int)→Int→Int→Int→Option (Lx (Unit) (Int))
 | 0,_,_,_,_=>none
 | m+1,s1,v1,t7,t8=>Gc n s1 v1 t7 t8 (Ga n m) (fun a=>some (.out a)) (fun a=>some (.ret a)) (fun p=>some (.pan p))
theorem Nz (n m:Nat) {S:Type}:∀ s1 v1 t7 t8 (φ:_→Option S),(Ga n (m+1) s1 v1 t7 t8).bind φ=Gc n s1 v1 t7 t8 (fun s1 v1 t7 t8=>(Ga n m s1 v1 t7 t8).bind φ) (fun a=>φ (.out a)) (fun a=>φ (.ret a)) (fun p=>φ (.pan p)):=by
  intros;first | (simp only [Ga,Gc,fa,ba,iB,bB,oL,oX,nB,Option.bind_some]) | rfl
def mg:List Sl:=.dat (.sl (.int .i64))::.dat (.int .i64)::tp 5 (.dat (.int .i64)::.dat (.int .i64)::tp 10 [])
def lg:List RS:=[]
def rr:List Sl:=tp 19 []
def qr:List RS:=[]
def tr:List Sl:=tp 4 (.dat (.int .i64)::tp 14 [])
def sr:List RS:=[]
def Gb (K:XE→List AV→ia→Option Out):Lx (Unit) (Int)→Option Out:=fun x=>onL x (fun a=>Ye rr qr () () (K (.exit 0))) (fun a=>Ye tr sr (a,()) () (K .ret)) (fun _=>none)
def fg (n:Nat) {R:Type} (s:(Sq Int)) (v:Int) (k:Int→Option R):Option R:=(Ga n n s v (s.n:Int) (0:Int)).bind fun x_1=>onL x_1 (fun a_2=>k (-1:Int)) (fun a_3=>k a_3) (fun _=>none)
def We (n:Nat) (s:(Sq Int)) (v:Int):Option Int:=fg n s v some
theorem OD (n:Nat) {S:Type}:∀ s v (φ:_→Option S),(We n s v).bind φ=fg n s v φ:=by
  intros;unfold We fg;first | (simp only [fa,ba,iB,bB,oL,oX,nB,Option.bind_some]) | rfl
def ze (n:Nat):Hint Out:={ live:=fun c=>(cond (Nat.beq c 0) [(0,some (.sl (.int .i64))),(1,none),(7,none),(8,none)] []),run:=fun c=>(cond (Nat.beq c 0) (some (Zl mg lg fun σ ρ K=>(Ga n n σ.1 σ.2.1 σ.2.2.1 σ.2.2.2.1).bind (Gb K))) none),xm:=fun c q=>(cond (Nat.beq c 0&&Nat.beq (q.getD 1000000) 0&&q.isSome) (some []) (cond (Nat.beq c 1&&q.isNone) (some [(4,none)]) none)) }
def xe (n:Nat) (K:XE→List AV→ia→Option Out) (m:Nat) (s1:(Sq Int)) (v1:Int) (t7:Int) (t8:Int):Option Out:=rd tys (da Out (Fn n)) (ze n) n (ta [1,0,1,0,0] (aa Tryz.f237)) 0 mg lg K m (s1,(v1,(t7,(t8,())))) ()
theorem lm (n:Nat) (K:XE→List AV→ia→Option Out):∀ (m:Nat) s1 v1 t7 t8,xe n K m s1 v1 t7 t8=(Ga n m s1 v1 t7 t8).bind (Gb K)
  | 0,_,_,_,_=>by kernel_rfl
  | m+1,s1,v1,t7,t8=>by
    have h1:xe n K (m+1) s1 v1 t7 t8=Gc n s1 v1 t7 t8 (xe n K m) (fun a=>Gb K (.out a)) (fun a=>Gb K (.ret a)) (fun p=>Gb K (.pan p)):=by kernel_rfl
    have h2:xe n K m=fun s1 v1 t7 t8=>(Ga n m s1 v1 t7 t8).bind (Gb K):=by
      repeat (refine funext fun _=>?_)
      exact lm n K m _ _ _ _
    rw [h1,h2];exact (Nz n m _ _ _ _ (Gb K)).symm
theorem sw (n:Nat):Vc tys (da Out (Fn n)) (ze n) n (ta [1,0,1,0,0] (aa Tryz.f237)) 0:=Ca (sp:=mg) (rp:=lg) (by kernel_rfl) fun K σ ρ=>lm n K n σ.1 σ.2.1 σ.2.2.1 σ.2.2.2.1
theorem Oz (n:Nat):qa tys (da Out (Fn n)) (ze n) n (aa Tryz.f237) 0:=⟨trivial,⟨⟨trivial,⟨sw n,⟨trivial,⟨⟨trivial,trivial⟩,⟨⟨trivial,⟨trivial,⟨⟨trivial,trivial⟩,trivial⟩⟩⟩,trivial⟩⟩⟩⟩⟩,⟨trivial,trivial⟩⟩⟩
theorem jB (n:Nat):Enters Tryz.prog 237:=enters_of (c:=aa Tryz.f237) Tryz.func237 (by kernel_rfl) (by kernel_rfl)
def Ho (n:Nat):Entry:=⟨237,pcT (.pair (.sl (.int .i64)) (.pair (.int .i64) .unit)) (.one (.int .i64)) (fun xs=>We n xs.1 xs.2.1),none,none⟩
theorem nC (n:Nat):EntryOk Tryz.prog gl (Ho n):=wa (jB n) fun xs y h=>ja tys_ok (KC n) mixed (hint:=ze n) (n:=n) Tryz.func237 (Ea (Oz n)) (ma (φ:=(fun y=>some (Out.ret (Uc (.one (.int .i64)) y)))) (by kernel_rfl) (OD n xs.1 xs.2.1 _) h)
def Qi (n:Nat):List Entry:=Ho n::Fn n
theorem Ol (n:Nat):AllOk Tryz.prog gl (Qi n):=.cons (nC n) (KC n)
def we (n:Nat) {R:Type} (s:(Sq Int)) (v:Int) (k:Bool→Option R):Option R:=(We n s v).bind fun v1=>k (decide (v1≥(0:Int)))
def Fc (n:Nat) (s:(Sq Int)) (v:Int):Option Bool:=we n s v some
theorem Mz (n:Nat) {S:Type}:∀ s v (φ:_→Option S),(Fc n s v).bind φ=we n s v φ:=by
  intros;unfold Fc we;first | (simp only [fa,ba,iB,bB,oL,oX,nB,Option.bind_some]) | rfl
def Fj (n:Nat):Hint Out:={ live:=fun c=>[],run:=fun c=>none,xm:=fun c q=>none }
theorem Ut (n:Nat):qa tys (da Out (Qi n)) (Fj n) n (aa Tryz.f212) 0:=oa (fun _=>rfl) _ _ (by kernel_rfl)
theorem Rv (n:Nat):Enters Tryz.prog 212:=enters_of (c:=aa Tryz.f212) Tryz.func212 (by kernel_rfl) (by kernel_rfl)
def Nl (n:Nat):Entry:=⟨212,pcT (.pair (.sl (.int .i64)) (.pair (.int .i64) .unit)) (.one .bool) (fun xs=>Fc n xs.1 xs.2.1),none,none⟩
theorem qw (n:Nat):EntryOk Tryz.prog gl (Nl n):=wa (Rv n) fun xs y h=>ja tys_ok (Ol n) mixed (hint:=Fj n) (n:=n) Tryz.func212 (Ea (Ut n)) (ma (φ:=(fun y=>some (Out.ret (Uc (.one .bool) y)))) (by kernel_rfl) (Mz n xs.1 xs.2.1 _) h)
def kg (n:Nat):List Entry:=Nl n::Qi n
theorem dj (n:Nat):AllOk Tryz.prog gl (kg n):=.cons (qw n) (Ol n)
def Mn (n:Nat) {R:Type} (r:T0) (b0:(Sq Int)) (k:(Bool×(Sq Int)×Unit)→Option R):Option R:=(Fc n b0 r.2.1).bind fun v=>k (v,(b0,()))
def Sk (n:Nat) (r:T0) (b0:(Sq Int)):Option (Bool×(Sq Int)×Unit):=Mn n r b0 some
theorem sT (n:Nat) {S:Type}:∀ r b0 (φ:_→Option S),(Sk n r b0).bind φ=Mn n r b0 φ:=by
  intros;unfold Sk Mn;first | (simp only [fa,ba,iB,bB,oL,oX,nB,Option.bind_some]) | rfl
def Rw (n:Nat):Hint OutS:={ live:=fun c=>[],run:=fun c=>none,xm:=fun c q=>none }
theorem HL (n:Nat):qa tys (da OutS (kg n)) (Rw n) n (aa Tryz.f211) 0:=oa (fun _=>rfl) _ _ (by kernel_rfl)
theorem AO (n:Nat):Enters Tryz.prog 211:=enters_of (c:=aa Tryz.f211) Tryz.func211 (by kernel_rfl) (by kernel_rfl)
def RC:List RSp:=[.one (.dat K0),.one (.ptr 0 0 0)]
def QC:List RS:=[.box 26 1 true [.dat (.sl (.int .i64))]]
def BO:List Sl:=[.top,.ptr 0 0 0]
def CO:List RSp:=[.one (.dat .bool)]
def Tk:List RS:=[.box 26 1 true [.dat (.sl (.int .i64))]]
def Ku (y:(Bool×(Sq Int)×Unit)):OutS:=⟨false,yB (sm Tk ((y.2.1,()),())) BO (),UX (OV (sm Tk ((y.2.1,()),())) CO ((y.1,()),())),pJ (sm Tk ((y.2.1,()),())) Tk ((y.2.1,()),())⟩
theorem aR (n:Nat):EntryOk Tryz.prog gl ⟨211,Ct,none,some (csT RC QC (fun σ ρ=>Sk n σ.1.1 ρ.1.1) Ku)⟩:=Cu (AO n) fun σ ρ y h=>nh tys_ok (dj n) mixed (hint:=Rw n) (n:=n) Tryz.func211 (Ea (HL n)) (ma (φ:=fun y=>some (Ku y)) (by kernel_rfl) (sT n σ.1.1 ρ.1.1 _) h)
def Zi (n:Nat):List Entry:=⟨211,Ct,none,some (csT RC QC (fun σ ρ=>Sk n σ.1.1 ρ.1.1) Ku)⟩::kg n
theorem Lu (n:Nat):AllOk Tryz.prog gl (Zi n):=.cons (aR n) (dj n)
def Ia (n:Nat) {R:Type} (s1:(Sq T0)) (t7 t8:Int) (b01:(Sq Int)) (kn:(Sq T0)→Int→Int→(Sq Int)→Option R) (ko:(Unit)→Option R) (kr:(Int)→Option R) (kp:Int→Option R):Option R:=if (decide (t8<t7))=true then if 0≤t8∧t8<(s1.n:Int) then (Sk n (((((s1.at' (Int.toNat t8))).1).1,(((((s1.at' (Int.toNat t8))).1).2).1,())),((((s1.at' (Int.toNat t8))).2).1,(((((s1.at' (Int.toNat t8))).2).2).1,((((((s1.at' (Int.toNat t8))).2).2).2).1,(((((((s1.at' (Int.toNat t8))).2).2).2).2).1,()))))) b01).bind fun v=>if v.1=true then kr t8 else kn s1 t7 (IntKind.wrap .i64 (t8+(1:Int))) v.2.1 else none else ko ()
def sa (n:Nat):Nat→(Sq T0)→Int→Int→(Sq Int)→Option (Lx (Unit) (Int))
 | 0,_,_,_,_=>none
 | m+1,s1,t7,t8,b01=>Ia n s1 t7 t8 b01 (sa n m) (fun a=>some (.out a)) (fun a=>some (.ret a)) (fun p=>some (.pan p))
theorem ej (n m:Nat) {S:Type}:∀ s1 t7 t8 b01 (φ:_→Option S),(sa n (m+1) s1 t7 t8 b01).bind φ=Ia n s1 t7 t8 b01 (fun s1 t7 t8 b01=>(sa n m s1 t7 t8 b01).bind φ) (fun a=>φ (.out a)) (fun a=>φ (.ret a)) (fun p=>φ (.pan p)):=by
  intros;first | (simp only [sa,Ia,fa,ba,iB,bB,oL,oX,nB,Option.bind_some]) | rfl
def Ub:List Sl:=.dat (.sl K0)::.fnp 211 0 0 0::tp 5 (.dat (.int .i64)::.dat (.int .i64)::tp 10 [])
def Tb:List RS:=[.box 26 1 true [.dat (.sl (.int .i64))],.ghost [.top,.top]]
def Mg:List Sl:=tp 19 []
def Lg:List RS:=[.ghost [.top,.top]]
def Og:List Sl:=tp 4 (.dat (.int .i64)::tp 14 [])
def Ng:List RS:=[.ghost [.top,.top]]
def Aa (K:XE→List AV→ia→Option OutS):Lx (Unit) (Int)→Option OutS:=fun x=>onL x (fun a=>Ye Mg Lg () ((),()) (K (.exit 0))) (fun a=>Ye Og Ng (a,()) ((),()) (K .ret)) (fun _=>none)
def Db (n:Nat) {R:Type} (s:(Sq T0)) (b0:(Sq Int)) (k:(Int×Unit)→Option R):Option R:=(sa n n s (s.n:Int) (0:Int) b0).bind fun x_1=>onL x_1 (fun a_2=>k ((-1:Int),())) (fun a_3=>k (a_3,())) (fun _=>none)
def Ma (n:Nat) (s:(Sq T0)) (b0:(Sq Int)):Option (Int×Unit):=Db n s b0 some
theorem Ek (n:Nat) {S:Type}:∀ s b0 (φ:_→Option S),(Ma n s b0).bind φ=Db n s b0 φ:=by
  intros;unfold Ma Db;first | (simp only [fa,ba,iB,bB,oL,oX,nB,Option.bind_some]) | rfl
def ib (n:Nat):Hint OutS:={ live:=fun c=>(cond (Nat.beq c 0) [(0,some (.sl K0)),(1,none),(7,none),(8,none)] []),run:=fun c=>(cond (Nat.beq c 0) (some (Zl Ub Tb fun σ ρ K=>(sa n n σ.1 σ.2.1 σ.2.2.1 ρ.1.1).bind (Aa K))) none),xm:=fun c q=>(cond (Nat.beq c 0&&Nat.beq (q.getD 1000000) 0&&q.isSome) (some []) (cond (Nat.beq c 1&&q.isNone) (some [(4,none)]) none)) }
def fb (n:Nat) (K:XE→List AV→ia→Option OutS) (m:Nat) (s1:(Sq T0)) (t7:Int) (t8:Int) (b01:(Sq Int)):Option OutS:=rd tys (da OutS (Zi n)) (ib n) n (ta [1,0,1,0,0] (aa Tryz.f236)) 0 Ub Tb K m (s1,(t7,(t8,()))) ((b01,()),((),()))
theorem Vd (n:Nat) (K:XE→List AV→ia→Option OutS):∀ (m:Nat) s1 t7 t8 b01,fb n K m s1 t7 t8 b01=(sa n m s1 t7 t8 b01).bind (Aa K)
  | 0,_,_,_,_=>by kernel_rfl
  | m+1,s1,t7,t8,b01=>by
    have h1:fb n K (m+1) s1 t7 t8 b01=Ia n s1 t7 t8 b01 (fb n K m) (fun a=>Aa K (.out a)) (fun a=>Aa K (.ret a)) (fun p=>Aa K (.pan p)):=by kernel_rfl
    have h2:fb n K m=fun s1 t7 t8 b01=>(sa n m s1 t7 t8 b01).bind (Aa K):=by
      repeat (refine funext fun _=>?_)
      exact Vd n K m _ _ _ _
    rw [h1,h2];exact (ej n m _ _ _ _ (Aa K)).symm
theorem Pi (n:Nat):Vc tys (da OutS (Zi n)) (ib n) n (ta [1,0,1,0,0] (aa Tryz.f236)) 0:=Ca (sp:=Ub) (rp:=Tb) (by kernel_rfl) fun K σ ρ=>Vd n K n σ.1 σ.2.1 σ.2.2.1 ρ.1.1
theorem fj (n:Nat):qa tys (da OutS (Zi n)) (ib n) n (aa Tryz.f236) 0:=⟨trivial,⟨⟨trivial,⟨Pi n,⟨trivial,⟨⟨trivial,trivial⟩,⟨⟨trivial,⟨trivial,⟨⟨trivial,trivial⟩,trivial⟩⟩⟩,trivial⟩⟩⟩⟩⟩,⟨trivial,trivial⟩⟩⟩
theorem wj (n:Nat):Enters Tryz.prog 236:=enters_of (c:=aa Tryz.f236) Tryz.func236 (by kernel_rfl) (by kernel_rfl)
def oe:List RSp:=[.one (.dat (.sl K0)),.one (.fnp 211 0 0 0)]
def me:List RS:=[.box 26 1 true [.dat (.sl (.int .i64))]]
def xj:List Sl:=[.top,.top]
def yj:List RSp:=[.one (.dat (.int .i64))]
def rb:List RS:=[]
def Cc (y:(Int×Unit)):OutS:=⟨false,yB (sm rb ()) xj (),UX (OV (sm rb ()) yj ((y.1,()),())),pJ (sm rb ()) rb ()⟩
theorem Kj (n:Nat):EntryOk Tryz.prog gl ⟨236,Ct,none,some (csT oe me (fun σ ρ=>Ma n σ.1.1 ρ.1.1) Cc)⟩:=Cu (wj n) fun σ ρ y h=>nh tys_ok (Lu n) mixed (hint:=ib n) (n:=n) Tryz.func236 (Ea (fj n)) (ma (φ:=fun y=>some (Cc y)) (by kernel_rfl) (Ek n σ.1.1 ρ.1.1 _) h)
def nc (n:Nat):List Entry:=⟨236,Ct,none,some (csT oe me (fun σ ρ=>Ma n σ.1.1 ρ.1.1) Cc)⟩::Zi n
theorem Id (n:Nat):AllOk Tryz.prog gl (nc n):=.cons (Kj n) (Lu n)
def eb (n:Nat) {R:Type} (s:(Sq T0)) (b0:(Sq Int)) (k:(Bool×Unit)→Option R):Option R:=(Ma n s b0).bind fun v=>k ((decide (v.1≥(0:Int))),())
def Ha (n:Nat) (s:(Sq T0)) (b0:(Sq Int)):Option (Bool×Unit):=eb n s b0 some
theorem cj (n:Nat) {S:Type}:∀ s b0 (φ:_→Option S),(Ha n s b0).bind φ=eb n s b0 φ:=by
  intros;unfold Ha eb;first | (simp only [fa,ba,iB,bB,oL,oX,nB,Option.bind_some]) | rfl
def nd (n:Nat):Hint OutS:={ live:=fun c=>[],run:=fun c=>none,xm:=fun c q=>none }
theorem Hh (n:Nat):qa tys (da OutS (nc n)) (nd n) n (aa Tryz.f210) 0:=oa (fun _=>rfl) _ _ (by kernel_rfl)
theorem Qh (n:Nat):Enters Tryz.prog 210:=enters_of (c:=aa Tryz.f210) Tryz.func210 (by kernel_rfl) (by kernel_rfl)
def Hd:List RSp:=[.one (.dat (.sl K0)),.one (.fnp 211 0 0 0)]
def Gd:List RS:=[.box 26 1 true [.dat (.sl (.int .i64))]]
def Rh:List Sl:=[.top,.top]
def Sh:List RSp:=[.one (.dat .bool)]
def Sa:List RS:=[]
def Yb (y:(Bool×Unit)):OutS:=⟨false,yB (sm Sa ()) Rh (),UX (OV (sm Sa ()) Sh ((y.1,()),())),pJ (sm Sa ()) Sa ()⟩
theorem Oi (n:Nat):EntryOk Tryz.prog gl ⟨210,Ct,none,some (csT Hd Gd (fun σ ρ=>Ha n σ.1.1 ρ.1.1) Yb)⟩:=Cu (Qh n) fun σ ρ y h=>nh tys_ok (Id n) mixed (hint:=nd n) (n:=n) Tryz.func210 (Ea (Hh n)) (ma (φ:=fun y=>some (Yb y)) (by kernel_rfl) (cj n σ.1.1 ρ.1.1 _) h)
def Sb (n:Nat):List Entry:=⟨210,Ct,none,some (csT Hd Gd (fun σ ρ=>Ha n σ.1.1 ρ.1.1) Yb)⟩::nc n
theorem Wc (n:Nat):AllOk Tryz.prog gl (Sb n):=.cons (Oi n) (Id n)
def mG (n:Nat) {R:Type} (m0:T1) (states:(Sq Int)) (k:Bool→Option R):Option R:=(Ha n m0.2.2.2.2.1 states).bind fun v=>k v.1
def lG (n:Nat) (m0:T1) (states:(Sq Int)):Option Bool:=mG n m0 states some
theorem Yab (n:Nat) {S:Type}:∀ m0 states (φ:_→Option S),(lG n m0 states).bind φ=mG n m0 states φ:=by
  intros;unfold lG mG;first | (simp only [fa,ba,iB,bB,oL,oX,nB,Option.bind_some]) | rfl
def IL (n:Nat):Hint Out:={ live:=fun c=>[],run:=fun c=>none,xm:=fun c q=>none }
theorem PY (n:Nat):qa tys (da Out (Sb n)) (IL n) n (aa Tryz.f169) 0:=oa (fun _=>rfl) _ _ (by kernel_rfl)
theorem R3 (n:Nat):Enters Tryz.prog 169:=enters_of (c:=aa Tryz.f169) Tryz.func169 (by kernel_rfl) (by kernel_rfl)
def tT (n:Nat):Entry:=⟨169,pcT K17 (.one .bool) (fun xs=>lG n xs.1 xs.2.1),none,none⟩
theorem i7 (n:Nat):EntryOk Tryz.prog gl (tT n):=wa (R3 n) fun xs y h=>ja tys_ok (Wc n) mixed (hint:=IL n) (n:=n) Tryz.func169 (Ea (PY n)) (ma (φ:=(fun y=>some (Out.ret (Uc (.one .bool) y)))) (by kernel_rfl) (Yab n xs.1 xs.2.1 _) h)
def uJ (n:Nat):List Entry:=tT n::Sb n
theorem vI (n:Nat):AllOk Tryz.prog gl (uJ n):=.cons (i7 n) (Wc n)
def zt (n:Nat) {R:Type} (m0:T1) (k:Bool→Option R):Option R:=(lG n (m0.1,(m0.2.1,(m0.2.2.1,((m0.2.2.2.1.1,(m0.2.2.2.1.2.1,())),(m0.2.2.2.2.1,(m0.2.2.2.2.2.1,(m0.2.2.2.2.2.2.1,(m0.2.2.2.2.2.2.2.1,(m0.2.2.2.2.2.2.2.2.1,()))))))))) (⟨2,fun q=>List.getD (α:=Int) [(0:Int),(1:Int)] q (Ba (.int .i64))⟩:Sq Int)).bind fun v=>k (!v)
def Fp (n:Nat) (m0:T1):Option Bool:=zt n m0 some
theorem QY (n:Nat) {S:Type}:∀ m0 (φ:_→Option S),(Fp n m0).bind φ=zt n m0 φ:=by
  intros;unfold Fp zt;first | (simp only [fa,ba,iB,bB,oL,oX,nB,Option.bind_some]) | rfl
def SC (n:Nat):Hint Out:={ live:=fun c=>[],run:=fun c=>none,xm:=fun c q=>none }
theorem bR (n:Nat):qa tys (da Out (uJ n)) (SC n) n (aa Tryz.f122) 0:=oa (fun _=>rfl) _ _ (by kernel_rfl)
theorem uT (n:Nat):Enters Tryz.prog 122:=enters_of (c:=aa Tryz.f122) Tryz.func122 (by kernel_rfl) (by kernel_rfl)
def wI (n:Nat):Entry:=⟨122,pcT K2 (.one .bool) (fun xs=>Fp n xs.1),none,none⟩
theorem UV (n:Nat):EntryOk Tryz.prog gl (wI n):=wa (uT n) fun xs y h=>ja tys_ok (vI n) mixed (hint:=SC n) (n:=n) Tryz.func122 (Ea (bR n)) (ma (φ:=(fun y=>some (Out.ret (Uc (.one .bool) y)))) (by kernel_rfl) (QY n xs.1 _) h)
def Ay (n:Nat):List Entry:=wI n::uJ n
theorem qA (n:Nat):AllOk Tryz.prog gl (Ay n):=.cons (UV n) (vI n)
def Kq (n:Nat) {R:Type} (n0:Int) (k:Int→Option R):Option R:=k (IntKind.wrap .i64 (n0+(1000:Int)))
def Hp (n:Nat) (n0:Int):Option Int:=Kq n n0 some
theorem X3 (n:Nat) {S:Type}:∀ n0 (φ:_→Option S),(Hp n n0).bind φ=Kq n n0 φ:=by
  intros;unfold Hp Kq;first | (simp only [fa,ba,iB,bB,oL,oX,nB,Option.bind_some]) | rfl
def tE (n:Nat):Hint Out:={ live:=fun c=>[],run:=fun c=>none,xm:=fun c q=>none }
theorem DT (n:Nat):qa tys (da Out (Ay n)) (tE n) n (aa Tryz.f108) 0:=oa (fun _=>rfl) _ _ (by kernel_rfl)
theorem XV (n:Nat):Enters Tryz.prog 108:=enters_of (c:=aa Tryz.f108) Tryz.func108 (by kernel_rfl) (by kernel_rfl)
def LL (n:Nat):Entry:=⟨108,pcT (.pair (.int .i64) .unit) (.one (.int .i64)) (fun xs=>Hp n xs.1),none,none⟩
theorem UY (n:Nat):EntryOk Tryz.prog gl (LL n):=wa (XV n) fun xs y h=>ja tys_ok (qA n) mixed (hint:=tE n) (n:=n) Tryz.func108 (Ea (DT n)) (ma (φ:=(fun y=>some (Out.ret (Uc (.one (.int .i64)) y)))) (by kernel_rfl) (X3 n xs.1 _) h)
def On (n:Nat):List Entry:=LL n::Ay n
theorem UC (n:Nat):AllOk Tryz.prog gl (On n):=.cons (UY n) (qA n)
def Fl (n:Nat) {R:Type} (tenant1 count bytes:Int) (t9:(Sq T1)) (t10 t11:Int) (kn:Int→Int→Int→(Sq T1)→Int→Int→Option R) (ko:(Int×Int)→Option R) (kr:Unit→Option R) (kp:Int→Option R):Option R:=if (decide (t11<t10))=true then if 0≤t11∧t11<(t9.n:Int) then if (((((t9.at' (Int.toNat t11))).2).1)==tenant1)=true then (Fp n (((t9.at' (Int.toNat t11))).1,((((t9.at' (Int.toNat t11))).2).1,(((((t9.at' (Int.toNat t11))).2).2).1,((((((((t9.at' (Int.toNat t11))).2).2).2).1).1,((((((((t9.at' (Int.toNat t11))).2).2).2).1).2).1,())),((((((((t9.at' (Int.toNat t11))).2).2).2).2).1),((((((((t9.at' (Int.toNat t11))).2).2).2).2).2).1,(((((((((t9.at' (Int.toNat t11))).2).2).2).2).2).2).1,((((((((((t9.at' (Int.toNat t11))).2).2).2).2).2).2).2).1,(((((((((((t9.at' (Int.toNat t11))).2).2).2).2).2).2).2).2).1,())))))))))).bind fun v=>if (!v)=true then (Hp n (((((((((t9.at' (Int.toNat t11))).2).2).2).2).2).1).size:Int)).bind fun v1=>kn tenant1 (IntKind.wrap .i64 (count+(1:Int))) (IntKind.wrap .i64 (bytes+v1)) t9 t10 (IntKind.wrap .i64 (t11+(1:Int))) else kn tenant1 count bytes t9 t10 (IntKind.wrap .i64 (t11+(1:Int))) else kn tenant1 count bytes t9 t10 (IntKind.wrap .i64 (t11+(1:Int))) else none else ko (count,bytes)
def Kd (n:Nat):Nat→Int→Int→Int→(Sq T1)→Int→Int→Option (Lx (Int×Int) Unit)
 | 0,_,_,_,_,_,_=>none
 | m+1,tenant1,count,bytes,t9,t10,t11=>Fl n tenant1 count bytes t9 t10 t11 (Kd n m) (fun a=>some (.out a)) (fun a=>some (.ret a)) (fun p=>some (.pan p))
theorem MU (n m:Nat) {S:Type}:∀ tenant1 count bytes t9 t10 t11 (φ:_→Option S),(Kd n (m+1) tenant1 count bytes t9 t10 t11).bind φ=Fl n tenant1 count bytes t9 t10 t11 (fun tenant1 count bytes t9 t10 t11=>(Kd n m tenant1 count bytes t9 t10 t11).bind φ) (fun a=>φ (.out a)) (fun a=>φ (.ret a)) (fun p=>φ (.pan p)):=by
  intros;first | (simp only [Kd,Fl,fa,ba,iB,bB,oL,oX,nB,Option.bind_some]) | rfl
def Vr:List Sl:=.top::.dat (.int .i64)::.top::.top::.dat (.int .i64)::.dat (.int .i64)::.top::.top::.top::.dat (.sl K1)::.dat (.int .i64)::.dat (.int .i64)::tp 23 []
def Ur:List RS:=[]
def XH:List Sl:=tp 4 (.dat (.int .i64)::.dat (.int .i64)::tp 29 [])
def WH:List RS:=[]
def Uf (K:XE→List AV→ia→Option Out):Lx (Int×Int) Unit→Option Out:=fun x=>onL x (fun a=>Ye XH WH (a.1,(a.2,())) () (K (.exit 0))) (fun _=>none) (fun _=>none)
def Ux (n:Nat) {R:Type} (s:U1) (tenant:Int) (k:(Int×Int×Unit)→Option R):Option R:=(Kd n n tenant (0:Int) (0:Int) s.2.1 (s.2.1.n:Int) (0:Int)).bind fun x_1=>onL x_1 (fun a_2=>k (a_2.1,(a_2.2,()))) (fun _=>none) (fun _=>none)
def Zp (n:Nat) (s:U1) (tenant:Int):Option (Int×Int×Unit):=Ux n s tenant some
theorem I5 (n:Nat) {S:Type}:∀ s tenant (φ:_→Option S),(Zp n s tenant).bind φ=Ux n s tenant φ:=by
  intros;unfold Zp Ux;first | (simp only [fa,ba,iB,bB,oL,oX,nB,Option.bind_some]) | rfl
def Oo (n:Nat):Hint Out:={ live:=fun c=>(cond (Nat.beq c 0) [(1,none),(4,none),(5,none),(9,some (.sl K1)),(10,none),(11,none)] []),run:=fun c=>(cond (Nat.beq c 0) (some (Zl Vr Ur fun σ ρ K=>(Kd n n σ.1 σ.2.1 σ.2.2.1 σ.2.2.2.1 σ.2.2.2.2.1 σ.2.2.2.2.2.1).bind (Uf K))) none),xm:=fun c q=>(cond (Nat.beq c 0&&Nat.beq (q.getD 1000000) 0&&q.isSome) (some [(4,none),(5,none)]) none) }
def No (n:Nat) (K:XE→List AV→ia→Option Out) (m:Nat) (tenant1:Int) (count:Int) (bytes:Int) (t9:(Sq T1)) (t10:Int) (t11:Int):Option Out:=rd tys (da Out (On n)) (Oo n) n (ta [1,0,1,0,0] (aa Tryz.f88)) 0 Vr Ur K m (tenant1,(count,(bytes,(t9,(t10,(t11,())))))) ()
theorem LF (n:Nat) (K:XE→List AV→ia→Option Out):∀ (m:Nat) tenant1 count bytes t9 t10 t11,No n K m tenant1 count bytes t9 t10 t11=(Kd n m tenant1 count bytes t9 t10 t11).bind (Uf K)
  | 0,_,_,_,_,_,_=>by kernel_rfl
  | m+1,tenant1,count,bytes,t9,t10,t11=>by
    have h1:No n K (m+1) tenant1 count bytes t9 t10 t11=Fl n tenant1 count bytes t9 t10 t11 (No n K m) (fun a=>Uf K (.out a)) (fun a=>Uf K (.ret a)) (fun p=>Uf K (.pan p)):=by kernel_rfl
    have h2:No n K m=fun tenant1 count bytes t9 t10 t11=>(Kd n m tenant1 count bytes t9 t10 t11).bind (Uf K):=by
      repeat (refine funext fun _=>?_)
      exact LF n K m _ _ _ _ _ _
    rw [h1,h2];exact (MU n m _ _ _ _ _ _ (Uf K)).symm
theorem NR (n:Nat):Vc tys (da Out (On n)) (Oo n) n (ta [1,0,1,0,0] (aa Tryz.f88)) 0:=Ca (sp:=Vr) (rp:=Ur) (by kernel_rfl) fun K σ ρ=>LF n K n σ.1 σ.2.1 σ.2.2.1 σ.2.2.2.1 σ.2.2.2.2.1 σ.2.2.2.2.2.1
theorem NU (n:Nat):qa tys (da Out (On n)) (Oo n) n (aa Tryz.f88) 0:=⟨trivial,⟨⟨trivial,⟨NR n,⟨trivial,⟨⟨trivial,trivial⟩,⟨⟨trivial,⟨trivial,⟨trivial,trivial⟩⟩⟩,trivial⟩⟩⟩⟩⟩,⟨trivial,trivial⟩⟩⟩
theorem SW (n:Nat):Enters Tryz.prog 88:=enters_of (c:=aa Tryz.f88) Tryz.func88 (by kernel_rfl) (by kernel_rfl)
def xN (n:Nat):Entry:=⟨88,pcT K18 (.many (.pair (.int .i64) (.pair (.int .i64) .unit))) (fun xs=>Zp n xs.1 xs.2.1),none,none⟩
theorem ZZ (n:Nat):EntryOk Tryz.prog gl (xN n):=wa (SW n) fun xs y h=>ja tys_ok (UC n) mixed (hint:=Oo n) (n:=n) Tryz.func88 (Ea (NU n)) (ma (φ:=(fun y=>some (Out.ret (Uc (.many (.pair (.int .i64) (.pair (.int .i64) .unit))) y)))) (by kernel_rfl) (I5 n xs.1 xs.2.1 _) h)
def wC (n:Nat):List Entry:=xN n::On n
theorem jD (n:Nat):AllOk Tryz.prog gl (wC n):=.cons (ZZ n) (UC n)
def Qx (n:Nat) {R:Type} (s:U1) (c:T3) (tenant n0:Int) (k:Int→Option R):Option R:=if (decide (n0>(8192:Int)))=true then k (2:Int) else if 0≤tenant∧tenant<(c.1.n:Int) then (Zp n (s.1,(s.2.1,())) tenant).bind fun v=>if (decide ((IntKind.wrap .i64 (v.1+(1:Int)))>(((((c.1.at' (Int.toNat tenant))).2).2).1)))=false then (Hp n n0).bind fun v1=>if (decide ((IntKind.wrap .i64 (v.2.1+v1))>((((c.1.at' (Int.toNat tenant))).2).1)))=false then (Ri n (s.1,(s.2.1,()))).bind fun v2=>if (decide (v2≥(64:Int)))=true then k (5:Int) else k (0:Int) else k (5:Int) else k (5:Int) else none
def qn (n:Nat) (s:U1) (c:T3) (tenant n0:Int):Option Int:=Qx n s c tenant n0 some
theorem E5 (n:Nat) {S:Type}:∀ s c tenant n0 (φ:_→Option S),(qn n s c tenant n0).bind φ=Qx n s c tenant n0 φ:=by
  intros;unfold qn Qx;first | (simp only [fa,ba,iB,bB,oL,oX,nB,Option.bind_some]) | rfl
def AF (n:Nat):Hint Out:={ live:=fun c=>[],run:=fun c=>none,xm:=fun c q=>none }
theorem GU (n:Nat):qa tys (da Out (wC n)) (AF n) n (aa Tryz.f86) 0:=oa (fun _=>rfl) _ _ (by kernel_rfl)
theorem LW (n:Nat):Enters Tryz.prog 86:=enters_of (c:=aa Tryz.f86) Tryz.func86 (by kernel_rfl) (by kernel_rfl)
def tN (n:Nat):Entry:=⟨86,pcT K19 (.one (.int .i64)) (fun xs=>qn n xs.1 xs.2.1 xs.2.2.1 xs.2.2.2.1),none,none⟩
theorem UZ (n:Nat):EntryOk Tryz.prog gl (tN n):=wa (LW n) fun xs y h=>ja tys_ok (jD n) mixed (hint:=AF n) (n:=n) Tryz.func86 (Ea (GU n)) (ma (φ:=(fun y=>some (Out.ret (Uc (.one (.int .i64)) y)))) (by kernel_rfl) (E5 n xs.1 xs.2.1 xs.2.2.1 xs.2.2.2.1 _) h)
def tC (n:Nat):List Entry:=tN n::wC n
theorem gD (n:Nat):AllOk Tryz.prog gl (tC n):=.cons (UZ n) (jD n)
def Tx (n:Nat) {R:Type} (s:U1) (c:T3) (tenant n0:Int) (k:Int→Option R):Option R:=(mm n (s.1,(s.2.1,()))).bind fun v=>if (!v)=false then (Qm n (c.1,(c.2.1,(c.2.2.1,(c.2.2.2.1,(c.2.2.2.2.1,(c.2.2.2.2.2.1,(c.2.2.2.2.2.2.1,(c.2.2.2.2.2.2.2.1,()))))))))).bind fun v1=>if (!v1)=false then if (decide (tenant<(0:Int)))=false then if (decide (tenant≥(c.1.n:Int)))=false then if (decide (n0<(0:Int)))=true then k (1:Int) else (qn n (s.1,(s.2.1,())) (c.1,(c.2.1,(c.2.2.1,(c.2.2.2.1,(c.2.2.2.2.1,(c.2.2.2.2.2.1,(c.2.2.2.2.2.2.1,(c.2.2.2.2.2.2.2.1,())))))))) tenant n0).bind fun v2=>k v2 else k (1:Int) else k (1:Int) else k (1:Int) else k (1:Int)
def Nh (n:Nat) (s:U1) (c:T3) (tenant n0:Int):Option Int:=Tx n s c tenant n0 some
theorem H5 (n:Nat) {S:Type}:∀ s c tenant n0 (φ:_→Option S),(Nh n s c tenant n0).bind φ=Tx n s c tenant n0 φ:=by
  intros;unfold Nh Tx;first | (simp only [fa,ba,iB,bB,oL,oX,nB,Option.bind_some]) | rfl
def KF (n:Nat):Hint Out:={ live:=fun c=>[],run:=fun c=>none,xm:=fun c q=>none }
theorem LU (n:Nat):qa tys (da Out (tC n)) (KF n) n (aa Tryz.f39) 0:=oa (fun _=>rfl) _ _ (by kernel_rfl)
theorem RW (n:Nat):Enters Tryz.prog 39:=enters_of (c:=aa Tryz.f39) Tryz.func39 (by kernel_rfl) (by kernel_rfl)
def wN (n:Nat):Entry:=⟨39,pcT K19 (.one (.int .i64)) (fun xs=>Nh n xs.1 xs.2.1 xs.2.2.1 xs.2.2.2.1),none,none⟩
theorem YZ (n:Nat):EntryOk Tryz.prog gl (wN n):=wa (RW n) fun xs y h=>ja tys_ok (gD n) mixed (hint:=KF n) (n:=n) Tryz.func39 (Ea (LU n)) (ma (φ:=(fun y=>some (Out.ret (Uc (.one (.int .i64)) y)))) (by kernel_rfl) (H5 n xs.1 xs.2.1 xs.2.2.1 xs.2.2.2.1 _) h)
def vC (n:Nat):List Entry:=wN n::tC n
theorem iD (n:Nat):AllOk Tryz.prog gl (vC n):=.cons (YZ n) (gD n)
def Kr (n:Nat) {R:Type} (e:Int) (k:Int→Option R):Option R:=k e
def Nb (n:Nat) (e:Int):Option Int:=Kr n e some
theorem jR (n:Nat) {S:Type}:∀ e (φ:_→Option S),(Nb n e).bind φ=Kr n e φ:=by
  intros;unfold Nb Kr;first | (simp only [fa,ba,iB,bB,oL,oX,nB,Option.bind_some]) | rfl
def Wu (n:Nat):Hint Out:={ live:=fun c=>[],run:=fun c=>none,xm:=fun c q=>none }
theorem zJ (n:Nat):qa tys (da Out (vC n)) (Wu n) n (aa Tryz.f38) 0:=oa (fun _=>rfl) _ _ (by kernel_rfl)
theorem RL (n:Nat):Enters Tryz.prog 38:=enters_of (c:=aa Tryz.f38) Tryz.func38 (by kernel_rfl) (by kernel_rfl)
def CA (n:Nat):Entry:=⟨38,pcT (.pair (.int .i64) .unit) (.one (.int .i64)) (fun xs=>Nb n xs.1),none,none⟩
theorem KO (n:Nat):EntryOk Tryz.prog gl (CA n):=wa (RL n) fun xs y h=>ja tys_ok (iD n) mixed (hint:=Wu n) (n:=n) Tryz.func38 (Ea (zJ n)) (ma (φ:=(fun y=>some (Out.ret (Uc (.one (.int .i64)) y)))) (by kernel_rfl) (jR n xs.1 _) h)
def DA (n:Nat):List Entry:=CA n::vC n
theorem dH (n:Nat):AllOk Tryz.prog gl (DA n):=.cons (KO n) (iD n)
def Fd (n:Nat):List Entry:=Dg::DA n
theorem sf (n:Nat):AllOk Tryz.prog gl (Fd n):=.cons Fo (dH n)
def DO (n:Nat) {R:Type} (m0:T1) (k:T1→Option R):Option R:=(eE 64 m0.2.2.2.2.1).bind fun v=>k (m0.1,(m0.2.1,(m0.2.2.1,((m0.2.2.2.1.1,(m0.2.2.2.1.2.1,())),(v.1,(m0.2.2.2.2.2.1,(m0.2.2.2.2.2.2.1,(m0.2.2.2.2.2.2.2.1,(m0.2.2.2.2.2.2.2.2.1,())))))))))
def IB (n:Nat) (m0:T1):Option T1:=DO n m0 some
theorem abb (n:Nat) {S:Type}:∀ m0 (φ:_→Option S),(IB n m0).bind φ=DO n m0 φ:=by
  intros;unfold IB DO;first | (simp only [fa,ba,iB,bB,oL,oX,nB,Option.bind_some]) | rfl
def KL (n:Nat):Hint Out:={ live:=fun c=>[],run:=fun c=>none,xm:=fun c q=>none }
theorem SY (n:Nat):qa tys (da Out (Fd n)) (KL n) n (aa Tryz.f90) 0:=oa (fun _=>rfl) _ _ (by kernel_rfl)
theorem V3 (n:Nat):Enters Tryz.prog 90:=enters_of (c:=aa Tryz.f90) Tryz.func90 (by kernel_rfl) (by kernel_rfl)
def wT (n:Nat):Entry:=⟨90,pcT K2 (.one K1) (fun xs=>IB n xs.1),none,none⟩
theorem l7 (n:Nat):EntryOk Tryz.prog gl (wT n):=wa (V3 n) fun xs y h=>ja tys_ok (sf n) mixed (hint:=KL n) (n:=n) Tryz.func90 (Ea (SY n)) (ma (φ:=(fun y=>some (Out.ret (Uc (.one K1) y)))) (by kernel_rfl) (abb n xs.1 _) h)
def xT (n:Nat):List Entry:=wT n::Fd n
theorem VV (n:Nat):AllOk Tryz.prog gl (xT n):=.cons (l7 n) (sf n)
def Cb (n:Nat):List Entry:=Cg::xT n
theorem qf (n:Nat):AllOk Tryz.prog gl (Cb n):=.cons Co (VV n)
def Mh (n:Nat) {R:Type} (t10 t11 s1 t2:Int) (r2:(Sq T1)) (kn:Int→Int→Int→Int→(Sq T1)→Option R) (ko:(Int×Int×(Sq T1))→Option R) (kr:Unit→Option R) (kp:Int→Option R):Option R:=if (decide (t11<t10))=true then if 0≤t11∧t11<(r2.n:Int) then dup 1 ((IB n (((r2.at' (Int.toNat t11))).1,((((r2.at' (Int.toNat t11))).2).1,(((((r2.at' (Int.toNat t11))).2).2).1,((((((((r2.at' (Int.toNat t11))).2).2).2).1).1,((((((((r2.at' (Int.toNat t11))).2).2).2).1).2).1,())),((((((((r2.at' (Int.toNat t11))).2).2).2).2).1),((((((((r2.at' (Int.toNat t11))).2).2).2).2).2).1,(((((((((r2.at' (Int.toNat t11))).2).2).2).2).2).2).1,((((((((((r2.at' (Int.toNat t11))).2).2).2).2).2).2).2).1,(((((((((((r2.at' (Int.toNat t11))).2).2).2).2).2).2).2).2).1,())))))))))).bind fun v1=>if 0≤t11∧t11<(r2.n:Int) then kn t10 (IntKind.wrap .i64 (t11+(1:Int))) s1 t2 (⟨r2.n,fun q=>if q=(Int.toNat t11)∧q<r2.n then (v1.1,(v1.2.1,(v1.2.2.1,((v1.2.2.2.1.1,(v1.2.2.2.1.2.1,())),(v1.2.2.2.2.1,(v1.2.2.2.2.2.1,(v1.2.2.2.2.2.2.1,(v1.2.2.2.2.2.2.2.1,(v1.2.2.2.2.2.2.2.2.1,()))))))))) else r2.at' q⟩:Sq T1) else none) else none else ko (s1,t2,r2)
def Tc (n:Nat):Nat→Int→Int→Int→Int→(Sq T1)→Option (Lx (Int×Int×(Sq T1)) Unit)
 | 0,_,_,_,_,_=>none
 | m+1,t10,t11,s1,t2,r2=>Mh n t10 t11 s1 t2 r2 (Tc n m) (fun a=>some (.out a)) (fun a=>some (.ret a)) (fun p=>some (.pan p))
theorem IP (n m:Nat) {S:Type}:∀ t10 t11 s1 t2 r2 (φ:_→Option S),(Tc n (m+1) t10 t11 s1 t2 r2).bind φ=Mh n t10 t11 s1 t2 r2 (fun t10 t11 s1 t2 r2=>(Tc n m t10 t11 s1 t2 r2).bind φ) (fun a=>φ (.out a)) (fun a=>φ (.ret a)) (fun p=>φ (.pan p)):=by
  intros;first | (simp only [Tc,Mh,fa,ba,iB,bB,oL,oX,nB,Option.bind_some]) | rfl
def Mo:List Sl:=.top::.ptr 0 0 0::.ptr 1 0 0::tp 7 (.dat (.int .i64)::.dat (.int .i64)::tp 14 [])
def Lo:List RS:=[.box 24 2 false [.dat (.int .i64),.row 2],.box 24 2 true [.dat (.int .i64),.cn .nils],.row 59 10 K1 true true,.ghost [.top]]
def SD:List Sl:=.top::.ptr 0 0 0::.ptr 1 0 0::tp 23 []
def RD:List RS:=[.box 24 2 false [.dat (.int .i64),.row 2],.box 24 2 true [.dat (.int .i64),.cn .nils],.row 59 10 K1 true true,.ghost [.top]]
def le (K:XE→List AV→ia→Option OutS):Lx (Int×Int×(Sq T1)) Unit→Option OutS:=fun x=>onL x (fun a=>Ye SD RD () ((a.1,()),((a.2.1,()),(a.2.2,((),())))) (K (.exit 0))) (fun _=>none) (fun _=>none)
def om (n:Nat) {R:Type} (s:U1) (k:(Int×(Sq T1)×Unit)→Option R):Option R:=(eE 112 s.2.1).bind fun v=>(Tc n n (v.1.n:Int) (0:Int) s.1 (0:Int) v.1).bind fun x_1=>onL x_1 (fun a_2=>k (a_2.1,(a_2.2.2,()))) (fun _=>none) (fun _=>none)
def Wh (n:Nat) (s:U1):Option (Int×(Sq T1)×Unit):=om n s some
theorem PW (n:Nat) {S:Type}:∀ s (φ:_→Option S),(Wh n s).bind φ=om n s φ:=by
  intros;unfold Wh om;first | (simp only [fa,ba,iB,bB,oL,oX,nB,Option.bind_some]) | rfl
def Dl (n:Nat):Hint OutS:={ live:=fun c=>(cond (Nat.beq c 0) (lv [1,2,10,11]) []),run:=fun c=>(cond (Nat.beq c 0) (some (Zl Mo Lo fun σ ρ K=>(Tc n n σ.1 σ.2.1 ρ.1.1 ρ.2.1.1 ρ.2.2.1).bind (le K))) none),xm:=fun c q=>(cond (Nat.beq c 0&&Nat.beq (q.getD 1000000) 0&&q.isSome) (some [(1,none),(2,none)]) none),sch:=fun c=>(cond (Nat.beq c 5) (some [(0,0),(2,0),(3,0),(5,0),(4,1),(6,0),(7,1),(8,5),(1,7),(9,6),(10,2)]) none),pr:=[(0,1,59)] }
def Cl (n:Nat) (K:XE→List AV→ia→Option OutS) (m:Nat) (t10:Int) (t11:Int) (s1:Int) (t2:Int) (r2:(Sq T1)):Option OutS:=rd tys (da OutS (Cb n)).keep (Dl n) n (ta [1,1,0,1,0,0] (aa Tryz.f94)) 0 Mo Lo K m (t10,(t11,())) ((s1,()),((t2,()),(r2,((),()))))
theorem oB (n:Nat) (K:XE→List AV→ia→Option OutS):∀ (m:Nat) t10 t11 s1 t2 r2,Cl n K m t10 t11 s1 t2 r2=(Tc n m t10 t11 s1 t2 r2).bind (le K)
  | 0,_,_,_,_,_=>by kernel_rfl
  | m+1,t10,t11,s1,t2,r2=>by
    have h1:Cl n K (m+1) t10 t11 s1 t2 r2=Mh n t10 t11 s1 t2 r2 (Cl n K m) (fun a=>le K (.out a)) (fun a=>le K (.ret a)) (fun p=>le K (.pan p)):=by kernel_rfl
    have h2:Cl n K m=fun t10 t11 s1 t2 r2=>(Tc n m t10 t11 s1 t2 r2).bind (le K):=by
      repeat (refine funext fun _=>?_)
      exact oB n K m _ _ _ _ _
    rw [h1,h2];exact (IP n m _ _ _ _ _ (le K)).symm
theorem vN (n:Nat):Vc tys (da OutS (Cb n)).keep (Dl n) n (ta [1,1,0,1,0,0] (aa Tryz.f94)) 0:=Ca (sp:=Mo) (rp:=Lo) (by kernel_rfl) fun K σ ρ=>oB n K n σ.1 σ.2.1 ρ.1.1 ρ.2.1.1 ρ.2.2.1
theorem JP (n:Nat):qa tys (da OutS (Cb n)).keep (Dl n) n (aa Tryz.f94) 0:=⟨trivial,⟨trivial,⟨⟨trivial,⟨vN n,⟨trivial,⟨⟨trivial,trivial⟩,⟨⟨trivial,trivial⟩,trivial⟩⟩⟩⟩⟩,⟨trivial,trivial⟩⟩⟩⟩
theorem JR (n:Nat):Enters Tryz.prog 94:=enters_of (c:=aa Tryz.f94) Tryz.func94 (by kernel_rfl) (by kernel_rfl)
def GF:List RSp:=[.one (.dat K3)]
def FF:List RS:=[]
def KR:List Sl:=[.top]
def MR:List RSp:=[.agg [.dat (.int .i64),.row 0]]
def Bm:List RS:=[.row 59 10 K1 true true]
def Qz (y:(Int×(Sq T1)×Unit)):OutS:=⟨false,yB (sm Bm (y.2.1,())) KR (),UX (OV (sm Bm (y.2.1,())) MR ((y.1,()),())),pJ (sm Bm (y.2.1,())) Bm (y.2.1,())⟩
theorem JU (n:Nat):EntryOk Tryz.prog gl ⟨94,Ct,none,some (csT GF FF (fun σ ρ=>Wh n σ.1.1) Qz)⟩:=Cu (JR n) fun σ ρ y h=>kJ tys_ok (qf n) mixed (hint:=Dl n) (n:=n) Tryz.func94 (Ea (JP n)) (ma (φ:=fun y=>some (Qz y)) (by kernel_rfl) (PW n σ.1.1 _) h)
def Yv (n:Nat):List Entry:=⟨94,Ct,none,some (csT GF FF (fun σ ρ=>Wh n σ.1.1) Qz)⟩::Cb n
theorem Sx (n:Nat):AllOk Tryz.prog gl (Yv n):=.cons (JU n) (qf n)
def Zv (n:Nat) {R:Type} (s:U1) (c:T3) (m0:T1) (k:(U1×Int×Unit)→Option R):Option R:=(IB n (m0.1,(m0.2.1,(m0.2.2.1,((m0.2.2.2.1.1,(m0.2.2.2.1.2.1,())),(m0.2.2.2.2.1,(m0.2.2.2.2.2.1,(m0.2.2.2.2.2.2.1,(m0.2.2.2.2.2.2.2.1,(m0.2.2.2.2.2.2.2.2.1,())))))))))).bind fun v=>(Sw n ((1:Int),(v.2.1,(v.2.2.1,((v.2.2.2.1.1,(v.2.2.2.1.2.1,())),(v.2.2.2.2.1,(v.2.2.2.2.2.1,(v.2.2.2.2.2.2.1,(v.2.2.2.2.2.2.2.1,(v.2.2.2.2.2.2.2.2.1,())))))))))).bind fun v1=>if (!v1)=false then if (decide (v.2.1≥(c.1.n:Int)))=true then k (((0:Int),((⟨0,fun _=>Ba K1⟩:Sq T1),())),((1:Int),())) else if (s.1==(1099511627776:Int))=false then if ((s.2.1.n:Int)==(128:Int))=true then k (((0:Int),((⟨0,fun _=>Ba K1⟩:Sq T1),())),((5:Int),())) else if (!v.2.2.1)=true then (qn n (s.1,(s.2.1,())) (c.1,(c.2.1,(c.2.2.1,(c.2.2.2.1,(c.2.2.2.2.1,(c.2.2.2.2.2.1,(c.2.2.2.2.2.2.1,(c.2.2.2.2.2.2.2.1,())))))))) v.2.1 (v.2.2.2.2.2.1.size:Int)).bind fun v2=>if (v2 !=(0:Int))=true then k (((0:Int),((⟨0,fun _=>Ba K1⟩:Sq T1),())),(v2,())) else (Wh n (s.1,(s.2.1,()))).bind fun v3=>wY (wY (dup 1 (if Rb (v3.2.1.n+1) 112=true then k (((IntKind.wrap .i64 (v3.1+(1:Int))),((⟨(v3.2.1.n+1),fun q=>if q<v3.2.1.n then v3.2.1.at' q else (fun q=>List.getD (α:=T1) [(v3.1,(v.2.1,(v.2.2.1,((v.2.2.2.1.1,(v.2.2.2.1.2.1,())),(v.2.2.2.2.1,(v.2.2.2.2.2.1,(v.2.2.2.2.2.2.1,(v.2.2.2.2.2.2.2.1,(v.2.2.2.2.2.2.2.2.1,())))))))))] q (Ba K1)) (q - v3.2.1.n)⟩:Sq T1),())),((0:Int),()))
 else none)) (if Rb (v3.2.1.n+1) 112=true then k (((IntKind.wrap .i64 (v3.1+(1:Int))),((⟨(v3.2.1.n+1),fun q=>if q<v3.2.1.n then v3.2.1.at' q else (fun q=>List.getD (α:=T1) [(v3.1,(v.2.1,(v.2.2.1,((v.2.2.2.1.1,(v.2.2.2.1.2.1,())),(v.2.2.2.2.1,(v.2.2.2.2.2.1,(v.2.2.2.2.2.2.1,(v.2.2.2.2.2.2.2.1,(v.2.2.2.2.2.2.2.2.1,())))))))))] q (Ba K1)) (q - v3.2.1.n)⟩:Sq T1),())),((0:Int),())) else none)) (wY (wY (dup 1 (if Rb (v3.2.1.n+1) 112=true then k (((IntKind.wrap .i64 (v3.1+(1:Int))),((⟨(v3.2.1.n+1),fun q=>if q<v3.2.1.n then v3.2.1.at' q else (fun q=>List.getD (α:=T1) [(v3.1,(v.2.1,(v.2.2.1,((v.2.2.2.1.1,(v.2.2.2.1.2.1,())),(v.2.2.2.2.1,(v.2.2.2.2.2.1,(v.2.2.2.2.2.2.1,(v.2.2.2.2.2.2.2.1,(v.2.2.2.2.2.2.2.2.1,())))))))))] q (Ba K1)) (q - v3.2.1.n)⟩:Sq T1),())),((0:Int),())) else none)) (if Rb (v3.2.1.n+1) 112=true then k (((IntKind.wrap .i64 (v3.1+(1:Int))),((⟨(v3.2.1.n+1),fun q=>if q<v3.2.1.n then v3.2.1.at' q else (fun q=>List.getD (α:=T1) [(v3.1,(v.2.1,(v.2.2.1,((v.2.2.2.1.1,(v.2.2.2.1.2.1,())),(v.2.2.2.2.1,(v.2.2.2.2.2.1,(v.2.2.2.2.2.2.1,(v.2.2.2.2.2.2.2.1,(v.2.2.2.2.2.2.2.2.1,())))))))))] q (Ba K1)) (q - v3.2.1.n)⟩:Sq T1),())),((0:Int),())) else none)) (dup 1 (if Rb (v3.2.1.n+1) 112=true then k (((IntKind.wrap .i64 (v3.1+(1:Int))),((⟨(v3.2.1.n+1),fun q=>if q<v3.2.1.n then v3.2.1.at' q else (fun q=>List.getD (α:=T1) [(v3.1,(v.2.1,(v.2.2.1,((v.2.2.2.1.1,(v.2.2.2.1.2.1,())),(v.2.2.2.2.1,(v.2.2.2.2.2.1,(v.2.2.2.2.2.2.1,(v.2.2.2.2.2.2.2.1,(v.2.2.2.2.2.2.2.2.1,())))))))))] q (Ba K1)) (q - v3.2.1.n)⟩:Sq T1),())),((0:Int),()))
 else none))) else (Wh n (s.1,(s.2.1,()))).bind fun v4=>wY (wY (dup 1 (if Rb (v4.2.1.n+1) 112=true then k (((IntKind.wrap .i64 (v4.1+(1:Int))),((⟨(v4.2.1.n+1),fun q=>if q<v4.2.1.n then v4.2.1.at' q else (fun q=>List.getD (α:=T1) [(v4.1,(v.2.1,(v.2.2.1,((v.2.2.2.1.1,(v.2.2.2.1.2.1,())),(v.2.2.2.2.1,(v.2.2.2.2.2.1,(v.2.2.2.2.2.2.1,(v.2.2.2.2.2.2.2.1,(v.2.2.2.2.2.2.2.2.1,())))))))))] q (Ba K1)) (q - v4.2.1.n)⟩:Sq T1),())),((0:Int),())) else none)) (if Rb (v4.2.1.n+1) 112=true then k (((IntKind.wrap .i64 (v4.1+(1:Int))),((⟨(v4.2.1.n+1),fun q=>if q<v4.2.1.n then v4.2.1.at' q else (fun q=>List.getD (α:=T1) [(v4.1,(v.2.1,(v.2.2.1,((v.2.2.2.1.1,(v.2.2.2.1.2.1,())),(v.2.2.2.2.1,(v.2.2.2.2.2.1,(v.2.2.2.2.2.2.1,(v.2.2.2.2.2.2.2.1,(v.2.2.2.2.2.2.2.2.1,())))))))))] q (Ba K1)) (q - v4.2.1.n)⟩:Sq T1),())),((0:Int),())) else none)) (wY (wY (dup 1 (if Rb (v4.2.1.n+1) 112=true then k (((IntKind.wrap .i64 (v4.1+(1:Int))),((⟨(v4.2.1.n+1),fun q=>if q<v4.2.1.n then v4.2.1.at' q else (fun q=>List.getD (α:=T1) [(v4.1,(v.2.1,(v.2.2.1,((v.2.2.2.1.1,(v.2.2.2.1.2.1,())),(v.2.2.2.2.1,(v.2.2.2.2.2.1,(v.2.2.2.2.2.2.1,(v.2.2.2.2.2.2.2.1,(v.2.2.2.2.2.2.2.2.1,())))))))))] q (Ba K1)) (q - v4.2.1.n)⟩:Sq T1),())),((0:Int),())) else none)) (if Rb (v4.2.1.n+1) 112=true then k (((IntKind.wrap .i64 (v4.1+(1:Int))),((⟨(v4.2.1.n+1),fun q=>if q<v4.2.1.n then v4.2.1.at' q else (fun q=>List.getD (α:=T1) [(v4.1,(v.2.1,(v.2.2.1,((v.2.2.2.1.1,(v.2.2.2.1.2.1,())),(v.2.2.2.2.1,(v.2.2.2.2.2.1,(v.2.2.2.2.2.2.1,(v.2.2.2.2.2.2.2.1,(v.2.2.2.2.2.2.2.2.1,())))))))))] q (Ba K1)) (q - v4.2.1.n)⟩:Sq T1),())),((0:Int),()))
 else none)) (dup 1 (if Rb (v4.2.1.n+1) 112=true then k (((IntKind.wrap .i64 (v4.1+(1:Int))),((⟨(v4.2.1.n+1),fun q=>if q<v4.2.1.n then v4.2.1.at' q else (fun q=>List.getD (α:=T1) [(v4.1,(v.2.1,(v.2.2.1,((v.2.2.2.1.1,(v.2.2.2.1.2.1,())),(v.2.2.2.2.1,(v.2.2.2.2.2.1,(v.2.2.2.2.2.2.1,(v.2.2.2.2.2.2.2.1,(v.2.2.2.2.2.2.2.2.1,())))))))))] q (Ba K1)) (q - v4.2.1.n)⟩:Sq T1),())),((0:Int),())) else none))) else k (((0:Int),((⟨0,fun _=>Ba K1⟩:Sq T1),())),((5:Int),())) else k (((0:Int),((⟨0,fun _=>Ba K1⟩:Sq T1),())),((1:Int),()))
def pB (n:Nat) (s:U1) (c:T3) (m0:T1):Option (U1×Int×Unit):=Zv n s c m0 some
theorem i8 (n:Nat) {S:Type}:∀ s c m0 (φ:_→Option S),(pB n s c m0).bind φ=Zv n s c m0 φ:=by
  intros;unfold pB Zv;first | (simp only [fa,ba,iB,bB,oL,oX,nB,Option.bind_some]) | rfl
def WI (n:Nat):Hint Out:={ live:=fun c=>[],run:=fun c=>none,xm:=fun c q=>none,sch:=fun c=>(cond (Nat.beq c 13) (some [(0,0),(5,0),(2,1),(3,5),(1,7),(4,2),(6,7),(7,6),(8,6),(9,2),(10,6),(11,2)]) none) }
theorem QW (n:Nat):qa tys (da Out (Yv n)) (WI n) n (aa Tryz.f87) 0:=oa (fun _=>rfl) _ _ (by kernel_rfl)
theorem XZ (n:Nat):Enters Tryz.prog 87:=enters_of (c:=aa Tryz.f87) Tryz.func87 (by kernel_rfl) (by kernel_rfl)
def FQ (n:Nat):Entry:=⟨87,pcT K20 (.many K18) (fun xs=>pB n xs.1 xs.2.1 xs.2.2.1),none,none⟩
theorem G5 (n:Nat):EntryOk Tryz.prog gl (FQ n):=wa (XZ n) fun xs y h=>ja tys_ok (Sx n) mixed (hint:=WI n) (n:=n) Tryz.func87 (Ea (QW n)) (ma (φ:=(fun y=>some (Out.ret (Uc (.many K18) y)))) (by kernel_rfl) (i8 n xs.1 xs.2.1 xs.2.2.1 _) h)
def IF (n:Nat):List Entry:=FQ n::Yv n
theorem JF (n:Nat):AllOk Tryz.prog gl (IF n):=.cons (G5 n) (Sx n)
def Tv (n:Nat) {R:Type} (s:U1) (c:T3) (m0:T1) (k:(U1×Int×Unit)→Option R):Option R:=(mm n (s.1,(s.2.1,()))).bind fun v=>if (!v)=false then (Qm n (c.1,(c.2.1,(c.2.2.1,(c.2.2.2.1,(c.2.2.2.2.1,(c.2.2.2.2.2.1,(c.2.2.2.2.2.2.1,(c.2.2.2.2.2.2.2.1,()))))))))).bind fun v1=>if (!v1)=true then k (((0:Int),((⟨0,fun _=>Ba K1⟩:Sq T1),())),((1:Int),())) else (pB n (s.1,(s.2.1,())) (c.1,(c.2.1,(c.2.2.1,(c.2.2.2.1,(c.2.2.2.2.1,(c.2.2.2.2.2.1,(c.2.2.2.2.2.2.1,(c.2.2.2.2.2.2.2.1,())))))))) (m0.1,(m0.2.1,(m0.2.2.1,((m0.2.2.2.1.1,(m0.2.2.2.1.2.1,())),(m0.2.2.2.2.1,(m0.2.2.2.2.2.1,(m0.2.2.2.2.2.2.1,(m0.2.2.2.2.2.2.2.1,(m0.2.2.2.2.2.2.2.2.1,())))))))))).bind fun v2=>k ((v2.1.1,(v2.1.2.1,())),(v2.2.1,())) else k (((0:Int),((⟨0,fun _=>Ba K1⟩:Sq T1),())),((1:Int),()))
def Sv (n:Nat) (s:U1) (c:T3) (m0:T1):Option (U1×Int×Unit):=Tv n s c m0 some
theorem d8 (n:Nat) {S:Type}:∀ s c m0 (φ:_→Option S),(Sv n s c m0).bind φ=Tv n s c m0 φ:=by
  intros;unfold Sv Tv;first | (simp only [fa,ba,iB,bB,oL,oX,nB,Option.bind_some]) | rfl
def TI (n:Nat):Hint Out:={ live:=fun c=>[],run:=fun c=>none,xm:=fun c q=>none }
theorem JW (n:Nat):qa tys (da Out (IF n)) (TI n) n (aa Tryz.f40) 0:=oa (fun _=>rfl) _ _ (by kernel_rfl)
theorem RZ (n:Nat):Enters Tryz.prog 40:=enters_of (c:=aa Tryz.f40) Tryz.func40 (by kernel_rfl) (by kernel_rfl)
def DQ (n:Nat):Entry:=⟨40,pcT K20 (.many K18) (fun xs=>Sv n xs.1 xs.2.1 xs.2.2.1),none,none⟩
theorem B5 (n:Nat):EntryOk Tryz.prog gl (DQ n):=wa (RZ n) fun xs y h=>ja tys_ok (JF n) mixed (hint:=TI n) (n:=n) Tryz.func40 (Ea (JW n)) (ma (φ:=(fun y=>some (Out.ret (Uc (.many K18) y)))) (by kernel_rfl) (d8 n xs.1 xs.2.1 xs.2.2.1 _) h)
def xF (n:Nat):List Entry:=DQ n::IF n
theorem yF (n:Nat):AllOk Tryz.prog gl (xF n):=.cons (B5 n) (JF n)
def Vx (n:Nat) {R:Type} (s:U1) (tenant:Int) (k:(Int×Int×Int×Unit)→Option R):Option R:=(mm n (s.1,(s.2.1,()))).bind fun v=>if (!v)=false then if (decide (tenant<(0:Int)))=false then if (decide (tenant≥(4:Int)))=true then k ((0:Int),((0:Int),((1:Int),()))) else (Zp n (s.1,(s.2.1,())) tenant).bind fun v1=>k (v1.1,(v1.2.1,((0:Int),()))) else k ((0:Int),((0:Int),((1:Int),()))) else k ((0:Int),((0:Int),((1:Int),())))
def Gl (n:Nat) (s:U1) (tenant:Int):Option (Int×Int×Int×Unit):=Vx n s tenant some
theorem J5 (n:Nat) {S:Type}:∀ s tenant (φ:_→Option S),(Gl n s tenant).bind φ=Vx n s tenant φ:=by
  intros;unfold Gl Vx;first | (simp only [fa,ba,iB,bB,oL,oX,nB,Option.bind_some]) | rfl
def MF (n:Nat):Hint Out:={ live:=fun c=>[],run:=fun c=>none,xm:=fun c q=>none }
theorem OU (n:Nat):qa tys (da Out (xF n)) (MF n) n (aa Tryz.f41) 0:=oa (fun _=>rfl) _ _ (by kernel_rfl)
theorem TW (n:Nat):Enters Tryz.prog 41:=enters_of (c:=aa Tryz.f41) Tryz.func41 (by kernel_rfl) (by kernel_rfl)
def yN (n:Nat):Entry:=⟨41,pcT K18 (.many (.pair (.int .i64) (.pair (.int .i64) (.pair (.int .i64) .unit)))) (fun xs=>Gl n xs.1 xs.2.1),none,none⟩
theorem j0 (n:Nat):EntryOk Tryz.prog gl (yN n):=wa (TW n) fun xs y h=>ja tys_ok (yF n) mixed (hint:=MF n) (n:=n) Tryz.func41 (Ea (OU n)) (ma (φ:=(fun y=>some (Out.ret (Uc (.many (.pair (.int .i64) (.pair (.int .i64) (.pair (.int .i64) .unit)))) y)))) (by kernel_rfl) (J5 n xs.1 xs.2.1 _) h)
def zN (n:Nat):List Entry:=yN n::xF n
theorem OR (n:Nat):AllOk Tryz.prog gl (zN n):=.cons (j0 n) (yF n)
theorem NB:Tryz.prog.funcs[116]?=some Tryz.f116:=by kernel_rfl
theorem OB:EntryOk Tryz.prog gl ⟨116,Ct,some (.flat WN),none⟩:=QV NB (by kernel_rfl) (by kernel_rfl) (by kernel_rfl) (by kernel_rfl)
def ii (n:Nat):List Entry:=⟨116,Ct,some (.flat WN),none⟩::zN n
theorem Kl (n:Nat):AllOk Tryz.prog gl (ii n):=.cons OB (OR n)
def EO (n:Nat) {R:Type} (k:Nat→Option R):Option R:=k (Int.toNat (9221120237041090561:Int))
def kS (n:Nat):Option Nat:=EO n some
theorem bbb (n:Nat) {S:Type}:∀ (φ:_→Option S),(kS n).bind φ=EO n φ:=by
  intros;unfold kS EO;first | (simp only [fa,ba,iB,bB,oL,oX,nB,Option.bind_some]) | rfl
def PL (n:Nat):Hint Out:={ live:=fun c=>[],run:=fun c=>none,xm:=fun c q=>none }
theorem ZY (n:Nat):qa tys (da Out (ii n)) (PL n) n (aa Tryz.f78) 0:=oa (fun _=>rfl) _ _ (by kernel_rfl)
theorem u4 (n:Nat):Enters Tryz.prog 78:=enters_of (c:=aa Tryz.f78) Tryz.func78 (by kernel_rfl) (by kernel_rfl)
def HT (n:Nat):Entry:=⟨78,pcT .unit (.one (.flt .f64)) (fun xs=>kS n),none,none⟩
theorem q7 (n:Nat):EntryOk Tryz.prog gl (HT n):=wa (u4 n) fun xs y h=>ja tys_ok (Kl n) mixed (hint:=PL n) (n:=n) Tryz.func78 (Ea (ZY n)) (ma (φ:=(fun y=>some (Out.ret (Uc (.one (.flt .f64)) y)))) (by kernel_rfl) (bbb n  _) h)
def xJ (n:Nat):List Entry:=HT n::ii n
theorem CI (n:Nat):AllOk Tryz.prog gl (xJ n):=.cons (q7 n) (Kl n)
def Ey (n:Nat) {R:Type} (k:T3→Option R):Option R:=(kS n).bind fun v=>k ((⟨1,fun q=>List.getD (α:=T2) [((⟨#[97]⟩:BA),((1048576:Int),((10:Int),((2000:Int),(((5:Int),((5:Int),((1:Int),((1:Int),((0:Int),()))))),(false,()))))))] q (Ba K6)⟩:Sq T2),((⟨#[104,46,120]⟩:BA),((0:Int),((100:Int),((⟨1,fun q=>List.getD (α:=Int) [(1:Int)] q (Ba (.int .i64))⟩:Sq Int),((2:Int),((0:Int),(v,()))))))))
def Mq (n:Nat):Option T3:=Ey n some
theorem eW (n:Nat) {S:Type}:∀ (φ:_→Option S),(Mq n).bind φ=Ey n φ:=by
  intros;unfold Mq Ey;first | (simp only [fa,ba,iB,bB,oL,oX,nB,Option.bind_some]) | rfl
def wA (n:Nat):Hint Out:={ live:=fun c=>[],run:=fun c=>none,xm:=fun c q=>none }
theorem JO (n:Nat):qa tys (da Out (xJ n)) (wA n) n (aa Tryz.f43) 0:=oa (fun _=>rfl) _ _ (by kernel_rfl)
theorem iR (n:Nat):Enters Tryz.prog 43:=enters_of (c:=aa Tryz.f43) Tryz.func43 (by kernel_rfl) (by kernel_rfl)
def zE (n:Nat):Entry:=⟨43,pcT .unit (.one K7) (fun xs=>Mq n),none,none⟩
theorem OT (n:Nat):EntryOk Tryz.prog gl (zE n):=wa (iR n) fun xs y h=>ja tys_ok (CI n) mixed (hint:=wA n) (n:=n) Tryz.func43 (Ea (JO n)) (ma (φ:=(fun y=>some (Out.ret (Uc (.one K7) y)))) (by kernel_rfl) (eW n  _) h)
def Qu (n:Nat):List Entry:=zE n::xJ n
theorem Vw (n:Nat):AllOk Tryz.prog gl (Qu n):=.cons (OT n) (CI n)
def vg (n:Nat) {R:Type} (k:Bool→Option R):Option R:=(Mq n).bind fun v=>(Sm n).bind fun v1=>(Sv n ((1:Int),((⟨0,fun _=>Ba K1⟩:Sq T1),())) (v.1,(v.2.1,(v.2.2.1,(v.2.2.2.1,(v.2.2.2.2.1,(v.2.2.2.2.2.1,(v.2.2.2.2.2.2.1,(v.2.2.2.2.2.2.2.1,())))))))) (v1.1,(v1.2.1,(v1.2.2.1,((v1.2.2.2.1.1,(v1.2.2.2.1.2.1,())),(v1.2.2.2.2.1,(v1.2.2.2.2.2.1,(v1.2.2.2.2.2.2.1,(v1.2.2.2.2.2.2.2.1,(v1.2.2.2.2.2.2.2.2.1,())))))))))).bind fun v2=>(Nb n v2.2.1).bind fun v3=>if (v3==(0:Int))=true then if (v2.1.1==(2:Int))=true then if ((v2.1.2.1.n:Int)==(1:Int))=true then if 0≤(0:Int)∧(0:Int)<(v2.1.2.1.n:Int) then k ((((v2.1.2.1.at' (Int.toNat (0:Int)))).1)==(1:Int)) else none else k false else k false else k false
def Ud (n:Nat):Option Bool:=vg n some
theorem UL (n:Nat) {S:Type}:∀ (φ:_→Option S),(Ud n).bind φ=vg n φ:=by
  intros;unfold Ud vg;first | (simp only [fa,ba,iB,bB,oL,oX,nB,Option.bind_some]) | rfl
def Vq (n:Nat):Hint Out:={ live:=fun c=>[],run:=fun c=>none,xm:=fun c q=>none }
theorem GE (n:Nat):qa tys (da Out (Qu n)) (Vq n) n (aa Tryz.f42) 0:=oa (fun _=>rfl) _ _ (by kernel_rfl)
theorem jH (n:Nat):Enters Tryz.prog 42:=enters_of (c:=aa Tryz.f42) Tryz.func42 (by kernel_rfl) (by kernel_rfl)
def Xu (n:Nat):Entry:=⟨42,pcT .unit (.one .bool) (fun xs=>Ud n),none,none⟩
theorem CJ (n:Nat):EntryOk Tryz.prog gl (Xu n):=wa (jH n) fun xs y h=>ja tys_ok (Vw n) mixed (hint:=Vq n) (n:=n) Tryz.func42 (Ea (GE n)) (ma (φ:=(fun y=>some (Out.ret (Uc (.one .bool) y)))) (by kernel_rfl) (UL n  _) h)
def Yc (n:Nat):List Entry:=Xu n::Qu n
theorem fp (n:Nat):AllOk Tryz.prog gl (Yc n):=.cons (CJ n) (Vw n)
def se (n:Nat) {R:Type} (i1 n0 k0 p12:Int) (p13:(Sq T1)) (p14:(Sq T2)) (p15:BA) (p16 p17:Int) (p18:(Sq Int)) (p19 p20:Int) (p21:Nat) (p22:U0) (s2:Int) (s3:(Sq T1)) (m0 m01:Int) (m02:Bool) (m03 m04:BA) (m05:(Sq T0)) (m06:BA) (m07:Int) (m08 m09:Bool) (kn:Int→Int→Int→Int→(Sq T1)→(Sq T2)→BA→Int→Int→(Sq Int)→Int→Int→Nat→U0→Int→(Sq T1)→Int→Int→Bool→BA→BA→(Sq T0)→BA→Int→Bool→Bool→Option R) (ko:(Int×Int×(Sq T1)×(Sq T2)×BA×Int×Int×(Sq Int)×Int×Int×Nat×U0×Int×(Sq T1)×Int×Int×Bool×BA×BA×(Sq T0)×BA×Int×Bool×Bool)→Option R) (kr:Unit→Option R) (kp:Int→Option R):Option R:=if (decide (k0<n0))=true then if zj m06 (⟨#[48,49,50,51,52,53,54,55,56,57,48,49,50,13,10]⟩:BA)=true then kn i1 n0 (IntKind.wrap .i64 (k0+(1:Int))) p12 p13 p14 p15 p16 p17 p18 p19 p20 p21 p22 s2 s3 m0 m01 m02 m03 m04 m05 (m06++(⟨#[48,49,50,51,52,53,54,55,56,57,48,49,50,13,10]⟩:BA)) m07 m08 m09 else none else ko (i1,p12,p13,p14,p15,p16,p17,p18,p19,p20,p21,p22,s2,s3,m0,m01,m02,m03,m04,m05,m06,m07,m08,m09)
def ab (n:Nat):Nat→Int→Int→Int→Int→(Sq T1)→(Sq T2)→BA→Int→Int→(Sq Int)→Int→Int→Nat→U0→Int→(Sq T1)→Int→Int→Bool→BA→BA→(Sq T0)→BA→Int→Bool→Bool→Option (Lx (Int×Int×(Sq T1)×(Sq T2)×BA×Int×Int×(Sq Int)×Int×Int×Nat×U0×Int×(Sq T1)×Int×Int×Bool×BA×BA×(Sq T0)×BA×Int×Bool×Bool) Unit)
 | 0,_,_,_,_,_,_,_,_,_,_,_,_,_,_,_,_,_,_,_,_,_,_,_,_,_,_=>none
 | m+1,i1,n0,k0,p12,p13,p14,p15,p16,p17,p18,p19,p20,p21,p22,s2,s3,m0,m01,m02,m03,m04,m05,m06,m07,m08,m09=>se n i1 n0 k0 p12 p13 p14 p15 p16 p17 p18 p19 p20 p21 p22 s2 s3 m0 m01 m02 m03 m04 m05 m06 m07 m08 m09 (ab n m) (fun a=>some (.out a)) (fun a=>some (.ret a)) (fun p=>some (.pan p))
theorem Su (n m:Nat) {S:Type}:∀ i1 n0 k0 p12 p13 p14 p15 p16 p17 p18 p19 p20 p21 p22 s2 s3 m0 m01 m02 m03 m04 m05 m06 m07 m08 m09 (φ:_→Option S),(ab n (m+1) i1 n0 k0 p12 p13 p14 p15 p16 p17 p18 p19 p20 p21 p22 s2 s3 m0 m01 m02 m03 m04 m05 m06 m07 m08 m09).bind φ=se n i1 n0 k0 p12 p13 p14 p15 p16 p17 p18 p19 p20 p21 p22 s2 s3 m0 m01 m02 m03 m04 m05 m06 m07 m08 m09 (fun i1 n0 k0 p12 p13 p14 p15 p16 p17 p18 p19 p20 p21 p22 s2 s3 m0 m01 m02 m03 m04 m05 m06 m07 m08 m09=>(ab n m i1 n0 k0 p12 p13 p14 p15 p16 p17 p18 p19 p20 p21 p22 s2 s3 m0 m01 m02 m03 m04 m05 m06 m07 m08 m09).bind φ) (fun a=>φ (.out a)) (fun a=>φ (.ret a)) (fun p=>φ (.pan p)):=by
  intros;first | (simp only [ab,se,fa,ba,iB,bB,oL,oX,nB,Option.bind_some]) | rfl
def cf:List Sl:=.top::.ptr 0 0 0::.top::.ptr 1 0 0::.dat (.int .i64)::.ptr 2 0 0::.dat (.int .i64)::.dat (.int .i64)::tp 165 []
def bf:List RS:=[.box 77 11 true [.dat (.int .i64),.dat (.sl K1),.dat (.sl K6),.dat .str,.dat (.int .i64),.dat (.int .i64),.dat (.sl (.int .i64)),.dat (.int .i64),.dat (.int .i64),.dat (.flt .f64),.dat (.sl K9)],.box 24 2 true [.dat (.int .i64),.dat (.sl K1)],.box 59 10 true [.dat (.int .i64),.dat (.int .i64),.dat .bool,.dat .str,.dat .str,.dat (.sl K0),.dat .str,.dat (.int .i64),.dat .bool,.dat .bool]]
def bp:List Sl:=.top::.ptr 0 0 0::.top::.ptr 1 0 0::.dat (.int .i64)::.ptr 2 0 0::tp 167 []
def ap:List RS:=[.box 77 11 true [.dat (.int .i64),.dat (.sl K1),.dat (.sl K6),.dat .str,.dat (.int .i64),.dat (.int .i64),.dat (.sl (.int .i64)),.dat (.int .i64),.dat (.int .i64),.dat (.flt .f64),.dat (.sl K9)],.box 24 2 true [.dat (.int .i64),.dat (.sl K1)],.box 59 10 true [.dat (.int .i64),.dat (.int .i64),.dat .bool,.dat .str,.dat .str,.dat (.sl K0),.dat .str,.dat (.int .i64),.dat .bool,.dat .bool]]
def lb (K:XE→List AV→ia→Option Out):Lx (Int×Int×(Sq T1)×(Sq T2)×BA×Int×Int×(Sq Int)×Int×Int×Nat×U0×Int×(Sq T1)×Int×Int×Bool×BA×BA×(Sq T0)×BA×Int×Bool×Bool) Unit→Option Out:=fun x=>onL x (fun a=>Ye bp ap (a.1,()) ((a.2.1,(a.2.2.1,(a.2.2.2.1,(a.2.2.2.2.1,(a.2.2.2.2.2.1,(a.2.2.2.2.2.2.1,(a.2.2.2.2.2.2.2.1,(a.2.2.2.2.2.2.2.2.1,(a.2.2.2.2.2.2.2.2.2.1,(a.2.2.2.2.2.2.2.2.2.2.1,(a.2.2.2.2.2.2.2.2.2.2.2.1,()))))))))))),((a.2.2.2.2.2.2.2.2.2.2.2.2.1,(a.2.2.2.2.2.2.2.2.2.2.2.2.2.1,())),((a.2.2.2.2.2.2.2.2.2.2.2.2.2.2.1,(a.2.2.2.2.2.2.2.2.2.2.2.2.2.2.2.1,(a.2.2.2.2.2.2.2.2.2.2.2.2.2.2.2.2.1,(a.2.2.2.2.2.2.2.2.2.2.2.2.2.2.2.2.2.1,(a.2.2.2.2.2.2.2.2.2.2.2.2.2.2.2.2.2.2.1,(a.2.2.2.2.2.2.2.2.2.2.2.2.2.2.2.2.2.2.2.1,(a.2.2.2.2.2.2.2.2.2.2.2.2.2.2.2.2.2.2.2.2.1,(a.2.2.2.2.2.2.2.2.2.2.2.2.2.2.2.2.2.2.2.2.2.1,(a.2.2.2.2.2.2.2.2.2.2.2.2.2.2.2.2.2.2.2.2.2.2.1,(a.2.2.2.2.2.2.2.2.2.2.2.2.2.2.2.2.2.2.2.2.2.2.2,())))))))))),()))) (K (.exit 2))) (fun _=>none) (fun _=>none)
def re (n:Nat) {R:Type} (i p1:Int) (p2:(Sq T1)) (p3:(Sq T2)) (p4:BA) (p5 p6:Int) (p7:(Sq Int)) (p8 p9:Int) (p10:Nat) (p11:U0) (s:Int) (s1:(Sq T1)) (kn:Int→Int→(Sq T1)→(Sq T2)→BA→Int→Int→(Sq Int)→Int→Int→Nat→U0→Int→(Sq T1)→Option R) (ko:(Unit)→Option R) (kr:(Bool)→Option R) (kp:Int→Option R):Option R:=if (decide (i<(p11.n:Int)))=true then if (decide (i<(40:Int)))=true then (Sm n).bind fun v2=>if 0≤i∧i<(p11.n:Int) then (Xd n (((((p11.at' (Int.toNat i))).2).2).1) (p3.n:Int)).bind fun v3=>if 0≤i∧i<(p11.n:Int) then (Xd n ((((p11.at' (Int.toNat i))).2).1) (5:Int)).bind fun v4=>(ab n n i (IntKind.wrap .i64 (v4*(8:Int))) (0:Int) p1 p2 p3 p4 p5 p6 p7 p8 p9 p10 p11 s s1 v2.1 v3 v2.2.2.1 v2.2.2.2.1.1 v2.2.2.2.1.2.1 v2.2.2.2.2.1 v2.2.2.2.2.2.1 v2.2.2.2.2.2.2.1 v2.2.2.2.2.2.2.2.1 v2.2.2.2.2.2.2.2.2.1).bind fun x_1=>onL x_1 (fun a_2=>(Nh n (a_2.2.2.2.2.2.2.2.2.2.2.2.2.1,(a_2.2.2.2.2.2.2.2.2.2.2.2.2.2.1,())) (a_2.2.2.2.1,(a_2.2.2.2.2.1,(a_2.2.2.2.2.2.1,(a_2.2.2.2.2.2.2.1,(a_2.2.2.2.2.2.2.2.1,(a_2.2.2.2.2.2.2.2.2.1,(a_2.2.2.2.2.2.2.2.2.2.1,(a_2.2.2.2.2.2.2.2.2.2.2.1,())))))))) a_2.2.2.2.2.2.2.2.2.2.2.2.2.2.2.2.1 (a_2.2.2.2.2.2.2.2.2.2.2.2.2.2.2.2.2.2.2.2.2.1.size:Int)).bind fun v5=>
 (Nb n v5).bind fun v6=>(Sv n (a_2.2.2.2.2.2.2.2.2.2.2.2.2.1,(a_2.2.2.2.2.2.2.2.2.2.2.2.2.2.1,())) (a_2.2.2.2.1,(a_2.2.2.2.2.1,(a_2.2.2.2.2.2.1,(a_2.2.2.2.2.2.2.1,(a_2.2.2.2.2.2.2.2.1,(a_2.2.2.2.2.2.2.2.2.1,(a_2.2.2.2.2.2.2.2.2.2.1,(a_2.2.2.2.2.2.2.2.2.2.2.1,())))))))) (a_2.2.2.2.2.2.2.2.2.2.2.2.2.2.2.1,(a_2.2.2.2.2.2.2.2.2.2.2.2.2.2.2.2.1,(a_2.2.2.2.2.2.2.2.2.2.2.2.2.2.2.2.2.1,((a_2.2.2.2.2.2.2.2.2.2.2.2.2.2.2.2.2.2.1,(a_2.2.2.2.2.2.2.2.2.2.2.2.2.2.2.2.2.2.2.1,())),(a_2.2.2.2.2.2.2.2.2.2.2.2.2.2.2.2.2.2.2.2.1,(a_2.2.2.2.2.2.2.2.2.2.2.2.2.2.2.2.2.2.2.2.2.1,(a_2.2.2.2.2.2.2.2.2.2.2.2.2.2.2.2.2.2.2.2.2.2.1,(a_2.2.2.2.2.2.2.2.2.2.2.2.2.2.2.2.2.2.2.2.2.2.2.1,(a_2.2.2.2.2.2.2.2.2.2.2.2.2.2.2.2.2.2.2.2.2.2.2.2,())))))))))).bind fun v7=>(Nb n v7.2.1).bind fun v8=>if (v8 !=v6)=false then if (v6 !=(0:Int))=true then if (v6 !=(5:Int))=true then kr false else if 0≤a_2.2.2.2.2.2.2.2.2.2.2.2.2.2.2.2.1∧a_2.2.2.2.2.2.2.2.2.2.2.2.2.2.2.2.1<(a_2.2.2.2.1.n:Int) then (Gl n (a_2.2.2.2.2.2.2.2.2.2.2.2.2.1,(a_2.2.2.2.2.2.2.2.2.2.2.2.2.2.1,())) a_2.2.2.2.2.2.2.2.2.2.2.2.2.2.2.2.1).bind fun v9=>(Nb n v9.2.2.1).bind fun v10=>if (v10 !=(0:Int))=false then if (decide ((IntKind.wrap .i64 (v9.1+(1:Int)))≤(((((a_2.2.2.2.1.at' (Int.toNat a_2.2.2.2.2.2.2.2.2.2.2.2.2.2.2.2.1))).2).2).1)))=true then if (decide ((IntKind.wrap .i64 ((IntKind.wrap .i64 (v9.2.1+(a_2.2.2.2.2.2.2.2.2.2.2.2.2.2.2.2.2.2.2.2.2.1.size:Int)))+(1000:Int)))≤((((a_2.2.2.2.1.at' (Int.toNat a_2.2.2.2.2.2.2.2.2.2.2.2.2.2.2.2.1))).2).1)))=true then
 if (!((v6==(0:Int))==(decide ((a_2.2.2.2.2.2.2.2.2.2.2.2.2.2.1.n:Int)<(64:Int)))))=true then kr false else if (v6==(0:Int))=true then if (v7.1.1 !=(IntKind.wrap .i64 (a_2.2.2.2.2.2.2.2.2.2.2.2.2.1+(1:Int))))=false then if ((v7.1.2.1.n:Int) !=(IntKind.wrap .i64 ((a_2.2.2.2.2.2.2.2.2.2.2.2.2.2.1.n:Int)+(1:Int))))=false then if 0≤(a_2.2.2.2.2.2.2.2.2.2.2.2.2.2.1.n:Int)∧(a_2.2.2.2.2.2.2.2.2.2.2.2.2.2.1.n:Int)<(v7.1.2.1.n:Int) then if ((((v7.1.2.1.at' (Int.toNat (a_2.2.2.2.2.2.2.2.2.2.2.2.2.2.1.n:Int)))).1) !=a_2.2.2.2.2.2.2.2.2.2.2.2.2.1)=true then kr false else kn (IntKind.wrap .i64 (a_2.1+(1:Int))) a_2.2.1 a_2.2.2.1 a_2.2.2.2.1 a_2.2.2.2.2.1 a_2.2.2.2.2.2.1 a_2.2.2.2.2.2.2.1 a_2.2.2.2.2.2.2.2.1 a_2.2.2.2.2.2.2.2.2.1 a_2.2.2.2.2.2.2.2.2.2.1 a_2.2.2.2.2.2.2.2.2.2.2.1 a_2.2.2.2.2.2.2.2.2.2.2.2.1 v7.1.1 v7.1.2.1 else none else kr false else kr false else kn (IntKind.wrap .i64 (a_2.1+(1:Int))) a_2.2.1 a_2.2.2.1 a_2.2.2.2.1 a_2.2.2.2.2.1 a_2.2.2.2.2.2.1 a_2.2.2.2.2.2.2.1 a_2.2.2.2.2.2.2.2.1 a_2.2.2.2.2.2.2.2.2.1 a_2.2.2.2.2.2.2.2.2.2.1 a_2.2.2.2.2.2.2.2.2.2.2.1 a_2.2.2.2.2.2.2.2.2.2.2.2.1 a_2.2.2.2.2.2.2.2.2.2.2.2.2.1 a_2.2.2.2.2.2.2.2.2.2.2.2.2.2.1 else if (!((v6==(0:Int))==false))=true then kr false else if (v6==(0:Int))=true then if (v7.1.1 !=(IntKind.wrap .i64 (a_2.2.2.2.2.2.2.2.2.2.2.2.2.1+(1:Int))))=false then if ((v7.1.2.1.n:Int) !=(IntKind.wrap .i64 ((a_2.2.2.2.2.2.2.2.2.2.2.2.2.2.1.n:Int)+(1:Int))))=false then
 if 0≤(a_2.2.2.2.2.2.2.2.2.2.2.2.2.2.1.n:Int)∧(a_2.2.2.2.2.2.2.2.2.2.2.2.2.2.1.n:Int)<(v7.1.2.1.n:Int) then if ((((v7.1.2.1.at' (Int.toNat (a_2.2.2.2.2.2.2.2.2.2.2.2.2.2.1.n:Int)))).1) !=a_2.2.2.2.2.2.2.2.2.2.2.2.2.1)=true then kr false else kn (IntKind.wrap .i64 (a_2.1+(1:Int))) a_2.2.1 a_2.2.2.1 a_2.2.2.2.1 a_2.2.2.2.2.1 a_2.2.2.2.2.2.1 a_2.2.2.2.2.2.2.1 a_2.2.2.2.2.2.2.2.1 a_2.2.2.2.2.2.2.2.2.1 a_2.2.2.2.2.2.2.2.2.2.1 a_2.2.2.2.2.2.2.2.2.2.2.1 a_2.2.2.2.2.2.2.2.2.2.2.2.1 v7.1.1 v7.1.2.1 else none else kr false else kr false else kn (IntKind.wrap .i64 (a_2.1+(1:Int))) a_2.2.1 a_2.2.2.1 a_2.2.2.2.1 a_2.2.2.2.2.1 a_2.2.2.2.2.2.1 a_2.2.2.2.2.2.2.1 a_2.2.2.2.2.2.2.2.1 a_2.2.2.2.2.2.2.2.2.1 a_2.2.2.2.2.2.2.2.2.2.1 a_2.2.2.2.2.2.2.2.2.2.2.1 a_2.2.2.2.2.2.2.2.2.2.2.2.1 a_2.2.2.2.2.2.2.2.2.2.2.2.2.1 a_2.2.2.2.2.2.2.2.2.2.2.2.2.2.1 else if (!((v6==(0:Int))==false))=true then kr false else if (v6==(0:Int))=true then if (v7.1.1 !=(IntKind.wrap .i64 (a_2.2.2.2.2.2.2.2.2.2.2.2.2.1+(1:Int))))=false then if ((v7.1.2.1.n:Int) !=(IntKind.wrap .i64 ((a_2.2.2.2.2.2.2.2.2.2.2.2.2.2.1.n:Int)+(1:Int))))=false then if 0≤(a_2.2.2.2.2.2.2.2.2.2.2.2.2.2.1.n:Int)∧(a_2.2.2.2.2.2.2.2.2.2.2.2.2.2.1.n:Int)<(v7.1.2.1.n:Int) then if ((((v7.1.2.1.at' (Int.toNat (a_2.2.2.2.2.2.2.2.2.2.2.2.2.2.1.n:Int)))).1) !=a_2.2.2.2.2.2.2.2.2.2.2.2.2.1)=true then kr false else kn (IntKind.wrap .i64 (a_2.1+(1:Int))) a_2.2.1 a_2.2.2.1 a_2.2.2.2.1 a_2.2.2.2.2.1 a_2.2.2.2.2.2.1 a_2.2.2.2.2.2.2.1 a_2.2.2.2.2.2.2.2.1 a_2.2.2.2.2.2.2.2.2.1 a_2.2.2.2.2.2.2.2.2.2.1 a_2.2.2.2.2.2.2.2.2.2.2.1 a_2.2.2.2.2.2.2.2.2.2.2.2.1 v7.1.1 v7.1.2.1
 else none else kr false else kr false else kn (IntKind.wrap .i64 (a_2.1+(1:Int))) a_2.2.1 a_2.2.2.1 a_2.2.2.2.1 a_2.2.2.2.2.1 a_2.2.2.2.2.2.1 a_2.2.2.2.2.2.2.1 a_2.2.2.2.2.2.2.2.1 a_2.2.2.2.2.2.2.2.2.1 a_2.2.2.2.2.2.2.2.2.2.1 a_2.2.2.2.2.2.2.2.2.2.2.1 a_2.2.2.2.2.2.2.2.2.2.2.2.1 a_2.2.2.2.2.2.2.2.2.2.2.2.2.1 a_2.2.2.2.2.2.2.2.2.2.2.2.2.2.1 else kr false else none else if 0≤a_2.2.2.2.2.2.2.2.2.2.2.2.2.2.2.2.1∧a_2.2.2.2.2.2.2.2.2.2.2.2.2.2.2.2.1<(a_2.2.2.2.1.n:Int) then (Gl n (a_2.2.2.2.2.2.2.2.2.2.2.2.2.1,(a_2.2.2.2.2.2.2.2.2.2.2.2.2.2.1,())) a_2.2.2.2.2.2.2.2.2.2.2.2.2.2.2.2.1).bind fun v11=>(Nb n v11.2.2.1).bind fun v12=>if (v12 !=(0:Int))=false then if (decide ((IntKind.wrap .i64 (v11.1+(1:Int)))≤(((((a_2.2.2.2.1.at' (Int.toNat a_2.2.2.2.2.2.2.2.2.2.2.2.2.2.2.2.1))).2).2).1)))=true then if (decide ((IntKind.wrap .i64 ((IntKind.wrap .i64 (v11.2.1+(a_2.2.2.2.2.2.2.2.2.2.2.2.2.2.2.2.2.2.2.2.2.1.size:Int)))+(1000:Int)))≤((((a_2.2.2.2.1.at' (Int.toNat a_2.2.2.2.2.2.2.2.2.2.2.2.2.2.2.2.1))).2).1)))=true then if (!((v6==(0:Int))==(decide ((a_2.2.2.2.2.2.2.2.2.2.2.2.2.2.1.n:Int)<(64:Int)))))=true then kr false else if (v6==(0:Int))=true then if (v7.1.1 !=(IntKind.wrap .i64 (a_2.2.2.2.2.2.2.2.2.2.2.2.2.1+(1:Int))))=false then if ((v7.1.2.1.n:Int) !=(IntKind.wrap .i64 ((a_2.2.2.2.2.2.2.2.2.2.2.2.2.2.1.n:Int)+(1:Int))))=false then if 0≤(a_2.2.2.2.2.2.2.2.2.2.2.2.2.2.1.n:Int)∧(a_2.2.2.2.2.2.2.2.2.2.2.2.2.2.1.n:Int)<(v7.1.2.1.n:Int) then
 if ((((v7.1.2.1.at' (Int.toNat (a_2.2.2.2.2.2.2.2.2.2.2.2.2.2.1.n:Int)))).1) !=a_2.2.2.2.2.2.2.2.2.2.2.2.2.1)=true then kr false else kn (IntKind.wrap .i64 (a_2.1+(1:Int))) a_2.2.1 a_2.2.2.1 a_2.2.2.2.1 a_2.2.2.2.2.1 a_2.2.2.2.2.2.1 a_2.2.2.2.2.2.2.1 a_2.2.2.2.2.2.2.2.1 a_2.2.2.2.2.2.2.2.2.1 a_2.2.2.2.2.2.2.2.2.2.1 a_2.2.2.2.2.2.2.2.2.2.2.1 a_2.2.2.2.2.2.2.2.2.2.2.2.1 v7.1.1 v7.1.2.1 else none else kr false else kr false else kn (IntKind.wrap .i64 (a_2.1+(1:Int))) a_2.2.1 a_2.2.2.1 a_2.2.2.2.1 a_2.2.2.2.2.1 a_2.2.2.2.2.2.1 a_2.2.2.2.2.2.2.1 a_2.2.2.2.2.2.2.2.1 a_2.2.2.2.2.2.2.2.2.1 a_2.2.2.2.2.2.2.2.2.2.1 a_2.2.2.2.2.2.2.2.2.2.2.1 a_2.2.2.2.2.2.2.2.2.2.2.2.1 a_2.2.2.2.2.2.2.2.2.2.2.2.2.1 a_2.2.2.2.2.2.2.2.2.2.2.2.2.2.1 else if (!((v6==(0:Int))==false))=true then kr false else if (v6==(0:Int))=true then if (v7.1.1 !=(IntKind.wrap .i64 (a_2.2.2.2.2.2.2.2.2.2.2.2.2.1+(1:Int))))=false then if ((v7.1.2.1.n:Int) !=(IntKind.wrap .i64 ((a_2.2.2.2.2.2.2.2.2.2.2.2.2.2.1.n:Int)+(1:Int))))=false then if 0≤(a_2.2.2.2.2.2.2.2.2.2.2.2.2.2.1.n:Int)∧(a_2.2.2.2.2.2.2.2.2.2.2.2.2.2.1.n:Int)<(v7.1.2.1.n:Int) then if ((((v7.1.2.1.at' (Int.toNat (a_2.2.2.2.2.2.2.2.2.2.2.2.2.2.1.n:Int)))).1) !=a_2.2.2.2.2.2.2.2.2.2.2.2.2.1)=true then kr false else kn (IntKind.wrap .i64 (a_2.1+(1:Int))) a_2.2.1 a_2.2.2.1 a_2.2.2.2.1 a_2.2.2.2.2.1 a_2.2.2.2.2.2.1 a_2.2.2.2.2.2.2.1 a_2.2.2.2.2.2.2.2.1 a_2.2.2.2.2.2.2.2.2.1 a_2.2.2.2.2.2.2.2.2.2.1 a_2.2.2.2.2.2.2.2.2.2.2.1 a_2.2.2.2.2.2.2.2.2.2.2.2.1 v7.1.1 v7.1.2.1
 else none else kr false else kr false else kn (IntKind.wrap .i64 (a_2.1+(1:Int))) a_2.2.1 a_2.2.2.1 a_2.2.2.2.1 a_2.2.2.2.2.1 a_2.2.2.2.2.2.1 a_2.2.2.2.2.2.2.1 a_2.2.2.2.2.2.2.2.1 a_2.2.2.2.2.2.2.2.2.1 a_2.2.2.2.2.2.2.2.2.2.1 a_2.2.2.2.2.2.2.2.2.2.2.1 a_2.2.2.2.2.2.2.2.2.2.2.2.1 a_2.2.2.2.2.2.2.2.2.2.2.2.2.1 a_2.2.2.2.2.2.2.2.2.2.2.2.2.2.1 else if (!((v6==(0:Int))==false))=true then kr false else if (v6==(0:Int))=true then if (v7.1.1 !=(IntKind.wrap .i64 (a_2.2.2.2.2.2.2.2.2.2.2.2.2.1+(1:Int))))=false then if ((v7.1.2.1.n:Int) !=(IntKind.wrap .i64 ((a_2.2.2.2.2.2.2.2.2.2.2.2.2.2.1.n:Int)+(1:Int))))=false then if 0≤(a_2.2.2.2.2.2.2.2.2.2.2.2.2.2.1.n:Int)∧(a_2.2.2.2.2.2.2.2.2.2.2.2.2.2.1.n:Int)<(v7.1.2.1.n:Int) then if ((((v7.1.2.1.at' (Int.toNat (a_2.2.2.2.2.2.2.2.2.2.2.2.2.2.1.n:Int)))).1) !=a_2.2.2.2.2.2.2.2.2.2.2.2.2.1)=true then kr false else kn (IntKind.wrap .i64 (a_2.1+(1:Int))) a_2.2.1 a_2.2.2.1 a_2.2.2.2.1 a_2.2.2.2.2.1 a_2.2.2.2.2.2.1 a_2.2.2.2.2.2.2.1 a_2.2.2.2.2.2.2.2.1 a_2.2.2.2.2.2.2.2.2.1 a_2.2.2.2.2.2.2.2.2.2.1 a_2.2.2.2.2.2.2.2.2.2.2.1 a_2.2.2.2.2.2.2.2.2.2.2.2.1 v7.1.1 v7.1.2.1 else none else kr false else kr false else kn (IntKind.wrap .i64 (a_2.1+(1:Int))) a_2.2.1 a_2.2.2.1 a_2.2.2.2.1 a_2.2.2.2.2.1 a_2.2.2.2.2.2.1 a_2.2.2.2.2.2.2.1 a_2.2.2.2.2.2.2.2.1 a_2.2.2.2.2.2.2.2.2.1 a_2.2.2.2.2.2.2.2.2.2.1 a_2.2.2.2.2.2.2.2.2.2.2.1 a_2.2.2.2.2.2.2.2.2.2.2.2.1 a_2.2.2.2.2.2.2.2.2.2.2.2.2.1 a_2.2.2.2.2.2.2.2.2.2.2.2.2.2.1
 else kr false else none else kr false) (fun _=>none) (fun _=>none) else none else none else ko () else ko ()
def Za (n:Nat):Nat→Int→Int→(Sq T1)→(Sq T2)→BA→Int→Int→(Sq Int)→Int→Int→Nat→U0→Int→(Sq T1)→Option (Lx (Unit) (Bool))
 | 0,_,_,_,_,_,_,_,_,_,_,_,_,_,_=>none
 | m+1,i,p1,p2,p3,p4,p5,p6,p7,p8,p9,p10,p11,s,s1=>re n i p1 p2 p3 p4 p5 p6 p7 p8 p9 p10 p11 s s1 (Za n m) (fun a=>some (.out a)) (fun a=>some (.ret a)) (fun p=>some (.pan p))
theorem Ru (n m:Nat) {S:Type}:∀ i p1 p2 p3 p4 p5 p6 p7 p8 p9 p10 p11 s s1 (φ:_→Option S),(Za n (m+1) i p1 p2 p3 p4 p5 p6 p7 p8 p9 p10 p11 s s1).bind φ=re n i p1 p2 p3 p4 p5 p6 p7 p8 p9 p10 p11 s s1 (fun i p1 p2 p3 p4 p5 p6 p7 p8 p9 p10 p11 s s1=>(Za n m i p1 p2 p3 p4 p5 p6 p7 p8 p9 p10 p11 s s1).bind φ) (fun a=>φ (.out a)) (fun a=>φ (.ret a)) (fun p=>φ (.pan p)):=by
  intros;first | (simp only [Za,re,fa,ba,iB,bB,oL,oX,nB,Option.bind_some]) | rfl
def af:List Sl:=.top::.ptr 0 0 0::.top::.ptr 1 0 0::.dat (.int .i64)::tp 168 []
def Ze:List RS:=[.box 77 11 true [.dat (.int .i64),.dat (.sl K1),.dat (.sl K6),.dat .str,.dat (.int .i64),.dat (.int .i64),.dat (.sl (.int .i64)),.dat (.int .i64),.dat (.int .i64),.dat (.flt .f64),.dat (.sl K9)],.box 24 2 true [.dat (.int .i64),.dat (.sl K1)]]
def Xo:List Sl:=tp 173 []
def Wo:List RS:=[]
def Zo:List Sl:=.top::.top::.dat .bool::tp 170 []
def Yo:List RS:=[]
def jb (K:XE→List AV→ia→Option Out):Lx (Unit) (Bool)→Option Out:=fun x=>onL x (fun a=>Ye Xo Wo () () (K (.exit 0))) (fun a=>Ye Zo Yo (a,()) () (K .ret)) (fun _=>none)
def sh (n:Nat) {R:Type} (p:T4) (k:Bool→Option R):Option R:=(Re n ((p.1.1,(p.1.2.1,())),((p.2.1.1,(p.2.1.2.1,(p.2.1.2.2.1,(p.2.1.2.2.2.1,(p.2.1.2.2.2.2.1,(p.2.1.2.2.2.2.2.1,(p.2.1.2.2.2.2.2.2.1,(p.2.1.2.2.2.2.2.2.2.1,())))))))),(p.2.2.1,())))).bind fun v=>if v=false then (be n (p.2.1.1,(p.2.1.2.1,(p.2.1.2.2.1,(p.2.1.2.2.2.1,(p.2.1.2.2.2.2.1,(p.2.1.2.2.2.2.2.1,(p.2.1.2.2.2.2.2.2.1,(p.2.1.2.2.2.2.2.2.2.1,()))))))))).bind fun v1=>if (!v1)=true then k true else (Za n n (0:Int) p.1.1 p.1.2.1 p.2.1.1 p.2.1.2.1 p.2.1.2.2.1 p.2.1.2.2.2.1 p.2.1.2.2.2.2.1 p.2.1.2.2.2.2.2.1 p.2.1.2.2.2.2.2.2.1 p.2.1.2.2.2.2.2.2.2.1 p.2.2.1 (1:Int) (⟨0,fun _=>Ba K1⟩:Sq T1)).bind fun x_1=>onL x_1 (fun a_2=>(Ud n).bind fun v13=>k v13) (fun a_3=>k a_3) (fun _=>none) else k true
def tj (n:Nat) (p:T4):Option Bool:=sh n p some
theorem yA (n:Nat) {S:Type}:∀ p (φ:_→Option S),(tj n p).bind φ=sh n p φ:=by
  intros;unfold tj sh;first | (simp only [fa,ba,iB,bB,oL,oX,nB,Option.bind_some]) | rfl
def Ib (n:Nat):Hint Out:={ live:=fun c=>(cond (Nat.beq c 0) (lv [1,3,4]) (cond (Nat.beq c 2) (lv [1,3,4,5,6,7]) [])),run:=fun c=>(cond (Nat.beq c 0) (some (Zl af Ze fun σ ρ K=>(Za n n σ.1 ρ.1.1 ρ.1.2.1 ρ.1.2.2.1 ρ.1.2.2.2.1 ρ.1.2.2.2.2.1 ρ.1.2.2.2.2.2.1 ρ.1.2.2.2.2.2.2.1 ρ.1.2.2.2.2.2.2.2.1 ρ.1.2.2.2.2.2.2.2.2.1 ρ.1.2.2.2.2.2.2.2.2.2.1 ρ.1.2.2.2.2.2.2.2.2.2.2.1 ρ.2.1.1 ρ.2.1.2.1).bind (jb K))) (cond (Nat.beq c 2) (some (Zl cf bf fun σ ρ K=>(ab n n σ.1 σ.2.1 σ.2.2.1 ρ.1.1 ρ.1.2.1 ρ.1.2.2.1 ρ.1.2.2.2.1 ρ.1.2.2.2.2.1 ρ.1.2.2.2.2.2.1 ρ.1.2.2.2.2.2.2.1 ρ.1.2.2.2.2.2.2.2.1 ρ.1.2.2.2.2.2.2.2.2.1 ρ.1.2.2.2.2.2.2.2.2.2.1 ρ.1.2.2.2.2.2.2.2.2.2.2.1 ρ.2.1.1 ρ.2.1.2.1 ρ.2.2.1.1 ρ.2.2.1.2.1 ρ.2.2.1.2.2.1 ρ.2.2.1.2.2.2.1 ρ.2.2.1.2.2.2.2.1 ρ.2.2.1.2.2.2.2.2.1 ρ.2.2.1.2.2.2.2.2.2.1 ρ.2.2.1.2.2.2.2.2.2.2.1 ρ.2.2.1.2.2.2.2.2.2.2.2.1 ρ.2.2.1.2.2.2.2.2.2.2.2.2.1).bind (lb K))) none)),xm:=fun c q=>(cond (Nat.beq c 0&&Nat.beq (q.getD 1000000) 0&&q.isSome) (some []) (cond (Nat.beq c 1&&q.isNone) (some [(2,none)]) (cond (Nat.beq c 2&&Nat.beq (q.getD 1000000) 2&&q.isSome) (some (lv [1,3,4,5])) none))),sch:=fun c=>(cond (Nat.beq c 8) (some [(0,0),(2,0),(6,0),(7,0),(1,1),(3,0),(4,0),(5,1),(8,1),(9,0),(10,3),(11,0),(12,2)]) none) }
def zd (n:Nat) (K:XE→List AV→ia→Option Out) (m:Nat) (i1:Int) (n0:Int) (k0:Int) (p12:Int) (p13:(Sq T1)) (p14:(Sq T2)) (p15:BA) (p16:Int) (p17:Int) (p18:(Sq Int)) (p19:Int) (p20:Int) (p21:Nat) (p22:U0) (s2:Int) (s3:(Sq T1)) (m0:Int) (m01:Int) (m02:Bool) (m03:BA) (m04:BA) (m05:(Sq T0)) (m06:BA) (m07:Int) (m08:Bool) (m09:Bool):Option Out:=rd tys (da Out (Yc n)) (Ib n) n (ta [1,1,1,0,1,0,0,1,0,0,1,1,1,0,1,0,0] (aa Tryz.f6)) 2 cf bf K m (i1,(n0,(k0,()))) ((p12,(p13,(p14,(p15,(p16,(p17,(p18,(p19,(p20,(p21,(p22,()))))))))))),((s2,(s3,())),((m0,(m01,(m02,(m03,(m04,(m05,(m06,(m07,(m08,(m09,())))))))))),())))
theorem Tj (n:Nat) (K:XE→List AV→ia→Option Out):∀ (m:Nat) i1 n0 k0 p12 p13 p14 p15 p16 p17 p18 p19 p20 p21 p22 s2 s3 m0 m01 m02 m03 m04 m05 m06 m07 m08 m09,zd n K m i1 n0 k0 p12 p13 p14 p15 p16 p17 p18 p19 p20 p21 p22 s2 s3 m0 m01 m02 m03 m04 m05 m06 m07 m08 m09=(ab n m i1 n0 k0 p12 p13 p14 p15 p16 p17 p18 p19 p20 p21 p22 s2 s3 m0 m01 m02 m03 m04 m05 m06 m07 m08 m09).bind (lb K)
  | 0,_,_,_,_,_,_,_,_,_,_,_,_,_,_,_,_,_,_,_,_,_,_,_,_,_,_=>by kernel_rfl
  | m+1,i1,n0,k0,p12,p13,p14,p15,p16,p17,p18,p19,p20,p21,p22,s2,s3,m0,m01,m02,m03,m04,m05,m06,m07,m08,m09=>by
    have h1:zd n K (m+1) i1 n0 k0 p12 p13 p14 p15 p16 p17 p18 p19 p20 p21 p22 s2 s3 m0 m01 m02 m03 m04 m05 m06 m07 m08 m09=se n i1 n0 k0 p12 p13 p14 p15 p16 p17 p18 p19 p20 p21 p22 s2 s3 m0 m01 m02 m03 m04 m05 m06 m07 m08 m09 (zd n K m) (fun a=>lb K (.out a)) (fun a=>lb K (.ret a)) (fun p=>lb K (.pan p)):=by kernel_rfl
    have h2:zd n K m=fun i1 n0 k0 p12 p13 p14 p15 p16 p17 p18 p19 p20 p21 p22 s2 s3 m0 m01 m02 m03 m04 m05 m06 m07 m08 m09=>(ab n m i1 n0 k0 p12 p13 p14 p15 p16 p17 p18 p19 p20 p21 p22 s2 s3 m0 m01 m02 m03 m04 m05 m06 m07 m08 m09).bind (lb K):=by
      repeat (refine funext fun _=>?_)
      exact Tj n K m _ _ _ _ _ _ _ _ _ _ _ _ _ _ _ _ _ _ _ _ _ _ _ _ _ _
    rw [h1,h2];exact (Su n m _ _ _ _ _ _ _ _ _ _ _ _ _ _ _ _ _ _ _ _ _ _ _ _ _ _ (lb K)).symm
theorem Et (n:Nat):Vc tys (da Out (Yc n)) (Ib n) n (ta [1,1,1,0,1,0,0,1,0,0,1,1,1,0,1,0,0] (aa Tryz.f6)) 2:=Ca (sp:=cf) (rp:=bf) (by kernel_rfl) fun K σ ρ=>Tj n K n σ.1 σ.2.1 σ.2.2.1 ρ.1.1 ρ.1.2.1 ρ.1.2.2.1 ρ.1.2.2.2.1 ρ.1.2.2.2.2.1 ρ.1.2.2.2.2.2.1 ρ.1.2.2.2.2.2.2.1 ρ.1.2.2.2.2.2.2.2.1 ρ.1.2.2.2.2.2.2.2.2.1 ρ.1.2.2.2.2.2.2.2.2.2.1 ρ.1.2.2.2.2.2.2.2.2.2.2.1 ρ.2.1.1 ρ.2.1.2.1 ρ.2.2.1.1 ρ.2.2.1.2.1 ρ.2.2.1.2.2.1 ρ.2.2.1.2.2.2.1 ρ.2.2.1.2.2.2.2.1 ρ.2.2.1.2.2.2.2.2.1 ρ.2.2.1.2.2.2.2.2.2.1 ρ.2.2.1.2.2.2.2.2.2.2.1 ρ.2.2.1.2.2.2.2.2.2.2.2.1 ρ.2.2.1.2.2.2.2.2.2.2.2.2.1
def xd (n:Nat) (K:XE→List AV→ia→Option Out) (m:Nat) (i:Int) (p1:Int) (p2:(Sq T1)) (p3:(Sq T2)) (p4:BA) (p5:Int) (p6:Int) (p7:(Sq Int)) (p8:Int) (p9:Int) (p10:Nat) (p11:U0) (s:Int) (s1:(Sq T1)):Option Out:=rd tys (da Out (Yc n)) (Ib n) n (ta [1,1,1,0,1,0,0] (aa Tryz.f6)) 0 af Ze K m (i,()) ((p1,(p2,(p3,(p4,(p5,(p6,(p7,(p8,(p9,(p10,(p11,()))))))))))),((s,(s1,())),()))
theorem Sj (n:Nat) (K:XE→List AV→ia→Option Out):∀ (m:Nat) i p1 p2 p3 p4 p5 p6 p7 p8 p9 p10 p11 s s1,xd n K m i p1 p2 p3 p4 p5 p6 p7 p8 p9 p10 p11 s s1=(Za n m i p1 p2 p3 p4 p5 p6 p7 p8 p9 p10 p11 s s1).bind (jb K)
  | 0,_,_,_,_,_,_,_,_,_,_,_,_,_,_=>by kernel_rfl
  | m+1,i,p1,p2,p3,p4,p5,p6,p7,p8,p9,p10,p11,s,s1=>by
    have h1:xd n K (m+1) i p1 p2 p3 p4 p5 p6 p7 p8 p9 p10 p11 s s1=re n i p1 p2 p3 p4 p5 p6 p7 p8 p9 p10 p11 s s1 (xd n K m) (fun a=>jb K (.out a)) (fun a=>jb K (.ret a)) (fun p=>jb K (.pan p)):=by kernel_rfl
    have h2:xd n K m=fun i p1 p2 p3 p4 p5 p6 p7 p8 p9 p10 p11 s s1=>(Za n m i p1 p2 p3 p4 p5 p6 p7 p8 p9 p10 p11 s s1).bind (jb K):=by
      repeat (refine funext fun _=>?_)
      exact Sj n K m _ _ _ _ _ _ _ _ _ _ _ _ _ _
    rw [h1,h2];exact (Ru n m _ _ _ _ _ _ _ _ _ _ _ _ _ _ (jb K)).symm
theorem Dt (n:Nat):Vc tys (da Out (Yc n)) (Ib n) n (ta [1,1,1,0,1,0,0] (aa Tryz.f6)) 0:=Ca (sp:=af) (rp:=Ze) (by kernel_rfl) fun K σ ρ=>Sj n K n σ.1 ρ.1.1 ρ.1.2.1 ρ.1.2.2.1 ρ.1.2.2.2.1 ρ.1.2.2.2.2.1 ρ.1.2.2.2.2.2.1 ρ.1.2.2.2.2.2.2.1 ρ.1.2.2.2.2.2.2.2.1 ρ.1.2.2.2.2.2.2.2.2.1 ρ.1.2.2.2.2.2.2.2.2.2.1 ρ.1.2.2.2.2.2.2.2.2.2.2.1 ρ.2.1.1 ρ.2.1.2.1
theorem Tu (n:Nat):qa tys (da Out (Yc n)) (Ib n) n (aa Tryz.f6) 0:=⟨trivial,⟨⟨trivial,⟨⟨trivial,trivial⟩,trivial⟩⟩,⟨trivial,⟨⟨trivial,⟨Dt n,⟨⟨trivial,⟨trivial,trivial⟩⟩,⟨⟨trivial,⟨trivial,⟨trivial,⟨⟨trivial,⟨Et n,⟨⟨trivial,⟨trivial,trivial⟩⟩,⟨trivial,trivial⟩⟩⟩⟩,⟨trivial,⟨trivial,⟨⟨trivial,⟨⟨trivial,trivial⟩,trivial⟩⟩,⟨trivial,⟨trivial,⟨⟨trivial,⟨⟨trivial,trivial⟩,trivial⟩⟩,⟨trivial,⟨⟨⟨trivial,⟨⟨trivial,trivial⟩,trivial⟩⟩,trivial⟩,trivial⟩⟩⟩⟩⟩⟩⟩⟩⟩⟩⟩⟩,trivial⟩⟩⟩⟩,⟨trivial,trivial⟩⟩⟩⟩⟩
theorem mw (n:Nat):Enters Tryz.prog 6:=enters_of (c:=aa Tryz.f6) Tryz.func6 (by kernel_rfl) (by kernel_rfl)
def fm (n:Nat):Entry:=⟨6,pcT K11 (.one .bool) (fun xs=>tj n xs.1),none,none⟩
theorem Gy (n:Nat):EntryOk Tryz.prog gl (fm n):=wa (mw n) fun xs y h=>ja tys_ok (fp n) mixed (hint:=Ib n) (n:=n) Tryz.func6 (Ea (Tu n)) (ma (φ:=(fun y=>some (Out.ret (Uc (.one .bool) y)))) (by kernel_rfl) (yA n xs.1 _) h)
def Ig (n:Nat):List Entry:=fm n::Yc n
theorem Aj (n:Nat):AllOk Tryz.prog gl (Ig n):=.cons (Gy n) (fp n)
end
end Go.Proofs.YtdhehcnfkcibiaaGreatDoor.AM
