/- Typed functions that tell what the Go functions of this seat answer, and proofs of it, by program (gen.py). -/
import Derived.Test.YtddefjokgaajfaaGreatDoorYF0
set_option linter.all false
set_option linter.unusedVariables false
set_option linter.unusedSimpArgs false
set_option maxRecDepth 1000000
set_option maxHeartbeats 0
namespace Go.Proofs.YtddefjokgaajfaaGreatDoor.AM
open Go Go.RowKit
noncomputable section
def ui (n:Nat) {R:Type} (l t10:(Sq BA)) (t11 t12:Int) (kn:(Sq BA)→(Sq BA)→Int→Int→Option R) (ko:((Sq BA))→Option R) (kr:(Bool)→Option R) (kp:Int→Option R):Option R:=
 if (decide (t12<t11))=true then
 if 0≤t12∧t12<(t10.n:Int) then
  (G4 (t10.at' (Int.toNat t12))).bind fun v1=>
  if v1.2=true then
  if (decide (v1.1<(0:Int)))=false then
   if (decide (v1.1>(255:Int)))=false then
   (pR v1.1).bind fun v2=>
   if (!(v2.toList==(t10.at' (Int.toNat t12)).toList))=true then
    kr false
   else
    kn l t10 t11 (IntKind.wrap .i64 (t12+(1:Int)))
   else
   kr false
  else
   kr false
  else
  kr false
 else
  none
 else
 ko l
def Bc (n:Nat):Nat→(Sq BA)→(Sq BA)→Int→Int→Option (Lx ((Sq BA)) (Bool))
 | 0,_,_,_,_=>none
 | m+1,l,t10,t11,t12=>ui n l t10 t11 t12 (Bc n m) (fun a=>some (.out a)) (fun a=>some (.ret a)) (fun p=>some (.pan p))
theorem yM (n m:Nat) {S:Type}:∀ l t10 t11 t12 (φ:_→Option S),(Bc n (m+1) l t10 t11 t12).bind φ=ui n l t10 t11 t12 (fun l t10 t11 t12=>(Bc n m l t10 t11 t12).bind φ) (fun a=>φ (.out a)) (fun a=>φ (.ret a)) (fun p=>φ (.pan p)):=by
 intros;first | (simp only [Bc,ui,fa,ba,iB,bB,oL,oX,nB,Option.bind_some]) | rfl
def So:List Sl:=.top::.top::.top::.dat (.sl .str)::tp 6 (.dat (.sl .str)::.dat (.int .i64)::.dat (.int .i64)::tp 28 [])
def Ro:List RS:=[]
def oD:List Sl:=.top::.top::.top::.dat (.sl .str)::tp 37 []
def nD:List RS:=[]
def qD:List Sl:=.top::.top::.dat .bool::tp 38 []
def pD:List RS:=[]
def ke (K:XE→List AV→ia→Option Out):Lx ((Sq BA)) (Bool)→Option Out:=fun x=>onL x (fun a=>ak oD nD (a,()) () (K (.exit 0))) (fun a=>ak qD pD (a,()) () (K .ret)) (fun _=>none)
def Ut (n:Nat) {R:Type} (s:BA) (k:Bool→Option R):Option R:=
 (jD n s (⟨#[46]⟩:BA)).bind fun v=>
 (Bc n n v v (v.n:Int) (0:Int)).bind fun x_1=>onL x_1
 (fun a_2=>
  k ((a_2.n:Int)==(4:Int)))
 (fun a_3=>
  k a_3)
 (fun _=>none)
def Sm (n:Nat) (s:BA):Option Bool:=Ut n s some
theorem TS (n:Nat) {S:Type}:∀ s (φ:_→Option S),(Sm n s).bind φ=Ut n s φ:=by
 intros;unfold Sm Ut;first | (simp only [fa,ba,iB,bB,oL,oX,nB,Option.bind_some]) | rfl
def Zk (n:Nat):Hint Out:={ live:=fun c=>(cond (Nat.beq c 0) [(3,some (.sl .str)),(10,some (.sl .str)),(11,none),(12,none)] []),run:=fun c=>(cond (Nat.beq c 0) (some (aq So Ro fun σ ρ K=>(Bc n n σ.1 σ.2.1 σ.2.2.1 σ.2.2.2.1).bind (ke K))) none),xm:=fun c q=>(cond (Nat.beq c 0&&Nat.beq (q.getD 1000000) 0&&q.isSome) (some [(3,some (.sl .str))]) (cond (Nat.beq c 1&&q.isNone) (some [(2,none)]) none)) }
def Xk (n:Nat) (K:XE→List AV→ia→Option Out) (m:Nat) (l:(Sq BA)) (t10:(Sq BA)) (t11:Int) (t12:Int):Option Out:=Pe tys (da Out (si n)) (Zk n) n (Da [1,1,0,1,0,0] (aa Tryz.f129)) 0 So Ro K m (l,(t10,(t11,(t12,())))) ()
theorem Lz (n:Nat) (K:XE→List AV→ia→Option Out):∀ (m:Nat) l t10 t11 t12,Xk n K m l t10 t11 t12=(Bc n m l t10 t11 t12).bind (ke K)
 | 0,_,_,_,_=>by kernel_rfl
 | m+1,l,t10,t11,t12=>by
  have h1:Xk n K (m+1) l t10 t11 t12=ui n l t10 t11 t12 (Xk n K m) (fun a=>ke K (.out a)) (fun a=>ke K (.ret a)) (fun p=>ke K (.pan p)):=by kernel_rfl
  have h2:Xk n K m=fun l t10 t11 t12=>(Bc n m l t10 t11 t12).bind (ke K):=by
   repeat (refine funext fun _=>?_)
   exact Lz n K m _ _ _ _
  rw [h1,h2];exact (yM n m _ _ _ _ (ke K)).symm
theorem pL (n:Nat):ie tys (da Out (si n)) (Zk n) n (Da [1,1,0,1,0,0] (aa Tryz.f129)) 0:=Oa (sp:=So) (rp:=Ro) (by kernel_rfl) fun K σ ρ=>Lz n K n σ.1 σ.2.1 σ.2.2.1 σ.2.2.2.1
theorem BM (n:Nat):ta tys (da Out (si n)) (Zk n) n (aa Tryz.f129) 0:=⟨trivial,⟨trivial,⟨⟨trivial,⟨pL n,⟨trivial,⟨⟨trivial,trivial⟩,⟨⟨trivial,⟨trivial,⟨trivial,⟨⟨trivial,trivial⟩,trivial⟩⟩⟩⟩,trivial⟩⟩⟩⟩⟩,⟨trivial,trivial⟩⟩⟩⟩
theorem OO (n:Nat):Enters Tryz.prog 129:=enters_of (c:=aa Tryz.f129) Tryz.func129 (by kernel_rfl) (by kernel_rfl)
def QG (n:Nat):Entry:=⟨129,pcT (.pair .str .unit) (.one .bool) (fun xs=>Sm n xs.1),none,none⟩
theorem RG (n:Nat):EntryOk Tryz.prog gl (QG n):=
 Qa (OO n) fun xs y h=>ra tys_ok (Lu n) mixed (hint:=Zk n) (n:=n) Tryz.func129 (Pa (BM n)) (la (φ:=(fun y=>some (Out.ret (Vf (.one .bool) y)))) (by kernel_rfl) (TS n xs.1 _) h)
def Yk (n:Nat):List Entry:=QG n::si n
theorem yy (n:Nat):AllOk Tryz.prog gl (Yk n):=.cons (RG n) (Lu n)
def Rm (n:Nat) {R:Type} (s1:BA) (t5 t6:Int) (kn:BA→Int→Int→Option R) (ko:(BA)→Option R) (kr:(Bool)→Option R) (kp:Int→Option R):Option R:=
 if (decide (t6<t5))=true then
 if 0≤t6∧t6<(s1.size:Int) then
  (pF n (bt s1 t6)).bind fun v=>
  if (!v)=true then
  if 0≤t6∧t6<(s1.size:Int) then
   if ((bt s1 t6) !=(45:Int))=false then
   if (t6==(0:Int))=false then
    if (t6==(IntKind.wrap .i64 ((s1.size:Int) - (1:Int))))=true then
    kr false
    else
    kn s1 t5 (IntKind.wrap .i64 (t6+(1:Int)))
   else
    kr false
   else
   kr false
  else
   none
  else
  kn s1 t5 (IntKind.wrap .i64 (t6+(1:Int)))
 else
  none
 else
 ko s1
def je (n:Nat):Nat→BA→Int→Int→Option (Lx (BA) (Bool))
 | 0,_,_,_=>none
 | m+1,s1,t5,t6=>Rm n s1 t5 t6 (je n m) (fun a=>some (.out a)) (fun a=>some (.ret a)) (fun p=>some (.pan p))
theorem PQ (n m:Nat) {S:Type}:∀ s1 t5 t6 (φ:_→Option S),(je n (m+1) s1 t5 t6).bind φ=Rm n s1 t5 t6 (fun s1 t5 t6=>(je n m s1 t5 t6).bind φ) (fun a=>φ (.out a)) (fun a=>φ (.ret a)) (fun p=>φ (.pan p)):=by
 intros;first | (simp only [je,Rm,fa,ba,iB,bB,oL,oX,nB,Option.bind_some]) | rfl
def Qu:List Sl:=.dat .str::tp 4 (.dat (.int .i64)::.dat (.int .i64)::tp 33 [])
def Pu:List RS:=[]
def NG:List Sl:=.dat .str::tp 39 []
def MG:List RS:=[]
def PG:List Sl:=.top::.top::.dat .bool::tp 37 []
def OG:List RS:=[]
def tg (K:XE→List AV→ia→Option Out):Lx (BA) (Bool)→Option Out:=fun x=>onL x (fun a=>ak NG MG (a,()) () (K (.exit 0))) (fun a=>ak PG OG (a,()) () (K .ret)) (fun _=>none)
def zC (n:Nat) {R:Type} (s:BA) (k:Bool→Option R):Option R:=
 (je n n s (s.size:Int) (0:Int)).bind fun x_1=>onL x_1
 (fun a_2=>
  if (decide ((a_2.size:Int)≥(1:Int)))=true then
  k (decide ((a_2.size:Int)≤(63:Int)))
  else
  k false)
 (fun a_3=>
  k a_3)
 (fun _=>none)
def Tt (n:Nat) (s:BA):Option Bool:=zC n s some
theorem lY (n:Nat) {S:Type}:∀ s (φ:_→Option S),(Tt n s).bind φ=zC n s φ:=by
 intros;unfold Tt zC;first | (simp only [fa,ba,iB,bB,oL,oX,nB,Option.bind_some]) | rfl
def pq (n:Nat):Hint Out:={ live:=fun c=>(cond (Nat.beq c 0) (lv [0,5,6]) []),run:=fun c=>(cond (Nat.beq c 0) (some (aq Qu Pu fun σ ρ K=>(je n n σ.1 σ.2.1 σ.2.2.1).bind (tg K))) none),xm:=fun c q=>(cond (Nat.beq c 0&&Nat.beq (q.getD 1000000) 0&&q.isSome) (some [(0,none)]) (cond (Nat.beq c 1&&q.isNone) (some [(2,none)]) none)) }
def oq (n:Nat) (K:XE→List AV→ia→Option Out) (m:Nat) (s1:BA) (t5:Int) (t6:Int):Option Out:=Pe tys (da Out (Yk n)) (pq n) n (Da [1,0,1,0,0] (aa Tryz.f131)) 0 Qu Pu K m (s1,(t5,(t6,()))) ()
theorem LG (n:Nat) (K:XE→List AV→ia→Option Out):∀ (m:Nat) s1 t5 t6,oq n K m s1 t5 t6=(je n m s1 t5 t6).bind (tg K)
 | 0,_,_,_=>by kernel_rfl
 | m+1,s1,t5,t6=>by
  have h1:oq n K (m+1) s1 t5 t6=Rm n s1 t5 t6 (oq n K m) (fun a=>tg K (.out a)) (fun a=>tg K (.ret a)) (fun p=>tg K (.pan p)):=by kernel_rfl
  have h2:oq n K m=fun s1 t5 t6=>(je n m s1 t5 t6).bind (tg K):=by
   repeat (refine funext fun _=>?_)
   exact LG n K m _ _ _
  rw [h1,h2];exact (PQ n m _ _ _ (tg K)).symm
theorem MO (n:Nat):ie tys (da Out (Yk n)) (pq n) n (Da [1,0,1,0,0] (aa Tryz.f131)) 0:=Oa (sp:=Qu) (rp:=Pu) (by kernel_rfl) fun K σ ρ=>LG n K n σ.1 σ.2.1 σ.2.2.1
theorem QQ (n:Nat):ta tys (da Out (Yk n)) (pq n) n (aa Tryz.f131) 0:=⟨trivial,⟨⟨trivial,⟨MO n,⟨trivial,⟨⟨trivial,trivial⟩,⟨⟨trivial,⟨trivial,⟨⟨trivial,trivial⟩,trivial⟩⟩⟩,trivial⟩⟩⟩⟩⟩,⟨trivial,trivial⟩⟩⟩
theorem SS (n:Nat):Enters Tryz.prog 131:=enters_of (c:=aa Tryz.f131) Tryz.func131 (by kernel_rfl) (by kernel_rfl)
def uM (n:Nat):Entry:=⟨131,pcT (.pair .str .unit) (.one .bool) (fun xs=>Tt n xs.1),none,none⟩
theorem xM (n:Nat):EntryOk Tryz.prog gl (uM n):=
 Qa (SS n) fun xs y h=>ra tys_ok (yy n) mixed (hint:=pq n) (n:=n) Tryz.func131 (Pa (QQ n)) (la (φ:=(fun y=>some (Out.ret (Vf (.one .bool) y)))) (by kernel_rfl) (lY n xs.1 _) h)
def vM (n:Nat):List Entry:=uM n::Yk n
theorem NO (n:Nat):AllOk Tryz.prog gl (vM n):=.cons (xM n) (yy n)
def Yj (n:Nat) (s:BA):Option Bool:=
 (qg n s).bind fun b=>if b=true then (Tc n s ⟨#[93]⟩).bind fun c=>if c=true then (if 2≤(s.size:Int)∧(s.size:Int)≤9223372036854775807 then Sm n (s.extract 1 (s.size - 1)) else none) else some false
 else Dom.domT (fun x=>Un n x Dom.dot) (Tt n) n s
theorem HO:Tryz.prog.funcs[103]?=some Tryz.f103:=by kernel_rfl
theorem JO (n:Nat):EntryOk Tryz.prog gl ⟨103,pcT (.pair .str .unit) (.one .bool) (fun xs=>Yj n xs.1),none,none⟩:=Qa (enters_of (c:=aa Tryz.f103) HO (by kernel_rfl) (by kernel_rfl)) fun xs y h=>by
 refine ZQ (args:=[.string xs.1]) (v:=.bool y) (fun w0 hg hn=>?_)
 have hlit:∀ b,qg n xs.1=some b→∀ (w:World),Below w0.heap.size w0 w→Calls Tryz.prog 128 #[.string xs.1] w fun e w'=>e=.returned (.bool b)∧Below w.heap.size w w':=fun b hb' w hb=>
  nH (Jz n) (args:=[.string xs.1]) (v:=.bool b) (by show (qg n xs.1).bind _=_;rw [hb'];rfl) hg hn hb
 have hsuf:∀ b,Tc n xs.1 ⟨#[93]⟩=some b→∀ (w:World),Below w0.heap.size w0 w→Calls Tryz.prog 59 #[.string xs.1,.string ⟨#[93]⟩] w fun e w'=>e=.returned (.bool b)∧Below w.heap.size w w':=fun b hb' w hb=>
  nH (sC n) (args:=[.string xs.1,.string ⟨#[93]⟩]) (v:=.bool b) (by show (Tc n xs.1 ⟨#[93]⟩).bind _=_;rw [hb'];rfl) hg hn hb
 unfold Yj at h
 obtain ⟨b,hb,h⟩:=Option.bind_eq_some_iff.1 h
 cases b with
 | true=>
  rw [if_pos rfl] at h
  obtain ⟨c,hc,h⟩:=Option.bind_eq_some_iff.1 h
  refine Dom.dom2 xs.1 c y w0 (hlit true hb) (hsuf c hc) (fun hc'=>?_) (fun hc'=>?_)
  · rw [if_pos hc'] at h
    split at h
    · rename_i hsz
      exact ⟨hsz,fun w hbw=>nH (RG n) (args:=[.string (xs.1.extract 1 (xs.1.size - 1))]) (v:=.bool y) (by show (Sm n (xs.1.extract 1 (xs.1.size - 1))).bind _=_;rw [h];rfl) hg hn hbw⟩
    · cases h
  · rw [if_neg (by rw [hc'];simp)] at h
    exact (Option.some.inj h).symm
 | false=>
  rw [if_neg (by simp)] at h
  exact Dom.dom1 _ _ n xs.1 y w0 (fun x i w hbw hx=>nH (uO n) (args:=[.string x,.string Dom.dot]) (v:=.int .i64 i) (by show (Un n x Dom.dot).bind _=_;rw [hx];rfl) hg hn hbw)
   (fun x i w hbw hx=>nH (xM n) (args:=[.string x]) (v:=.bool i) (by show (Tt n x).bind _=_;rw [hx];rfl) hg hn hbw) (hlit false hb) h
def Ou (n:Nat):List Entry:=⟨103,pcT (.pair .str .unit) (.one .bool) (fun xs=>Yj n xs.1),none,none⟩::vM n
theorem Pm (n:Nat):AllOk Tryz.prog gl (Ou n):=.cons (JO n) (NO n)
def Xn (n:Nat) {R:Type} (s:BA) (k:U1→Option R) (kp:Int→Option R):Option R:=
 (bl n s).bind fun x_1=>onX x_1 (fun p=>
 kp p) (fun v=>
 if (decide ((v.1.size:Int)≤(64:Int)))=true then
 (Sa n v.2.1 (⟨#[64]⟩:BA)).bind fun v1=>
 (jc n v1).bind fun x_2=>onX x_2 (fun p1=>
  kp p1) (fun v2=>
 if 0≤(1:Int)∧(1:Int)≤(v.2.1.size:Int) then
  (Wt n (v.2.1.extract (Int.toNat (1:Int)) (Int.toNat (v.2.1.size:Int)))).bind fun v3=>
  (Yj n v3).bind fun v4=>
  (jc n v4).bind fun x_3=>onX x_3 (fun p2=>
  kp p2) (fun v5=>
  k (v.1,(v3,())))
 else
  none)
 else
 (jc n false).bind fun x_4=>onX x_4 (fun p3=>
  kp p3) (fun v6=>
 if 0≤(1:Int)∧(1:Int)≤(v.2.1.size:Int) then
  (Wt n (v.2.1.extract (Int.toNat (1:Int)) (Int.toNat (v.2.1.size:Int)))).bind fun v7=>
  (Yj n v7).bind fun v8=>
  (jc n v8).bind fun x_5=>onX x_5 (fun p4=>
  kp p4) (fun v9=>
  k (v.1,(v7,())))
 else
  none))
def ur (n:Nat) (s:BA):Option (Except Int U1):=Xn n s (fun y=>some (.ok y)) (fun p=>some (.error p))
theorem aT (n:Nat) {S:Type}:∀ s (φ:_→Option S),(ur n s).bind φ=Xn n s (fun y=>φ (.ok y)) (fun p=>φ (.error p)):=by
 intros;unfold ur Xn;first | (simp only [fa,ba,iB,bB,oL,oX,nB,Option.bind_some]) | rfl
def Pz (n:Nat):Hint Out:={ live:=fun c=>[],run:=fun c=>none,xm:=fun c q=>none }
theorem HK (n:Nat):ta tys (da Out (Ou n)) (Pz n) n (aa Tryz.f147) 0:=ma (fun _=>rfl) _ _ (by kernel_rfl)
theorem uV (n:Nat):Enters Tryz.prog 147:=enters_of (c:=aa Tryz.f147) Tryz.func147 (by kernel_rfl) (by kernel_rfl)
def aQ (n:Nat):Entry:=⟨147,pcX 184 (.pair .str .unit) (.one (.pair .str (.pair .str .unit))) (fun xs=>ur n xs.1),none,none⟩
theorem pY (n:Nat):EntryOk Tryz.prog gl (aQ n):=
 HX (uV n) (fun xs y h=>ra tys_ok (Pm n) mixed (hint:=Pz n) (n:=n) Tryz.func147 (Pa (HK n)) (la (φ:=(fun r=>onX r (fun p=>some (Out.pan (yC 184 p))) fun y=>some (Out.ret (Vf (.one (.pair .str (.pair .str .unit))) y)))) (by kernel_rfl) (aT n xs.1 _) h))
  (fun xs p h=>ra tys_ok (Pm n) mixed (hint:=Pz n) (n:=n) Tryz.func147 (Pa (HK n)) (la (φ:=(fun r=>onX r (fun p=>some (Out.pan (yC 184 p))) fun y=>some (Out.ret (Vf (.one (.pair .str (.pair .str .unit))) y)))) (by kernel_rfl) (aT n xs.1 _) h))
def gr (n:Nat):List Entry:=aQ n::Ou n
theorem dH (n:Nat):AllOk Tryz.prog gl (gr n):=.cons (pY n) (Pm n)
def er (n:Nat) {R:Type} (s:BA) (k:(U1×Int×Unit)→Option R):Option R:=
 (ur n s).bind fun x_1=>onX x_1 (fun p=>
 k (((⟨#[]⟩:BA),((⟨#[]⟩:BA),())),(p,()))) (fun v=>
 k ((v.1,(v.2.1,())),((0:Int),())))
def Rt (n:Nat) (s:BA):Option (U1×Int×Unit):=er n s some
theorem iY (n:Nat) {S:Type}:∀ s (φ:_→Option S),(Rt n s).bind φ=er n s φ:=by
 intros;unfold Rt er;first | (simp only [fa,ba,iB,bB,oL,oX,nB,Option.bind_some]) | rfl
def nq (n:Nat):Hint Out:={ live:=fun c=>[],run:=fun c=>none,xm:=fun c q=>none,pm:=some [(2,none),(3,none)] }
theorem OQ (n:Nat):ta tys (da Out (gr n)) (nq n) n (Da [0] (aa Tryz.f120)) 0∧ta tys (da Out (gr n)) (nq n) n (Da [1,1] (aa Tryz.f120)) 0:=⟨trivial,⟨trivial,trivial⟩⟩
theorem OS (n:Nat):Enters Tryz.prog 120:=enters_of (c:=aa Tryz.f120) Tryz.func120 (by kernel_rfl) (by kernel_rfl)
theorem CK:Tryz.prog.funcs[146]?=some Tryz.f146:=by kernel_rfl
theorem NQ:Enters Tryz.prog 146:=enters_of (c:=aa Tryz.f146) CK (by kernel_rfl) (by kernel_rfl)
theorem LO (n:Nat):ta tys (da Out (gr n)) GT n (Da [1] (aa Tryz.f146)) 0:=⟨⟨trivial,⟨trivial,trivial⟩⟩,⟨trivial,⟨⟨trivial,⟨trivial,trivial⟩⟩,trivial⟩⟩⟩
theorem gY (n:Nat) (s:BA):fnD tys (da Out (gr n)) (nq n) n 146 Tryz.f146 Tryz.f120 (yZ (.pair .str .unit) (s,())) (lZ fun v=>some (.ret v))=er n s (fun y=>some (.ret (Vf (.many (.pair (.pair .str (.pair .str .unit)) (.pair (.int .i64) .unit))) y))):=by kernel_rfl
def tM (n:Nat):Entry:=⟨120,pcT (.pair .str .unit) (.many (.pair (.pair .str (.pair .str .unit)) (.pair (.int .i64) .unit))) (fun xs=>Rt n xs.1),none,none⟩
theorem nV (n:Nat):EntryOk Tryz.prog gl (tM n):=
 Qa (OS n) fun xs y h=>tY tys_ok (dH n) mixed (hint:=nq n) (n:=n) (fn:=Tryz.f120) (f2:=Tryz.f146) Tryz.func120 CK NQ (Wab (OQ n)) (T9 (LO n)) (la (φ:=(fun y=>some (Out.ret (Vf (.many (.pair (.pair .str (.pair .str .unit)) (.pair (.int .i64) .unit))) y)))) (gY n xs.1) (iY n xs.1 _) h)
def kF (n:Nat):List Entry:=tM n::gr n
theorem rE (n:Nat):AllOk Tryz.prog gl (kF n):=.cons (nV n) (dH n)
def HG (n:Nat) {R:Type} (s:BA) (k:(U1×Bool×Int×Unit)→Option R):Option R:=
 if (s.toList==(⟨#[60,62]⟩:BA).toList)=true then
 k (((⟨#[]⟩:BA),((⟨#[]⟩:BA),())),(true,((0:Int),())))
 else
 if (decide ((s.size:Int)<(2:Int)))=false then
  if 0≤(0:Int)∧(0:Int)<(s.size:Int) then
  if ((bt s (0:Int)) !=(60:Int))=false then
   if 0≤(IntKind.wrap .i64 ((s.size:Int) - (1:Int)))∧(IntKind.wrap .i64 ((s.size:Int) - (1:Int)))<(s.size:Int) then
   if ((bt s (IntKind.wrap .i64 ((s.size:Int) - (1:Int)))) !=(62:Int))=true then
    k (((⟨#[]⟩:BA),((⟨#[]⟩:BA),())),(false,((8:Int),())))
   else
    if 0≤(IntKind.wrap .i64 ((s.size:Int) - (1:Int)))∧(IntKind.wrap .i64 ((s.size:Int) - (1:Int)))≤(s.size:Int) then
    if 0≤(1:Int)∧(1:Int)≤(IntKind.wrap .i64 ((s.size:Int) - (1:Int))) then
     (Rt n (s.extract (Int.toNat (1:Int)) (Int.toNat (IntKind.wrap .i64 ((s.size:Int) - (1:Int)))))).bind fun v=>
     k ((v.1.1,(v.1.2.1,())),(false,(v.2.1,())))
    else
     none
    else
    none
   else
   none
  else
   k (((⟨#[]⟩:BA),((⟨#[]⟩:BA),())),(false,((8:Int),())))
  else
  none
 else
  k (((⟨#[]⟩:BA),((⟨#[]⟩:BA),())),(false,((8:Int),())))
def Kz (n:Nat) (s:BA):Option (U1×Bool×Int×Unit):=HG n s some
theorem IZ (n:Nat) {S:Type}:∀ s (φ:_→Option S),(Kz n s).bind φ=HG n s φ:=by
 intros;unfold Kz HG;first | (simp only [fa,ba,iB,bB,oL,oX,nB,Option.bind_some]) | rfl
def DK (n:Nat):Hint Out:={ live:=fun c=>[],run:=fun c=>none,xm:=fun c q=>none }
theorem PS (n:Nat):ta tys (da Out (kF n)) (DK n) n (aa Tryz.f96) 0:=ma (fun _=>rfl) _ _ (by kernel_rfl)
theorem oV (n:Nat):Enters Tryz.prog 96:=enters_of (c:=aa Tryz.f96) Tryz.func96 (by kernel_rfl) (by kernel_rfl)
def WP (n:Nat):Entry:=⟨96,pcT (.pair .str .unit) (.many K3) (fun xs=>Kz n xs.1),none,none⟩
theorem jY (n:Nat):EntryOk Tryz.prog gl (WP n):=
 Qa (oV n) fun xs y h=>ra tys_ok (rE n) mixed (hint:=DK n) (n:=n) Tryz.func96 (Pa (PS n)) (la (φ:=(fun y=>some (Out.ret (Vf (.many K3) y)))) (by kernel_rfl) (IZ n xs.1 _) h)
def nJ (n:Nat):List Entry:=WP n::kF n
theorem IG (n:Nat):AllOk Tryz.prog gl (nJ n):=.cons (jY n) (rE n)
def dM (n:Nat) {R:Type} (m0:U1) (k:BA→Option R):Option R:=
 if Ca m0.1 (⟨#[64]⟩:BA)=true then
 if Ca (m0.1++(⟨#[64]⟩:BA)) m0.2.1=true then
  k ((m0.1++(⟨#[64]⟩:BA))++m0.2.1)
 else
  none
 else
 none
def AK (n:Nat) (m0:U1):Option BA:=dM n m0 some
theorem F4 (n:Nat) {S:Type}:∀ m0 (φ:_→Option S),(AK n m0).bind φ=dM n m0 φ:=by
 intros;unfold AK dM;first | (simp only [fa,ba,iB,bB,oL,oX,nB,Option.bind_some]) | rfl
def sM (n:Nat):Hint Out:={ live:=fun c=>[],run:=fun c=>none,xm:=fun c q=>none }
theorem mV (n:Nat):ta tys (da Out (nJ n)) (sM n) n (aa Tryz.f97) 0:=ma (fun _=>rfl) _ _ (by kernel_rfl)
theorem fY (n:Nat):Enters Tryz.prog 97:=enters_of (c:=aa Tryz.f97) Tryz.func97 (by kernel_rfl) (by kernel_rfl)
def NS (n:Nat):Entry:=⟨97,pcT (.pair (.pair .str (.pair .str .unit)) .unit) (.one .str) (fun xs=>AK n xs.1),none,none⟩
theorem HZ (n:Nat):EntryOk Tryz.prog gl (NS n):=
 Qa (fY n) fun xs y h=>ra tys_ok (IG n) mixed (hint:=sM n) (n:=n) Tryz.func97 (Pa (mV n)) (la (φ:=(fun y=>some (Out.ret (Vf (.one .str) y)))) (by kernel_rfl) (F4 n xs.1 _) h)
def rM (n:Nat):List Entry:=NS n::nJ n
theorem BK (n:Nat):AllOk Tryz.prog gl (rM n):=.cons (HZ n) (IG n)
def Bb (n:Nat) {R:Type} (path:BA) (b0:Bool) (b01:(Sq Int)) (b02:BA) (b03:Bool) (b04 b05:BA) (b06:Bool) (b07:BA) (r1 r2:(Sq BA)) (k:U0→Option R):Option R:=
 (Kz n path).bind fun v=>
 if (v.2.2.1 !=(0:Int))=false then
 if v.2.1=true then
  (ua n (500:Int) b0 b01 b02 b03 b04 b05 b06 b07 r1 r2).bind fun v1=>
  k (v1.1,(v1.2.1,(v1.2.2.1,(v1.2.2.2.1,(v1.2.2.2.2.1,(v1.2.2.2.2.2.1,(v1.2.2.2.2.2.2.1,(v1.2.2.2.2.2.2.2.1,(v1.2.2.2.2.2.2.2.2.1,(v1.2.2.2.2.2.2.2.2.2.1,()))))))))))
 else
  (Pb n b0 b01 b02 b03 b04 b05 b06 b07 r1 r2).bind fun v2=>
  if v2.1=true then
  Q3 (
   (AK n (v.1.1,(v.1.2.1,()))).bind fun v3=>
   if Ta (v2.2.2.2.2.2.2.2.2.2.1.n+1) 16=true then
   k (v2.2.1,(v2.2.2.1,(v2.2.2.2.1,(v2.2.2.2.2.1,(v2.2.2.2.2.2.1,(v2.2.2.2.2.2.2.1,(v2.2.2.2.2.2.2.2.1,(v2.2.2.2.2.2.2.2.2.1,((⟨(v2.2.2.2.2.2.2.2.2.2.1.n+1),fun q=>if q<v2.2.2.2.2.2.2.2.2.2.1.n then v2.2.2.2.2.2.2.2.2.2.1.at' q else (fun q=>List.getD (α:=BA) [v3] q (Ba .str)) (q - v2.2.2.2.2.2.2.2.2.2.1.n)⟩:Sq BA),(v2.2.2.2.2.2.2.2.2.2.2.1,()))))))))))
   else
   none) (
   (AK n (v.1.1,(v.1.2.1,()))).bind fun v4=>
   dup 1 (
   if Ta (v2.2.2.2.2.2.2.2.2.2.1.n+1) 16=true then
    k (v2.2.1,(v2.2.2.1,(v2.2.2.2.1,(v2.2.2.2.2.1,(v2.2.2.2.2.2.1,(v2.2.2.2.2.2.2.1,(v2.2.2.2.2.2.2.2.1,(v2.2.2.2.2.2.2.2.2.1,((⟨(v2.2.2.2.2.2.2.2.2.2.1.n+1),fun q=>if q<v2.2.2.2.2.2.2.2.2.2.1.n then v2.2.2.2.2.2.2.2.2.2.1.at' q else (fun q=>List.getD (α:=BA) [v4] q (Ba .str)) (q - v2.2.2.2.2.2.2.2.2.2.1.n)⟩:Sq BA),(v2.2.2.2.2.2.2.2.2.2.2.1,()))))))))))
   else
    none))
  else
  k (v2.2.1,(v2.2.2.1,(v2.2.2.2.1,(v2.2.2.2.2.1,(v2.2.2.2.2.2.1,(v2.2.2.2.2.2.2.1,(v2.2.2.2.2.2.2.2.1,(v2.2.2.2.2.2.2.2.2.1,(v2.2.2.2.2.2.2.2.2.2.1,(v2.2.2.2.2.2.2.2.2.2.2.1,()))))))))))
 else
 (ua n (500:Int) b0 b01 b02 b03 b04 b05 b06 b07 r1 r2).bind fun v5=>
 k (v5.1,(v5.2.1,(v5.2.2.1,(v5.2.2.2.1,(v5.2.2.2.2.1,(v5.2.2.2.2.2.1,(v5.2.2.2.2.2.2.1,(v5.2.2.2.2.2.2.2.1,(v5.2.2.2.2.2.2.2.2.1,(v5.2.2.2.2.2.2.2.2.2.1,()))))))))))
def Za (n:Nat) (path:BA) (b0:Bool) (b01:(Sq Int)) (b02:BA) (b03:Bool) (b04 b05:BA) (b06:Bool) (b07:BA) (r1 r2:(Sq BA)):Option U0:=Bb n path b0 b01 b02 b03 b04 b05 b06 b07 r1 r2 some
theorem JF (n:Nat) {S:Type}:∀ path b0 b01 b02 b03 b04 b05 b06 b07 r1 r2 (φ:_→Option S),(Za n path b0 b01 b02 b03 b04 b05 b06 b07 r1 r2).bind φ=Bb n path b0 b01 b02 b03 b04 b05 b06 b07 r1 r2 φ:=by
 intros;unfold Za Bb;first | (simp only [fa,ba,iB,bB,oL,oX,nB,Option.bind_some]) | rfl
def Fm (n:Nat):Hint OutS:={ live:=fun c=>[],run:=fun c=>none,xm:=fun c q=>none,sch:=fun c=>(cond (Nat.beq c 4) (some [(0,0),(1,0),(2,0),(3,0),(5,1),(7,5),(4,7),(6,7),(8,2),(9,6),(10,6),(11,2)]) none),nb:=[(71,1,.frz (.int .i64)),(71,5,.prm 9),(71,8,.prm 9)] }
theorem nz (n:Nat):ta tys (da OutS (rM n)).keep (Fm n) n (aa Tryz.f61) 0:=ma (fun _=>rfl) _ _ (by kernel_rfl)
theorem WA (n:Nat):Enters Tryz.prog 61:=enters_of (c:=aa Tryz.f61) Tryz.func61 (by kernel_rfl) (by kernel_rfl)
def Qp:List RSp:=[.one (.ptr 0 0 0),.one (.dat .str)]
def Pp:List RS:=[.box 71 10 false [.dat .bool,.dat (.sl (.int .i64)),.dat .str,.dat .bool,.dat .str,.row 1,.dat .str,.dat .bool,.row 2,.dat .str],.row 9 1 .str true true,.row 9 1 .str true true]
def XA:List Sl:=[.ptr 0 0 0,.top]
def YA:List RSp:=[]
def vf:List RS:=[.box 71 10 false [.dat .bool,.dat (.sl (.int .i64)),.dat .str,.dat .bool,.dat .str,.row 1,.dat .str,.dat .bool,.row 2,.dat .str],.row 9 1 .str true true,.row 9 1 .str true true]
def rk (y:U0):OutS:=⟨false,dl (dc vf ((y.1,(y.2.1,(y.2.2.1,(y.2.2.2.1,(y.2.2.2.2.1,(y.2.2.2.2.2.1,(y.2.2.2.2.2.2.1,(y.2.2.2.2.2.2.2.1,())))))))),(y.2.2.2.2.2.2.2.2.1,(y.2.2.2.2.2.2.2.2.2.1,())))) XA (),aw (Xt (dc vf ((y.1,(y.2.1,(y.2.2.1,(y.2.2.2.1,(y.2.2.2.2.1,(y.2.2.2.2.2.1,(y.2.2.2.2.2.2.1,(y.2.2.2.2.2.2.2.1,())))))))),(y.2.2.2.2.2.2.2.2.1,(y.2.2.2.2.2.2.2.2.2.1,())))) YA ()),Qo (dc vf ((y.1,(y.2.1,(y.2.2.1,(y.2.2.2.1,(y.2.2.2.2.1,(y.2.2.2.2.2.1,(y.2.2.2.2.2.2.1,(y.2.2.2.2.2.2.2.1,())))))))),(y.2.2.2.2.2.2.2.2.1,(y.2.2.2.2.2.2.2.2.2.1,())))) vf ((y.1,(y.2.1,(y.2.2.1,(y.2.2.2.1,(y.2.2.2.2.1,(y.2.2.2.2.2.1,(y.2.2.2.2.2.2.1,(y.2.2.2.2.2.2.2.1,())))))))),(y.2.2.2.2.2.2.2.2.1,(y.2.2.2.2.2.2.2.2.2.1,())))⟩
theorem HD (n:Nat):EntryOk Tryz.prog gl ⟨61,gf,none,some (csT Qp Pp (fun σ ρ=>Za n σ.2.1.1 ρ.1.1 ρ.1.2.1 ρ.1.2.2.1 ρ.1.2.2.2.1 ρ.1.2.2.2.2.1 ρ.1.2.2.2.2.2.1 ρ.1.2.2.2.2.2.2.1 ρ.1.2.2.2.2.2.2.2.1 ρ.2.1 ρ.2.2.1) rk)⟩:=
 Sc (WA n) fun σ ρ y h=>db tys_ok (BK n) mixed (hint:=Fm n) (n:=n) Tryz.func61 (Pa (nz n)) (la (φ:=fun y=>some (rk y)) (by kernel_rfl) (JF n σ.2.1.1 ρ.1.1 ρ.1.2.1 ρ.1.2.2.1 ρ.1.2.2.2.1 ρ.1.2.2.2.2.1 ρ.1.2.2.2.2.2.1 ρ.1.2.2.2.2.2.2.1 ρ.1.2.2.2.2.2.2.2.1 ρ.2.1 ρ.2.2.1 _) h)
def mj (n:Nat):List Entry:=⟨61,gf,none,some (csT Qp Pp (fun σ ρ=>Za n σ.2.1.1 ρ.1.1 ρ.1.2.1 ρ.1.2.2.1 ρ.1.2.2.2.1 ρ.1.2.2.2.2.1 ρ.1.2.2.2.2.2.1 ρ.1.2.2.2.2.2.2.1 ρ.1.2.2.2.2.2.2.2.1 ρ.2.1 ρ.2.2.1) rk)⟩::rM n
theorem Bl (n:Nat):AllOk Tryz.prog gl (mj n):=.cons (HD n) (BK n)
def se (n:Nat) {R:Type} (b0:Bool) (b01:(Sq Int)) (b02:BA) (b03:Bool) (b04 b05:BA) (b06:Bool) (b07:BA) (r1 r2:(Sq BA)) (k:U0→Option R):Option R:=
 if (decide ((r1.n:Int)>(0:Int)))=true then
 (ua n (354:Int) b0 b01 b02 b03 b04 b05 (decide ((r1.n:Int)>(0:Int))) b07 r1 r2).bind fun v=>
 k (v.1,(v.2.1,(v.2.2.1,(v.2.2.2.1,(v.2.2.2.2.1,(v.2.2.2.2.2.1,(v.2.2.2.2.2.2.1,(v.2.2.2.2.2.2.2.1,(v.2.2.2.2.2.2.2.2.1,(v.2.2.2.2.2.2.2.2.2.1,()))))))))))
 else
 (ua n (503:Int) b0 b01 b02 b03 b04 b05 (decide ((r1.n:Int)>(0:Int))) b07 r1 r2).bind fun v1=>
 k (v1.1,(v1.2.1,(v1.2.2.1,(v1.2.2.2.1,(v1.2.2.2.2.1,(v1.2.2.2.2.2.1,(v1.2.2.2.2.2.2.1,(v1.2.2.2.2.2.2.2.1,(v1.2.2.2.2.2.2.2.2.1,(v1.2.2.2.2.2.2.2.2.2.1,()))))))))))
def zb (n:Nat) (b0:Bool) (b01:(Sq Int)) (b02:BA) (b03:Bool) (b04 b05:BA) (b06:Bool) (b07:BA) (r1 r2:(Sq BA)):Option U0:=se n b0 b01 b02 b03 b04 b05 b06 b07 r1 r2 some
theorem FF (n:Nat) {S:Type}:∀ b0 b01 b02 b03 b04 b05 b06 b07 r1 r2 (φ:_→Option S),(zb n b0 b01 b02 b03 b04 b05 b06 b07 r1 r2).bind φ=se n b0 b01 b02 b03 b04 b05 b06 b07 r1 r2 φ:=by
 intros;unfold zb se;first | (simp only [fa,ba,iB,bB,oL,oX,nB,Option.bind_some]) | rfl
def Bm (n:Nat):Hint OutS:={ live:=fun c=>[],run:=fun c=>none,xm:=fun c q=>none,nb:=[(71,1,.frz (.int .i64)),(71,5,.prm 9),(71,8,.prm 9)] }
theorem iz (n:Nat):ta tys (da OutS (mj n)).keep (Bm n) n (aa Tryz.f62) 0:=ma (fun _=>rfl) _ _ (by kernel_rfl)
theorem HA (n:Nat):Enters Tryz.prog 62:=enters_of (c:=aa Tryz.f62) Tryz.func62 (by kernel_rfl) (by kernel_rfl)
def Hp:List RSp:=[.one (.ptr 0 0 0)]
def Gp:List RS:=[.box 71 10 false [.dat .bool,.dat (.sl (.int .i64)),.dat .str,.dat .bool,.dat .str,.row 1,.dat .str,.dat .bool,.row 2,.dat .str],.row 9 1 .str true true,.row 9 1 .str true true]
def IA:List Sl:=[.ptr 0 0 0]
def JA:List RSp:=[]
def qf:List RS:=[.box 71 10 false [.dat .bool,.dat (.sl (.int .i64)),.dat .str,.dat .bool,.dat .str,.row 1,.dat .str,.dat .bool,.row 2,.dat .str],.row 9 1 .str true true,.row 9 1 .str true true]
def jk (y:U0):OutS:=⟨false,dl (dc qf ((y.1,(y.2.1,(y.2.2.1,(y.2.2.2.1,(y.2.2.2.2.1,(y.2.2.2.2.2.1,(y.2.2.2.2.2.2.1,(y.2.2.2.2.2.2.2.1,())))))))),(y.2.2.2.2.2.2.2.2.1,(y.2.2.2.2.2.2.2.2.2.1,())))) IA (),aw (Xt (dc qf ((y.1,(y.2.1,(y.2.2.1,(y.2.2.2.1,(y.2.2.2.2.1,(y.2.2.2.2.2.1,(y.2.2.2.2.2.2.1,(y.2.2.2.2.2.2.2.1,())))))))),(y.2.2.2.2.2.2.2.2.1,(y.2.2.2.2.2.2.2.2.2.1,())))) JA ()),Qo (dc qf ((y.1,(y.2.1,(y.2.2.1,(y.2.2.2.1,(y.2.2.2.2.1,(y.2.2.2.2.2.1,(y.2.2.2.2.2.2.1,(y.2.2.2.2.2.2.2.1,())))))))),(y.2.2.2.2.2.2.2.2.1,(y.2.2.2.2.2.2.2.2.2.1,())))) qf ((y.1,(y.2.1,(y.2.2.1,(y.2.2.2.1,(y.2.2.2.2.1,(y.2.2.2.2.2.1,(y.2.2.2.2.2.2.1,(y.2.2.2.2.2.2.2.1,())))))))),(y.2.2.2.2.2.2.2.2.1,(y.2.2.2.2.2.2.2.2.2.1,())))⟩
theorem DD (n:Nat):EntryOk Tryz.prog gl ⟨62,gf,none,some (csT Hp Gp (fun σ ρ=>zb n ρ.1.1 ρ.1.2.1 ρ.1.2.2.1 ρ.1.2.2.2.1 ρ.1.2.2.2.2.1 ρ.1.2.2.2.2.2.1 ρ.1.2.2.2.2.2.2.1 ρ.1.2.2.2.2.2.2.2.1 ρ.2.1 ρ.2.2.1) jk)⟩:=
 Sc (HA n) fun σ ρ y h=>db tys_ok (Bl n) mixed (hint:=Bm n) (n:=n) Tryz.func62 (Pa (iz n)) (la (φ:=fun y=>some (jk y)) (by kernel_rfl) (FF n ρ.1.1 ρ.1.2.1 ρ.1.2.2.1 ρ.1.2.2.2.1 ρ.1.2.2.2.2.1 ρ.1.2.2.2.2.2.1 ρ.1.2.2.2.2.2.2.1 ρ.1.2.2.2.2.2.2.2.1 ρ.2.1 ρ.2.2.1 _) h)
def dj (n:Nat):List Entry:=⟨62,gf,none,some (csT Hp Gp (fun σ ρ=>zb n ρ.1.1 ρ.1.2.1 ρ.1.2.2.1 ρ.1.2.2.2.1 ρ.1.2.2.2.2.1 ρ.1.2.2.2.2.2.1 ρ.1.2.2.2.2.2.2.1 ρ.1.2.2.2.2.2.2.2.1 ρ.2.1 ρ.2.2.1) jk)⟩::mj n
theorem wl (n:Nat):AllOk Tryz.prog gl (dj n):=.cons (DD n) (Bl n)
def Ma (n:Nat) {R:Type} (l:U2) (b0:Bool) (b01:(Sq Int)) (b02:BA) (b03:Bool) (b04 b05:BA) (b06:Bool) (b07:BA) (r1 r2:(Sq BA)) (k:U0→Option R):Option R:=
 if l.2.1=true then
 (ua n (500:Int) b0 b01 b02 b03 b04 b05 b06 b07 r1 r2).bind fun v=>
 k (v.1,(v.2.1,(v.2.2.1,(v.2.2.2.1,(v.2.2.2.2.1,(v.2.2.2.2.2.1,(v.2.2.2.2.2.2.1,(v.2.2.2.2.2.2.2.1,(v.2.2.2.2.2.2.2.2.1,(v.2.2.2.2.2.2.2.2.2.1,()))))))))))
 else
 if b06=true then
  (xr n l.1).bind fun v1=>
  if v1.2.1=true then
  (Wb n b0 b01 b02 b03 b04 b05 b06 b07 r1 r2).bind fun v2=>
  k (v2.1,(v2.2.1,(v2.2.2.1,(v2.2.2.2.1,(v2.2.2.2.2.1,(v2.2.2.2.2.2.1,(v2.2.2.2.2.2.2.1,(v2.2.2.2.2.2.2.2.1,(v2.2.2.2.2.2.2.2.2.1,(v2.2.2.2.2.2.2.2.2.2.1,()))))))))))
  else
  if Ca v1.1 (⟨#[13,10]⟩:BA)=true then
   if Ca b05 (v1.1++(⟨#[13,10]⟩:BA))=true then
   k (b0,(b01,(b02,(b03,(b04,((b05++(v1.1++(⟨#[13,10]⟩:BA))),(b06,(b07,(r1,(r2,()))))))))))
   else
   none
  else
   none
 else
  (Sa n l.1 (⟨#[69,72,76,79,32]⟩:BA)).bind fun v3=>
  if v3=true then
  (ua n (250:Int) b0 b01 b02 b03 b04 b05 b06 b07 r1 r2).bind fun v4=>
  k (v4.1,(v4.2.1,(v4.2.2.1,(v4.2.2.2.1,(v4.2.2.2.2.1,(v4.2.2.2.2.2.1,(v4.2.2.2.2.2.2.1,(v4.2.2.2.2.2.2.2.1,(v4.2.2.2.2.2.2.2.2.1,(v4.2.2.2.2.2.2.2.2.2.1,()))))))))))
  else
  (Sa n l.1 (⟨#[76,72,76,79,32]⟩:BA)).bind fun v5=>
  if v5=true then
   (ua n (250:Int) b0 b01 b02 b03 b04 b05 b06 b07 r1 r2).bind fun v6=>
   k (v6.1,(v6.2.1,(v6.2.2.1,(v6.2.2.2.1,(v6.2.2.2.2.1,(v6.2.2.2.2.2.1,(v6.2.2.2.2.2.2.1,(v6.2.2.2.2.2.2.2.1,(v6.2.2.2.2.2.2.2.2.1,(v6.2.2.2.2.2.2.2.2.2.1,()))))))))))
  else
   (Sa n l.1 (⟨#[77,65,73,76,32,70,82,79,77,58,60]⟩:BA)).bind fun v7=>
   if v7=true then
   if 0≤(11:Int)∧(11:Int)≤(l.1.size:Int) then
    (Tc n (l.1.extract (Int.toNat (11:Int)) (Int.toNat (l.1.size:Int))) (⟨#[62]⟩:BA)).bind fun v8=>
    if v8=true then
    if 0≤(IntKind.wrap .i64 ((l.1.size:Int) - (1:Int)))∧(IntKind.wrap .i64 ((l.1.size:Int) - (1:Int)))≤(l.1.size:Int) then
     if 0≤(11:Int)∧(11:Int)≤(IntKind.wrap .i64 ((l.1.size:Int) - (1:Int))) then
     (cd n (l.1.extract (Int.toNat (11:Int)) (Int.toNat (IntKind.wrap .i64 ((l.1.size:Int) - (1:Int))))) b0 b01 b02 b03 b04 b05 b06 b07 r1 r2).bind fun v9=>
     k (v9.1,(v9.2.1,(v9.2.2.1,(v9.2.2.2.1,(v9.2.2.2.2.1,(v9.2.2.2.2.2.1,(v9.2.2.2.2.2.2.1,(v9.2.2.2.2.2.2.2.1,(v9.2.2.2.2.2.2.2.2.1,(v9.2.2.2.2.2.2.2.2.2.1,()))))))))))
     else
     none
    else
     none
    else
    (Sa n l.1 (⟨#[82,67,80,84,32,84,79,58]⟩:BA)).bind fun v10=>
    if v10=true then
     if 0≤(8:Int)∧(8:Int)≤(l.1.size:Int) then
     (Za n (l.1.extract (Int.toNat (8:Int)) (Int.toNat (l.1.size:Int))) b0 b01 b02 b03 b04 b05 b06 b07 r1 r2).bind fun v11=>
     k (v11.1,(v11.2.1,(v11.2.2.1,(v11.2.2.2.1,(v11.2.2.2.2.1,(v11.2.2.2.2.2.1,(v11.2.2.2.2.2.2.1,(v11.2.2.2.2.2.2.2.1,(v11.2.2.2.2.2.2.2.2.1,(v11.2.2.2.2.2.2.2.2.2.1,()))))))))))
     else
     none
    else
     if (l.1.toList==(⟨#[68,65,84,65]⟩:BA).toList)=true then
     (zb n b0 b01 b02 b03 b04 b05 b06 b07 r1 r2).bind fun v12=>
     k (v12.1,(v12.2.1,(v12.2.2.1,(v12.2.2.2.1,(v12.2.2.2.2.1,(v12.2.2.2.2.2.1,(v12.2.2.2.2.2.2.1,(v12.2.2.2.2.2.2.2.1,(v12.2.2.2.2.2.2.2.2.1,(v12.2.2.2.2.2.2.2.2.2.1,()))))))))))
     else
     if (l.1.toList==(⟨#[81,85,73,84]⟩:BA).toList)=true then
      (ua n (221:Int) b0 b01 b02 b03 b04 b05 b06 b07 r1 r2).bind fun v13=>
      k (v13.1,(v13.2.1,(v13.2.2.1,(v13.2.2.2.1,(v13.2.2.2.2.1,(v13.2.2.2.2.2.1,(v13.2.2.2.2.2.2.1,(v13.2.2.2.2.2.2.2.1,(v13.2.2.2.2.2.2.2.2.1,(v13.2.2.2.2.2.2.2.2.2.1,()))))))))))
     else
      (ua n (500:Int) b0 b01 b02 b03 b04 b05 b06 b07 r1 r2).bind fun v14=>
      k (v14.1,(v14.2.1,(v14.2.2.1,(v14.2.2.2.1,(v14.2.2.2.2.1,(v14.2.2.2.2.2.1,(v14.2.2.2.2.2.2.1,(v14.2.2.2.2.2.2.2.1,(v14.2.2.2.2.2.2.2.2.1,(v14.2.2.2.2.2.2.2.2.2.1,()))))))))))
   else
    none
   else
   (Sa n l.1 (⟨#[82,67,80,84,32,84,79,58]⟩:BA)).bind fun v15=>
   if v15=true then
    if 0≤(8:Int)∧(8:Int)≤(l.1.size:Int) then
    (Za n (l.1.extract (Int.toNat (8:Int)) (Int.toNat (l.1.size:Int))) b0 b01 b02 b03 b04 b05 b06 b07 r1 r2).bind fun v16=>
    k (v16.1,(v16.2.1,(v16.2.2.1,(v16.2.2.2.1,(v16.2.2.2.2.1,(v16.2.2.2.2.2.1,(v16.2.2.2.2.2.2.1,(v16.2.2.2.2.2.2.2.1,(v16.2.2.2.2.2.2.2.2.1,(v16.2.2.2.2.2.2.2.2.2.1,()))))))))))
    else
    none
   else
    if (l.1.toList==(⟨#[68,65,84,65]⟩:BA).toList)=true then
    (zb n b0 b01 b02 b03 b04 b05 b06 b07 r1 r2).bind fun v17=>
    k (v17.1,(v17.2.1,(v17.2.2.1,(v17.2.2.2.1,(v17.2.2.2.2.1,(v17.2.2.2.2.2.1,(v17.2.2.2.2.2.2.1,(v17.2.2.2.2.2.2.2.1,(v17.2.2.2.2.2.2.2.2.1,(v17.2.2.2.2.2.2.2.2.2.1,()))))))))))
    else
    if (l.1.toList==(⟨#[81,85,73,84]⟩:BA).toList)=true then
     (ua n (221:Int) b0 b01 b02 b03 b04 b05 b06 b07 r1 r2).bind fun v18=>
     k (v18.1,(v18.2.1,(v18.2.2.1,(v18.2.2.2.1,(v18.2.2.2.2.1,(v18.2.2.2.2.2.1,(v18.2.2.2.2.2.2.1,(v18.2.2.2.2.2.2.2.1,(v18.2.2.2.2.2.2.2.2.1,(v18.2.2.2.2.2.2.2.2.2.1,()))))))))))
    else
     (ua n (500:Int) b0 b01 b02 b03 b04 b05 b06 b07 r1 r2).bind fun v19=>
     k (v19.1,(v19.2.1,(v19.2.2.1,(v19.2.2.2.1,(v19.2.2.2.2.1,(v19.2.2.2.2.2.1,(v19.2.2.2.2.2.2.1,(v19.2.2.2.2.2.2.2.1,(v19.2.2.2.2.2.2.2.2.1,(v19.2.2.2.2.2.2.2.2.2.1,()))))))))))
def Aa (n:Nat) (l:U2) (b0:Bool) (b01:(Sq Int)) (b02:BA) (b03:Bool) (b04 b05:BA) (b06:Bool) (b07:BA) (r1 r2:(Sq BA)):Option U0:=Ma n l b0 b01 b02 b03 b04 b05 b06 b07 r1 r2 some
theorem HF (n:Nat) {S:Type}:∀ l b0 b01 b02 b03 b04 b05 b06 b07 r1 r2 (φ:_→Option S),(Aa n l b0 b01 b02 b03 b04 b05 b06 b07 r1 r2).bind φ=Ma n l b0 b01 b02 b03 b04 b05 b06 b07 r1 r2 φ:=by
 intros;unfold Aa Ma;first | (simp only [fa,ba,iB,bB,oL,oX,nB,Option.bind_some]) | rfl
def Dm (n:Nat):Hint OutS:={ live:=fun c=>[],run:=fun c=>none,xm:=fun c q=>none,nb:=[(71,1,.frz (.int .i64)),(71,5,.prm 9),(71,8,.prm 9)] }
theorem lz (n:Nat):ta tys (da OutS (dj n)).keep (Dm n) n (aa Tryz.f35) 0:=ma (fun _=>rfl) _ _ (by kernel_rfl)
theorem PA (n:Nat):Enters Tryz.prog 35:=enters_of (c:=aa Tryz.f35) Tryz.func35 (by kernel_rfl) (by kernel_rfl)
def Lp:List RSp:=[.one (.ptr 0 0 0),.one (.dat (.pair .str (.pair .bool .unit)))]
def Kp:List RS:=[.box 71 10 false [.dat .bool,.dat (.sl (.int .i64)),.dat .str,.dat .bool,.dat .str,.row 1,.dat .str,.dat .bool,.row 2,.dat .str],.row 9 1 .str true true,.row 9 1 .str true true]
def QA:List Sl:=[.ptr 0 0 0,.top]
def RA:List RSp:=[]
def tf:List RS:=[.box 71 10 false [.dat .bool,.dat (.sl (.int .i64)),.dat .str,.dat .bool,.dat .str,.row 1,.dat .str,.dat .bool,.row 2,.dat .str],.row 9 1 .str true true,.row 9 1 .str true true]
def nk (y:U0):OutS:=⟨false,dl (dc tf ((y.1,(y.2.1,(y.2.2.1,(y.2.2.2.1,(y.2.2.2.2.1,(y.2.2.2.2.2.1,(y.2.2.2.2.2.2.1,(y.2.2.2.2.2.2.2.1,())))))))),(y.2.2.2.2.2.2.2.2.1,(y.2.2.2.2.2.2.2.2.2.1,())))) QA (),aw (Xt (dc tf ((y.1,(y.2.1,(y.2.2.1,(y.2.2.2.1,(y.2.2.2.2.1,(y.2.2.2.2.2.1,(y.2.2.2.2.2.2.1,(y.2.2.2.2.2.2.2.1,())))))))),(y.2.2.2.2.2.2.2.2.1,(y.2.2.2.2.2.2.2.2.2.1,())))) RA ()),Qo (dc tf ((y.1,(y.2.1,(y.2.2.1,(y.2.2.2.1,(y.2.2.2.2.1,(y.2.2.2.2.2.1,(y.2.2.2.2.2.2.1,(y.2.2.2.2.2.2.2.1,())))))))),(y.2.2.2.2.2.2.2.2.1,(y.2.2.2.2.2.2.2.2.2.1,())))) tf ((y.1,(y.2.1,(y.2.2.1,(y.2.2.2.1,(y.2.2.2.2.1,(y.2.2.2.2.2.1,(y.2.2.2.2.2.2.1,(y.2.2.2.2.2.2.2.1,())))))))),(y.2.2.2.2.2.2.2.2.1,(y.2.2.2.2.2.2.2.2.2.1,())))⟩
theorem FD (n:Nat):EntryOk Tryz.prog gl ⟨35,gf,none,some (csT Lp Kp (fun σ ρ=>Aa n σ.2.1.1 ρ.1.1 ρ.1.2.1 ρ.1.2.2.1 ρ.1.2.2.2.1 ρ.1.2.2.2.2.1 ρ.1.2.2.2.2.2.1 ρ.1.2.2.2.2.2.2.1 ρ.1.2.2.2.2.2.2.2.1 ρ.2.1 ρ.2.2.1) nk)⟩:=
 Sc (PA n) fun σ ρ y h=>db tys_ok (wl n) mixed (hint:=Dm n) (n:=n) Tryz.func35 (Pa (lz n)) (la (φ:=fun y=>some (nk y)) (by kernel_rfl) (HF n σ.2.1.1 ρ.1.1 ρ.1.2.1 ρ.1.2.2.1 ρ.1.2.2.2.1 ρ.1.2.2.2.2.1 ρ.1.2.2.2.2.2.1 ρ.1.2.2.2.2.2.2.1 ρ.1.2.2.2.2.2.2.2.1 ρ.2.1 ρ.2.2.1 _) h)
def Rd (n:Nat):List Entry:=⟨35,gf,none,some (csT Lp Kp (fun σ ρ=>Aa n σ.2.1.1 ρ.1.1 ρ.1.2.1 ρ.1.2.2.1 ρ.1.2.2.2.1 ρ.1.2.2.2.2.1 ρ.1.2.2.2.2.2.1 ρ.1.2.2.2.2.2.2.1 ρ.1.2.2.2.2.2.2.2.1 ρ.2.1 ρ.2.2.1) nk)⟩::dj n
theorem Al (n:Nat):AllOk Tryz.prog gl (Rd n):=.cons (FD n) (wl n)
def Qc (n:Nat) {R:Type} (t25:(Sq U2)) (t26 t27:Int) (p:Bool) (p1:(Sq Int)) (p2:BA) (p3:Bool) (p4 p5:BA) (p6:Bool) (p7:BA) (r11 r21:(Sq BA)) (kn:(Sq U2)→Int→Int→Bool→(Sq Int)→BA→Bool→BA→BA→Bool→BA→(Sq BA)→(Sq BA)→Option R) (ko:U12→Option R) (kr:Unit→Option R) (kp:Int→Option R):Option R:=
 if (decide (t27<t26))=true then
 if 0≤t27∧t27<(t25.n:Int) then
  (Aa n (((t25.at' (Int.toNat t27))).1,((((t25.at' (Int.toNat t27))).2).1,())) p p1 p2 p3 p4 p5 p6 p7 r11 r21).bind fun v1=>
  kn t25 t26 (IntKind.wrap .i64 (t27+(1:Int))) v1.1 v1.2.1 v1.2.2.1 v1.2.2.2.1 v1.2.2.2.2.1 v1.2.2.2.2.2.1 v1.2.2.2.2.2.2.1 v1.2.2.2.2.2.2.2.1 v1.2.2.2.2.2.2.2.2.1 v1.2.2.2.2.2.2.2.2.2.1
 else
  none
 else
 ko (p,p1,p2,p3,p4,p5,p6,p7,r11,r21)
def jb (n:Nat):Nat→(Sq U2)→Int→Int→Bool→(Sq Int)→BA→Bool→BA→BA→Bool→BA→(Sq BA)→(Sq BA)→Option (Lx U12 Unit)
 | 0,_,_,_,_,_,_,_,_,_,_,_,_,_=>none
 | m+1,t25,t26,t27,p,p1,p2,p3,p4,p5,p6,p7,r11,r21=>Qc n t25 t26 t27 p p1 p2 p3 p4 p5 p6 p7 r11 r21 (jb n m) (fun a=>some (.out a)) (fun a=>some (.ret a)) (fun p=>some (.pan p))
theorem Uy (n m:Nat) {S:Type}:∀ t25 t26 t27 p p1 p2 p3 p4 p5 p6 p7 r11 r21 (φ:_→Option S),(jb n (m+1) t25 t26 t27 p p1 p2 p3 p4 p5 p6 p7 r11 r21).bind φ=Qc n t25 t26 t27 p p1 p2 p3 p4 p5 p6 p7 r11 r21 (fun t25 t26 t27 p p1 p2 p3 p4 p5 p6 p7 r11 r21=>(jb n m t25 t26 t27 p p1 p2 p3 p4 p5 p6 p7 r11 r21).bind φ) (fun a=>φ (.out a)) (fun a=>φ (.ret a)) (fun p=>φ (.pan p)):=by
 intros;first | (simp only [jb,Qc,fa,ba,iB,bB,oL,oX,nB,Option.bind_some]) | rfl
def Bg:List Sl:=.ptr 0 0 0::tp 24 (.dat (.sl (.pair .str (.pair .bool .unit)))::.dat (.int .i64)::.dat (.int .i64)::tp 11 [])
def Ag:List RS:=[.box 71 10 false [.dat .bool,.dat (.sl (.int .i64)),.dat .str,.dat .bool,.dat .str,.row 1,.dat .str,.dat .bool,.row 2,.dat .str],.row 9 1 .str true true,.row 9 1 .str true true,.ghost [.ptr 0 0 0,.top]]
def Mr:List Sl:=.ptr 0 0 0::tp 38 []
def Lr:List RS:=[.box 71 10 false [.dat .bool,.dat (.sl (.int .i64)),.dat .str,.dat .bool,.dat .str,.row 1,.dat .str,.dat .bool,.row 2,.dat .str],.row 9 1 .str true true,.row 9 1 .str true true,.ghost [.ptr 0 0 0,.top]]
def Lb (K:XE→List AV→ia→Option OutS):Lx U12 Unit→Option OutS:=fun x=>onL x (fun a=>ak Mr Lr () ((a.1,(a.2.1,(a.2.2.1,(a.2.2.2.1,(a.2.2.2.2.1,(a.2.2.2.2.2.1,(a.2.2.2.2.2.2.1,(a.2.2.2.2.2.2.2.1,())))))))),(a.2.2.2.2.2.2.2.2.1,(a.2.2.2.2.2.2.2.2.2,((),())))) (K (.exit 0))) (fun _=>none) (fun _=>none)
def qe (n:Nat) {R:Type} (b0:Bool) (b01:(Sq Int)) (b02:BA) (b03:Bool) (b04 b05:BA) (b06:Bool) (b07:BA) (r1:(Sq Int)) (r2 r3:(Sq BA)) (k:U4→Option R):Option R:=
 (bo n (b02,(b03,())) r1).bind fun v=>
 (jb n n v.2.1 (v.2.1.n:Int) (0:Int) b0 b01 v.1.1 v.1.2.1 b04 b05 b06 (⟨#[]⟩:BA) r2 r3).bind fun x_1=>onL x_1
 (fun a_2=>
  k (a_2.2.2.2.2.2.2.2.1,(a_2.1,(a_2.2.1,(a_2.2.2.1,(a_2.2.2.2.1,(a_2.2.2.2.2.1,(a_2.2.2.2.2.2.1,(a_2.2.2.2.2.2.2.1,(a_2.2.2.2.2.2.2.2.1,(a_2.2.2.2.2.2.2.2.2.1,(a_2.2.2.2.2.2.2.2.2.2,()))))))))))))
 (fun _=>none)
 (fun _=>none)
def tc (n:Nat) (b0:Bool) (b01:(Sq Int)) (b02:BA) (b03:Bool) (b04 b05:BA) (b06:Bool) (b07:BA) (r1:(Sq Int)) (r2 r3:(Sq BA)):Option U4:=qe n b0 b01 b02 b03 b04 b05 b06 b07 r1 r2 r3 some
theorem BF (n:Nat) {S:Type}:∀ b0 b01 b02 b03 b04 b05 b06 b07 r1 r2 r3 (φ:_→Option S),(tc n b0 b01 b02 b03 b04 b05 b06 b07 r1 r2 r3).bind φ=qe n b0 b01 b02 b03 b04 b05 b06 b07 r1 r2 r3 φ:=by
 intros;unfold tc qe;first | (simp only [fa,ba,iB,bB,oL,oX,nB,Option.bind_some]) | rfl
def Ee (n:Nat):Hint OutS:={ live:=fun c=>(cond (Nat.beq c 0) [(0,none),(25,some (.sl (.pair .str (.pair .bool .unit)))),(26,none),(27,none)] []),run:=fun c=>(cond (Nat.beq c 0) (some (aq Bg Ag fun σ ρ K=>(jb n n σ.1 σ.2.1 σ.2.2.1 ρ.1.1 ρ.1.2.1 ρ.1.2.2.1 ρ.1.2.2.2.1 ρ.1.2.2.2.2.1 ρ.1.2.2.2.2.2.1 ρ.1.2.2.2.2.2.2.1 ρ.1.2.2.2.2.2.2.2.1 ρ.2.1 ρ.2.2.1).bind (Lb K))) none),xm:=fun c q=>(cond (Nat.beq c 0&&Nat.beq (q.getD 1000000) 0&&q.isSome) (some [(0,none)]) none),nb:=[(71,1,.frz (.int .i64)),(71,5,.prm 9),(71,8,.prm 9)],na:=true }
def De (n:Nat) (K:XE→List AV→ia→Option OutS) (m:Nat) (t25:(Sq U2)) (t26:Int) (t27:Int) (p:Bool) (p1:(Sq Int)) (p2:BA) (p3:Bool) (p4:BA) (p5:BA) (p6:Bool) (p7:BA) (r11:(Sq BA)) (r21:(Sq BA)):Option OutS:=Pe tys (da OutS (Rd n)).keep (Ee n) n (Da [1,1,1,0,1,0,0] (aa Tryz.f14)) 0 Bg Ag K m (t25,(t26,(t27,()))) ((p,(p1,(p2,(p3,(p4,(p5,(p6,(p7,())))))))),(r11,(r21,((),()))))
theorem wm (n:Nat) (K:XE→List AV→ia→Option OutS):∀ (m:Nat) t25 t26 t27 p p1 p2 p3 p4 p5 p6 p7 r11 r21,De n K m t25 t26 t27 p p1 p2 p3 p4 p5 p6 p7 r11 r21=(jb n m t25 t26 t27 p p1 p2 p3 p4 p5 p6 p7 r11 r21).bind (Lb K)
 | 0,_,_,_,_,_,_,_,_,_,_,_,_,_=>by kernel_rfl
 | m+1,t25,t26,t27,p,p1,p2,p3,p4,p5,p6,p7,r11,r21=>by
  have h1:De n K (m+1) t25 t26 t27 p p1 p2 p3 p4 p5 p6 p7 r11 r21=Qc n t25 t26 t27 p p1 p2 p3 p4 p5 p6 p7 r11 r21 (De n K m) (fun a=>Lb K (.out a)) (fun a=>Lb K (.ret a)) (fun p=>Lb K (.pan p)):=by kernel_rfl
  have h2:De n K m=fun t25 t26 t27 p p1 p2 p3 p4 p5 p6 p7 r11 r21=>(jb n m t25 t26 t27 p p1 p2 p3 p4 p5 p6 p7 r11 r21).bind (Lb K):=by
   repeat (refine funext fun _=>?_)
   exact wm n K m _ _ _ _ _ _ _ _ _ _ _ _ _
  rw [h1,h2];exact (Uy n m _ _ _ _ _ _ _ _ _ _ _ _ _ (Lb K)).symm
theorem Ex (n:Nat):ie tys (da OutS (Rd n)).keep (Ee n) n (Da [1,1,1,0,1,0,0] (aa Tryz.f14)) 0:=Oa (sp:=Bg) (rp:=Ag) (by kernel_rfl) fun K σ ρ=>wm n K n σ.1 σ.2.1 σ.2.2.1 ρ.1.1 ρ.1.2.1 ρ.1.2.2.1 ρ.1.2.2.2.1 ρ.1.2.2.2.2.1 ρ.1.2.2.2.2.2.1 ρ.1.2.2.2.2.2.2.1 ρ.1.2.2.2.2.2.2.2.1 ρ.2.1 ρ.2.2.1
theorem Vy (n:Nat):ta tys (da OutS (Rd n)).keep (Ee n) n (aa Tryz.f14) 0:=⟨trivial,⟨trivial,⟨trivial,⟨⟨trivial,⟨Ex n,⟨trivial,⟨⟨trivial,trivial⟩,⟨⟨trivial,trivial⟩,trivial⟩⟩⟩⟩⟩,⟨trivial,trivial⟩⟩⟩⟩⟩
theorem rA (n:Nat):Enters Tryz.prog 14:=enters_of (c:=aa Tryz.f14) Tryz.func14 (by kernel_rfl) (by kernel_rfl)
def zp:List RSp:=[.one (.ptr 0 0 0),.one (.row 1)]
def yp:List RS:=[.box 71 10 false [.dat .bool,.dat (.sl (.int .i64)),.dat .str,.dat .bool,.dat .str,.row 2,.dat .str,.dat .bool,.row 3,.dat .str],.row 5 1 (.int .u8) false true,.row 9 1 .str true true,.row 9 1 .str true true]
def sA:List Sl:=[.ptr 0 0 0,.top]
def tA:List RSp:=[.one (.dat .str)]
def kf:List RS:=[.box 71 10 false [.dat .bool,.dat (.sl (.int .i64)),.dat .str,.dat .bool,.dat .str,.row 1,.dat .str,.dat .bool,.row 2,.dat .str],.row 9 1 .str true true,.row 9 1 .str true true]
def ck (y:U4):OutS:=⟨false,dl (dc kf ((y.2.1,(y.2.2.1,(y.2.2.2.1,(y.2.2.2.2.1,(y.2.2.2.2.2.1,(y.2.2.2.2.2.2.1,(y.2.2.2.2.2.2.2.1,(y.2.2.2.2.2.2.2.2.1,())))))))),(y.2.2.2.2.2.2.2.2.2.1,(y.2.2.2.2.2.2.2.2.2.2.1,())))) sA (),aw (Xt (dc kf ((y.2.1,(y.2.2.1,(y.2.2.2.1,(y.2.2.2.2.1,(y.2.2.2.2.2.1,(y.2.2.2.2.2.2.1,(y.2.2.2.2.2.2.2.1,(y.2.2.2.2.2.2.2.2.1,())))))))),(y.2.2.2.2.2.2.2.2.2.1,(y.2.2.2.2.2.2.2.2.2.2.1,())))) tA ((y.1,()),())),Qo (dc kf ((y.2.1,(y.2.2.1,(y.2.2.2.1,(y.2.2.2.2.1,(y.2.2.2.2.2.1,(y.2.2.2.2.2.2.1,(y.2.2.2.2.2.2.2.1,(y.2.2.2.2.2.2.2.2.1,())))))))),(y.2.2.2.2.2.2.2.2.2.1,(y.2.2.2.2.2.2.2.2.2.2.1,())))) kf ((y.2.1,(y.2.2.1,(y.2.2.2.1,(y.2.2.2.2.1,(y.2.2.2.2.2.1,(y.2.2.2.2.2.2.1,(y.2.2.2.2.2.2.2.1,(y.2.2.2.2.2.2.2.2.1,())))))))),(y.2.2.2.2.2.2.2.2.2.1,(y.2.2.2.2.2.2.2.2.2.2.1,())))⟩
theorem xD (n:Nat):EntryOk Tryz.prog gl ⟨14,gf,none,some (csT zp yp (fun σ ρ=>tc n ρ.1.1 ρ.1.2.1 ρ.1.2.2.1 ρ.1.2.2.2.1 ρ.1.2.2.2.2.1 ρ.1.2.2.2.2.2.1 ρ.1.2.2.2.2.2.2.1 ρ.1.2.2.2.2.2.2.2.1 ρ.2.1 ρ.2.2.1 ρ.2.2.2.1) ck)⟩:=
 Sc (rA n) fun σ ρ y h=>db tys_ok (Al n) mixed (hint:=Ee n) (n:=n) Tryz.func14 (Pa (Vy n)) (la (φ:=fun y=>some (ck y)) (by kernel_rfl) (BF n ρ.1.1 ρ.1.2.1 ρ.1.2.2.1 ρ.1.2.2.2.1 ρ.1.2.2.2.2.1 ρ.1.2.2.2.2.2.1 ρ.1.2.2.2.2.2.2.1 ρ.1.2.2.2.2.2.2.2.1 ρ.2.1 ρ.2.2.1 ρ.2.2.2.1 _) h)
def xp (n:Nat):List Entry:=⟨14,gf,none,some (csT zp yp (fun σ ρ=>tc n ρ.1.1 ρ.1.2.1 ρ.1.2.2.1 ρ.1.2.2.2.1 ρ.1.2.2.2.2.1 ρ.1.2.2.2.2.2.1 ρ.1.2.2.2.2.2.2.1 ρ.1.2.2.2.2.2.2.2.1 ρ.2.1 ρ.2.2.1 ρ.2.2.2.1) ck)⟩::Rd n
theorem Fx (n:Nat):AllOk Tryz.prog gl (xp n):=.cons (xD n) (Al n)
def Od (n:Nat):List Entry:=qh::xp n
theorem Uf (n:Nat):AllOk Tryz.prog gl (Od n):=.cons lp (Fx n)
def Bh (n:Nat) {R:Type} (b0:Bool) (b01:(Sq Int)) (b02:BA) (b03:Bool) (b04 b05:BA) (b06:Bool) (b07:BA) (r1 r2:(Sq BA)) (k:U14→Option R):Option R:=
 (zy 16 r2).bind fun v=>
 k (b0,(b01,(b02,(b03,(b04,(b05,(b06,(b07,(v.1,(r1,(r2,())))))))))))
def ab (n:Nat) (b0:Bool) (b01:(Sq Int)) (b02:BA) (b03:Bool) (b04 b05:BA) (b06:Bool) (b07:BA) (r1 r2:(Sq BA)):Option U14:=Bh n b0 b01 b02 b03 b04 b05 b06 b07 r1 r2 some
theorem yH (n:Nat) {S:Type}:∀ b0 b01 b02 b03 b04 b05 b06 b07 r1 r2 (φ:_→Option S),(ab n b0 b01 b02 b03 b04 b05 b06 b07 r1 r2).bind φ=Bh n b0 b01 b02 b03 b04 b05 b06 b07 r1 r2 φ:=by
 intros;unfold ab Bh;first | (simp only [fa,ba,iB,bB,oL,oX,nB,Option.bind_some]) | rfl
def go (n:Nat):Hint OutS:={ live:=fun c=>[],run:=fun c=>none,xm:=fun c q=>none }
theorem mA (n:Nat):ta tys ((da OutS (Od n)).view [32,38,80]) (go n) n (aa Tryz.f17) 0:=ma (fun _=>rfl) _ _ (by kernel_rfl)
theorem uD (n:Nat):Enters Tryz.prog 17:=enters_of (c:=aa Tryz.f17) Tryz.func17 (by kernel_rfl) (by kernel_rfl)
def Kr:List RSp:=[.one (.ptr 0 0 0)]
def Jr:List RS:=[.box 71 10 false [.dat .bool,.dat (.sl (.int .i64)),.dat .str,.dat .bool,.dat .str,.row 1,.dat .str,.dat .bool,.row 2,.dat .str],.row 9 1 .str true true,.row 9 1 .str true true]
def vD:List Sl:=[.ptr 0 0 0]
def wD:List RSp:=[.one (.row 1)]
def Wf:List RS:=[.box 71 10 false [.dat .bool,.dat (.sl (.int .i64)),.dat .str,.dat .bool,.dat .str,.row 2,.dat .str,.dat .bool,.row 3,.dat .str],.row 9 1 .str true true,.row 9 1 .str true true,.row 9 1 .str true true]
def nl (y:U14):OutS:=⟨false,dl (dc Wf ((y.1,(y.2.1,(y.2.2.1,(y.2.2.2.1,(y.2.2.2.2.1,(y.2.2.2.2.2.1,(y.2.2.2.2.2.2.1,(y.2.2.2.2.2.2.2.1,())))))))),(y.2.2.2.2.2.2.2.2.1,(y.2.2.2.2.2.2.2.2.2.1,(y.2.2.2.2.2.2.2.2.2.2.1,()))))) vD (),aw (Xt (dc Wf ((y.1,(y.2.1,(y.2.2.1,(y.2.2.2.1,(y.2.2.2.2.1,(y.2.2.2.2.2.1,(y.2.2.2.2.2.2.1,(y.2.2.2.2.2.2.2.1,())))))))),(y.2.2.2.2.2.2.2.2.1,(y.2.2.2.2.2.2.2.2.2.1,(y.2.2.2.2.2.2.2.2.2.2.1,()))))) wD ((),())),Qo (dc Wf ((y.1,(y.2.1,(y.2.2.1,(y.2.2.2.1,(y.2.2.2.2.1,(y.2.2.2.2.2.1,(y.2.2.2.2.2.2.1,(y.2.2.2.2.2.2.2.1,())))))))),(y.2.2.2.2.2.2.2.2.1,(y.2.2.2.2.2.2.2.2.2.1,(y.2.2.2.2.2.2.2.2.2.2.1,()))))) Wf ((y.1,(y.2.1,(y.2.2.1,(y.2.2.2.1,(y.2.2.2.2.1,(y.2.2.2.2.2.1,(y.2.2.2.2.2.2.1,(y.2.2.2.2.2.2.2.1,())))))))),(y.2.2.2.2.2.2.2.2.1,(y.2.2.2.2.2.2.2.2.2.1,(y.2.2.2.2.2.2.2.2.2.2.1,()))))⟩
theorem AF (n:Nat):EntryOk Tryz.prog gl ⟨17,gf,none,some (csT Kr Jr (fun σ ρ=>ab n ρ.1.1 ρ.1.2.1 ρ.1.2.2.1 ρ.1.2.2.2.1 ρ.1.2.2.2.2.1 ρ.1.2.2.2.2.2.1 ρ.1.2.2.2.2.2.2.1 ρ.1.2.2.2.2.2.2.2.1 ρ.2.1 ρ.2.2.1) nl)⟩:=
 Sc (uD n) fun σ ρ y h=>JM tys_ok (Uf n) mixed (hint:=go n) (n:=n) Tryz.func17 (Pa (mA n)) (la (φ:=fun y=>some (nl y)) (by kernel_rfl) (yH n ρ.1.1 ρ.1.2.1 ρ.1.2.2.1 ρ.1.2.2.2.1 ρ.1.2.2.2.2.1 ρ.1.2.2.2.2.2.1 ρ.1.2.2.2.2.2.2.1 ρ.1.2.2.2.2.2.2.2.1 ρ.2.1 ρ.2.2.1 _) h)
def oe (n:Nat):List Entry:=⟨17,gf,none,some (csT Kr Jr (fun σ ρ=>ab n ρ.1.1 ρ.1.2.1 ρ.1.2.2.1 ρ.1.2.2.2.1 ρ.1.2.2.2.2.1 ρ.1.2.2.2.2.2.1 ρ.1.2.2.2.2.2.2.1 ρ.1.2.2.2.2.2.2.2.1 ρ.2.1 ρ.2.2.1) nl)⟩::Od n
theorem tm (n:Nat):AllOk Tryz.prog gl (oe n):=.cons (AF n) (Uf n)
def mg (n:Nat) {R:Type} (a1 b1:(Sq BA)) (i:Int) (kn:(Sq BA)→(Sq BA)→Int→Option R) (ko:(Unit)→Option R) (kr:(Bool)→Option R) (kp:Int→Option R):Option R:=
 if (decide (i<(a1.n:Int)))=true then
 if 0≤i∧i<(a1.n:Int) then
  if 0≤i∧i<(b1.n:Int) then
  if (!((a1.at' (Int.toNat i)).toList==(b1.at' (Int.toNat i)).toList))=true then
   kr false
  else
   kn a1 b1 (IntKind.wrap .i64 (i+(1:Int)))
  else
  none
 else
  none
 else
 ko ()
def Qb (n:Nat):Nat→(Sq BA)→(Sq BA)→Int→Option (Lx (Unit) (Bool))
 | 0,_,_,_=>none
 | m+1,a1,b1,i=>mg n a1 b1 i (Qb n m) (fun a=>some (.out a)) (fun a=>some (.ret a)) (fun p=>some (.pan p))
theorem JJ (n m:Nat) {S:Type}:∀ a1 b1 i (φ:_→Option S),(Qb n (m+1) a1 b1 i).bind φ=mg n a1 b1 i (fun a1 b1 i=>(Qb n m a1 b1 i).bind φ) (fun a=>φ (.out a)) (fun a=>φ (.ret a)) (fun p=>φ (.pan p)):=by
 intros;first | (simp only [Qb,mg,fa,ba,iB,bB,oL,oX,nB,Option.bind_some]) | rfl
def cm:List Sl:=.dat (.sl .str)::.dat (.sl .str)::.top::.top::.top::.dat (.int .i64)::tp 20 []
def bm:List RS:=[]
def Cz:List Sl:=tp 26 []
def Bz:List RS:=[]
def Ez:List Sl:=tp 4 (.dat .bool::tp 21 [])
def Dz:List RS:=[]
def ld (K:XE→List AV→ia→Option Out):Lx (Unit) (Bool)→Option Out:=fun x=>onL x (fun a=>ak Cz Bz () () (K (.exit 0))) (fun a=>ak Ez Dz (a,()) () (K .ret)) (fun _=>none)
def Kn (n:Nat) {R:Type} (a b:(Sq BA)) (k:Bool→Option R):Option R:=
 if ((a.n:Int) !=(b.n:Int))=true then
 k false
 else
 (Qb n n a b (0:Int)).bind fun x_1=>onL x_1
  (fun a_2=>
  k true)
  (fun a_3=>
  k a_3)
  (fun _=>none)
def Ef (n:Nat) (a b:(Sq BA)):Option Bool:=Kn n a b some
theorem pP (n:Nat) {S:Type}:∀ a b (φ:_→Option S),(Ef n a b).bind φ=Kn n a b φ:=by
 intros;unfold Ef Kn;first | (simp only [fa,ba,iB,bB,oL,oX,nB,Option.bind_some]) | rfl
def zi (n:Nat):Hint Out:={ live:=fun c=>(cond (Nat.beq c 0) [(0,some (.sl .str)),(1,some (.sl .str)),(5,none)] []),run:=fun c=>(cond (Nat.beq c 0) (some (aq cm bm fun σ ρ K=>(Qb n n σ.1 σ.2.1 σ.2.2.1).bind (ld K))) none),xm:=fun c q=>(cond (Nat.beq c 0&&Nat.beq (q.getD 1000000) 0&&q.isSome) (some []) (cond (Nat.beq c 1&&q.isNone) (some [(4,none)]) none)) }
def yi (n:Nat) (K:XE→List AV→ia→Option Out) (m:Nat) (a1:(Sq BA)) (b1:(Sq BA)) (i:Int):Option Out:=Pe tys (da Out (oe n)) (zi n) n (Da [1,1,0,1,0,0] (aa Tryz.f18)) 0 cm bm K m (a1,(b1,(i,()))) ()
theorem Kw (n:Nat) (K:XE→List AV→ia→Option Out):∀ (m:Nat) a1 b1 i,yi n K m a1 b1 i=(Qb n m a1 b1 i).bind (ld K)
 | 0,_,_,_=>by kernel_rfl
 | m+1,a1,b1,i=>by
  have h1:yi n K (m+1) a1 b1 i=mg n a1 b1 i (yi n K m) (fun a=>ld K (.out a)) (fun a=>ld K (.ret a)) (fun p=>ld K (.pan p)):=by kernel_rfl
  have h2:yi n K m=fun a1 b1 i=>(Qb n m a1 b1 i).bind (ld K):=by
   repeat (refine funext fun _=>?_)
   exact Kw n K m _ _ _
  rw [h1,h2];exact (JJ n m _ _ _ (ld K)).symm
theorem KH (n:Nat):ie tys (da Out (oe n)) (zi n) n (Da [1,1,0,1,0,0] (aa Tryz.f18)) 0:=Oa (sp:=cm) (rp:=bm) (by kernel_rfl) fun K σ ρ=>Kw n K n σ.1 σ.2.1 σ.2.2.1
theorem KJ (n:Nat):ta tys (da Out (oe n)) (zi n) n (aa Tryz.f18) 0:=⟨trivial,⟨⟨trivial,⟨⟨trivial,trivial⟩,trivial⟩⟩,⟨⟨trivial,⟨KH n,⟨⟨trivial,⟨trivial,trivial⟩⟩,⟨⟨trivial,⟨⟨trivial,trivial⟩,trivial⟩⟩,trivial⟩⟩⟩⟩,⟨trivial,trivial⟩⟩⟩⟩
theorem EL (n:Nat):Enters Tryz.prog 18:=enters_of (c:=aa Tryz.f18) Tryz.func18 (by kernel_rfl) (by kernel_rfl)
def GB (n:Nat):Entry:=⟨18,pcT (.pair (.sl .str) (.pair (.sl .str) .unit)) (.one .bool) (fun xs=>Ef n xs.1 xs.2.1),none,none⟩
theorem zN (n:Nat):EntryOk Tryz.prog gl (GB n):=
 Qa (EL n) fun xs y h=>ra tys_ok (tm n) mixed (hint:=zi n) (n:=n) Tryz.func18 (Pa (KJ n)) (la (φ:=(fun y=>some (Out.ret (Vf (.one .bool) y)))) (by kernel_rfl) (pP n xs.1 xs.2.1 _) h)
def Ps (n:Nat):List Entry:=GB n::oe n
theorem ju (n:Nat):AllOk Tryz.prog gl (Ps n):=.cons (zN n) (tm n)
def wq (n:Nat) {R:Type} (lmtp:Bool) (refuse:(Sq Int)) (k:U0→Option R):Option R:=
 (zy 8 refuse).bind fun v=>
 k (lmtp,(v.1,((⟨#[]⟩:BA),(false,((⟨#[]⟩:BA),((⟨#[]⟩:BA),(false,((⟨#[]⟩:BA),((⟨0,fun _=>Ba .str⟩:Sq BA),((⟨0,fun _=>Ba .str⟩:Sq BA),()))))))))))
def Hd (n:Nat) (lmtp:Bool) (refuse:(Sq Int)):Option U0:=wq n lmtp refuse some
theorem wR (n:Nat) {S:Type}:∀ lmtp refuse (φ:_→Option S),(Hd n lmtp refuse).bind φ=wq n lmtp refuse φ:=by
 intros;unfold Hd wq;first | (simp only [fa,ba,iB,bB,oL,oX,nB,Option.bind_some]) | rfl
def Ey (n:Nat):Hint OutS:={ live:=fun c=>[],run:=fun c=>none,xm:=fun c q=>none,nb:=[(71,1,.frz (.int .i64)),(71,5,.prm 9),(71,8,.prm 9)],na:=true }
theorem zL (n:Nat):ta tys (da OutS (Ps n)).keep (Ey n) n (aa Tryz.f9) 0:=ma (fun _=>rfl) _ _ (by kernel_rfl)
theorem nN (n:Nat):Enters Tryz.prog 9:=enters_of (c:=aa Tryz.f9) Tryz.func9 (by kernel_rfl) (by kernel_rfl)
def IE:List RSp:=[.one (.dat .bool),.one (.dat (.sl (.int .i64)))]
def HE:List RS:=[]
def oN:List Sl:=[.top,.top]
def pN:List RSp:=[.one (.ptr 0 0 0)]
def ml:List RS:=[.box 71 10 false [.dat .bool,.dat (.sl (.int .i64)),.dat .str,.dat .bool,.dat .str,.row 1,.dat .str,.dat .bool,.row 2,.dat .str],.row 9 1 .str true true,.row 9 1 .str true true]
def zx (y:U0):OutS:=⟨false,dl (dc ml ((y.1,(y.2.1,(y.2.2.1,(y.2.2.2.1,(y.2.2.2.2.1,(y.2.2.2.2.2.1,(y.2.2.2.2.2.2.1,(y.2.2.2.2.2.2.2.1,())))))))),(y.2.2.2.2.2.2.2.2.1,(y.2.2.2.2.2.2.2.2.2.1,())))) oN (),aw (Xt (dc ml ((y.1,(y.2.1,(y.2.2.1,(y.2.2.2.1,(y.2.2.2.2.1,(y.2.2.2.2.2.1,(y.2.2.2.2.2.2.1,(y.2.2.2.2.2.2.2.1,())))))))),(y.2.2.2.2.2.2.2.2.1,(y.2.2.2.2.2.2.2.2.2.1,())))) pN ((),())),Qo (dc ml ((y.1,(y.2.1,(y.2.2.1,(y.2.2.2.1,(y.2.2.2.2.1,(y.2.2.2.2.2.1,(y.2.2.2.2.2.2.1,(y.2.2.2.2.2.2.2.1,())))))))),(y.2.2.2.2.2.2.2.2.1,(y.2.2.2.2.2.2.2.2.2.1,())))) ml ((y.1,(y.2.1,(y.2.2.1,(y.2.2.2.1,(y.2.2.2.2.1,(y.2.2.2.2.2.1,(y.2.2.2.2.2.2.1,(y.2.2.2.2.2.2.2.1,())))))))),(y.2.2.2.2.2.2.2.2.1,(y.2.2.2.2.2.2.2.2.2.1,())))⟩
theorem jP (n:Nat):EntryOk Tryz.prog gl ⟨9,gf,none,some (csT IE HE (fun σ ρ=>Hd n σ.1.1 σ.2.1.1) zx)⟩:=
 Sc (nN n) fun σ ρ y h=>db tys_ok (ju n) mixed (hint:=Ey n) (n:=n) Tryz.func9 (Pa (zL n)) (la (φ:=fun y=>some (zx y)) (by kernel_rfl) (wR n σ.1.1 σ.2.1.1 _) h)
def Zu (n:Nat):List Entry:=⟨9,gf,none,some (csT IE HE (fun σ ρ=>Hd n σ.1.1 σ.2.1.1) zx)⟩::Ps n
theorem uw (n:Nat):AllOk Tryz.prog gl (Zu n):=.cons (jP n) (ju n)
def Vh (n:Nat) {R:Type} (b0:Bool) (b01:(Sq Int)) (b02:BA) (b03:Bool) (b04 b05:BA) (b06:Bool) (b07:BA) (r1 r2:(Sq BA)) (k:U4→Option R):Option R:=
 (de n (220:Int)).bind fun v=>
 k (v,(b0,(b01,(b02,(b03,(b04,(b05,(b06,(b07,(r1,(r2,())))))))))))
def lc (n:Nat) (b0:Bool) (b01:(Sq Int)) (b02:BA) (b03:Bool) (b04 b05:BA) (b06:Bool) (b07:BA) (r1 r2:(Sq BA)):Option U4:=Vh n b0 b01 b02 b03 b04 b05 b06 b07 r1 r2 some
theorem nA (n:Nat) {S:Type}:∀ b0 b01 b02 b03 b04 b05 b06 b07 r1 r2 (φ:_→Option S),(lc n b0 b01 b02 b03 b04 b05 b06 b07 r1 r2).bind φ=Vh n b0 b01 b02 b03 b04 b05 b06 b07 r1 r2 φ:=by
 intros;unfold lc Vh;first | (simp only [fa,ba,iB,bB,oL,oX,nB,Option.bind_some]) | rfl
def Ok (n:Nat):Hint OutS:={ live:=fun c=>[],run:=fun c=>none,xm:=fun c q=>none,nb:=[(71,1,.frz (.int .i64)),(71,5,.prm 9),(71,8,.prm 9)] }
theorem ww (n:Nat):ta tys (da OutS (Zu n)).keep (Ok n) n (aa Tryz.f11) 0:=ma (fun _=>rfl) _ _ (by kernel_rfl)
theorem Ax (n:Nat):Enters Tryz.prog 11:=enters_of (c:=aa Tryz.f11) Tryz.func11 (by kernel_rfl) (by kernel_rfl)
def vm:List RSp:=[.one (.ptr 0 0 0)]
def um:List RS:=[.box 71 10 false [.dat .bool,.dat (.sl (.int .i64)),.dat .str,.dat .bool,.dat .str,.row 1,.dat .str,.dat .bool,.row 2,.dat .str],.row 9 1 .str true true,.row 9 1 .str true true]
def Bx:List Sl:=[.ptr 0 0 0]
def Cx:List RSp:=[.one (.dat .str)]
def Vd:List RS:=[.box 71 10 false [.dat .bool,.dat (.sl (.int .i64)),.dat .str,.dat .bool,.dat .str,.row 1,.dat .str,.dat .bool,.row 2,.dat .str],.row 9 1 .str true true,.row 9 1 .str true true]
def Wh (y:U4):OutS:=⟨false,dl (dc Vd ((y.2.1,(y.2.2.1,(y.2.2.2.1,(y.2.2.2.2.1,(y.2.2.2.2.2.1,(y.2.2.2.2.2.2.1,(y.2.2.2.2.2.2.2.1,(y.2.2.2.2.2.2.2.2.1,())))))))),(y.2.2.2.2.2.2.2.2.2.1,(y.2.2.2.2.2.2.2.2.2.2.1,())))) Bx (),aw (Xt (dc Vd ((y.2.1,(y.2.2.1,(y.2.2.2.1,(y.2.2.2.2.1,(y.2.2.2.2.2.1,(y.2.2.2.2.2.2.1,(y.2.2.2.2.2.2.2.1,(y.2.2.2.2.2.2.2.2.1,())))))))),(y.2.2.2.2.2.2.2.2.2.1,(y.2.2.2.2.2.2.2.2.2.2.1,())))) Cx ((y.1,()),())),Qo (dc Vd ((y.2.1,(y.2.2.1,(y.2.2.2.1,(y.2.2.2.2.1,(y.2.2.2.2.2.1,(y.2.2.2.2.2.2.1,(y.2.2.2.2.2.2.2.1,(y.2.2.2.2.2.2.2.2.1,())))))))),(y.2.2.2.2.2.2.2.2.2.1,(y.2.2.2.2.2.2.2.2.2.2.1,())))) Vd ((y.2.1,(y.2.2.1,(y.2.2.2.1,(y.2.2.2.2.1,(y.2.2.2.2.2.1,(y.2.2.2.2.2.2.1,(y.2.2.2.2.2.2.2.1,(y.2.2.2.2.2.2.2.2.1,())))))))),(y.2.2.2.2.2.2.2.2.2.1,(y.2.2.2.2.2.2.2.2.2.2.1,())))⟩
theorem Sy (n:Nat):EntryOk Tryz.prog gl ⟨11,gf,none,some (csT vm um (fun σ ρ=>lc n ρ.1.1 ρ.1.2.1 ρ.1.2.2.1 ρ.1.2.2.2.1 ρ.1.2.2.2.2.1 ρ.1.2.2.2.2.2.1 ρ.1.2.2.2.2.2.2.1 ρ.1.2.2.2.2.2.2.2.1 ρ.2.1 ρ.2.2.1) Wh)⟩:=
 Sc (Ax n) fun σ ρ y h=>db tys_ok (uw n) mixed (hint:=Ok n) (n:=n) Tryz.func11 (Pa (ww n)) (la (φ:=fun y=>some (Wh y)) (by kernel_rfl) (nA n ρ.1.1 ρ.1.2.1 ρ.1.2.2.1 ρ.1.2.2.2.1 ρ.1.2.2.2.2.1 ρ.1.2.2.2.2.2.1 ρ.1.2.2.2.2.2.2.1 ρ.1.2.2.2.2.2.2.2.1 ρ.2.1 ρ.2.2.1 _) h)
def vh (n:Nat):List Entry:=⟨11,gf,none,some (csT vm um (fun σ ρ=>lc n ρ.1.1 ρ.1.2.1 ρ.1.2.2.1 ρ.1.2.2.2.1 ρ.1.2.2.2.2.1 ρ.1.2.2.2.2.2.1 ρ.1.2.2.2.2.2.2.1 ρ.1.2.2.2.2.2.2.2.1 ρ.2.1 ρ.2.2.1) Wh)⟩::Zu n
theorem Aj (n:Nat):AllOk Tryz.prog gl (vh n):=.cons (Sy n) (uw n)
def zf (n:Nat) {R:Type} (k:Bool→Option R):Option R:=
 (Hd n false (⟨0,fun _=>Ba (.int .i64)⟩:Sq Int)).bind fun v=>
 (lc n v.1 v.2.1 v.2.2.1 v.2.2.2.1 v.2.2.2.2.1 v.2.2.2.2.2.1 v.2.2.2.2.2.2.1 v.2.2.2.2.2.2.2.1 v.2.2.2.2.2.2.2.2.1 v.2.2.2.2.2.2.2.2.2.1).bind fun v1=>
 if (v1.1.toList==(⟨#[50,50,48,32,104,101,114,101,13,10]⟩:BA).toList)=true then
 (tc n v1.2.1 v1.2.2.1 v1.2.2.2.1 v1.2.2.2.2.1 v1.2.2.2.2.2.1 v1.2.2.2.2.2.2.1 v1.2.2.2.2.2.2.2.1 v1.2.2.2.2.2.2.2.2.1 (⟨6,fun q=>List.getD (α:=Int) [(81:Int),(85:Int),(73:Int),(84:Int),(13:Int),(10:Int)] q (Ba (.int .u8))⟩:Sq Int) v1.2.2.2.2.2.2.2.2.2.1 v1.2.2.2.2.2.2.2.2.2.2.1).bind fun v2=>
 k (v2.1.toList==(⟨#[50,50,49,32,98,121,101,13,10]⟩:BA).toList)
 else
 k false
def Gb (n:Nat):Option Bool:=zf n some
theorem DH (n:Nat) {S:Type}:∀ (φ:_→Option S),(Gb n).bind φ=zf n φ:=by
 intros;unfold Gb zf;first | (simp only [fa,ba,iB,bB,oL,oX,nB,Option.bind_some]) | rfl
def Ko (n:Nat):Hint Out:={ live:=fun c=>[],run:=fun c=>none,xm:=fun c q=>none }
theorem sB (n:Nat):ta tys (da Out (vh n)) (Ko n) n (aa Tryz.f21) 0:=ma (fun _=>rfl) _ _ (by kernel_rfl)
theorem RD (n:Nat):Enters Tryz.prog 21:=enters_of (c:=aa Tryz.f21) Tryz.func21 (by kernel_rfl) (by kernel_rfl)
def Yr (n:Nat):Entry:=⟨21,pcT .unit (.one .bool) (fun xs=>Gb n),none,none⟩
theorem NF (n:Nat):EntryOk Tryz.prog gl (Yr n):=
 Qa (RD n) fun xs y h=>ra tys_ok (Aj n) mixed (hint:=Ko n) (n:=n) Tryz.func21 (Pa (sB n)) (la (φ:=(fun y=>some (Out.ret (Vf (.one .bool) y)))) (by kernel_rfl) (DH n  _) h)
def ue (n:Nat):List Entry:=Yr n::vh n
theorem Jm (n:Nat):AllOk Tryz.prog gl (ue n):=.cons (NF n) (Aj n)
def Xd (n:Nat) {R:Type} (lines:Int) (text want:BA) (i:Int) (p1:Bool) (p2:(Sq Int)) (p3:U8) (kn:Int→BA→BA→Int→Bool→(Sq Int)→U8→Option R) (ko:(BA×BA×Bool×(Sq Int)×U8)→Option R) (kr:Unit→Option R) (kp:Int→Option R):Option R:=
 if (decide (i<lines))=true then
 if Ca text (⟨#[46,46,120,13,10]⟩:BA)=true then
  if Ca want (⟨#[46,120,13,10]⟩:BA)=true then
  kn lines (text++(⟨#[46,46,120,13,10]⟩:BA)) (want++(⟨#[46,120,13,10]⟩:BA)) (IntKind.wrap .i64 (i+(1:Int))) p1 p2 p3
  else
  none
 else
  none
 else
 ko (text,want,p1,p2,p3)
def ob (n:Nat):Nat→Int→BA→BA→Int→Bool→(Sq Int)→U8→Option (Lx (BA×BA×Bool×(Sq Int)×U8) Unit)
 | 0,_,_,_,_,_,_,_=>none
 | m+1,lines,text,want,i,p1,p2,p3=>Xd n lines text want i p1 p2 p3 (ob n m) (fun a=>some (.out a)) (fun a=>some (.ret a)) (fun p=>some (.pan p))
theorem pv (n m:Nat) {S:Type}:∀ lines text want i p1 p2 p3 (φ:_→Option S),(ob n (m+1) lines text want i p1 p2 p3).bind φ=Xd n lines text want i p1 p2 p3 (fun lines text want i p1 p2 p3=>(ob n m lines text want i p1 p2 p3).bind φ) (fun a=>φ (.out a)) (fun a=>φ (.ret a)) (fun p=>φ (.pan p)):=by
 intros;first | (simp only [ob,Xd,fa,ba,iB,bB,oL,oX,nB,Option.bind_some]) | rfl
def af:List Sl:=.top::.ptr 0 0 0::.top::.dat (.int .i64)::.dat .str::.dat .str::.dat (.int .i64)::tp 53 []
def Ze:List RS:=[.box 25 3 true [.dat .bool,.dat (.sl (.int .i64)),.dat (.sl (.sl (.int .u8)))]]
def Jo:List Sl:=.top::.ptr 0 0 0::.top::.top::.dat .str::.dat .str::tp 54 []
def Io:List RS:=[.box 25 3 true [.dat .bool,.dat (.sl (.int .i64)),.dat (.sl (.sl (.int .u8)))]]
def yb (K:XE→List AV→ia→Option Out):Lx (BA×BA×Bool×(Sq Int)×U8) Unit→Option Out:=fun x=>onL x (fun a=>ak Jo Io (a.1,(a.2.1,())) ((a.2.2.1,(a.2.2.2.1,(a.2.2.2.2,()))),()) (K (.exit 0))) (fun _=>none) (fun _=>none)
def xh (n:Nat) {R:Type} (p:U18) (k:Bool→Option R):Option R:=
 (iJ n (p.2.2.1.n:Int) (5:Int)).bind fun v=>
 (ob n n (IntKind.wrap .i64 ((1:Int)+v)) (⟨#[]⟩:BA) (⟨#[]⟩:BA) (0:Int) p.1 p.2.1 p.2.2.1).bind fun x_1=>onL x_1
 (fun a_2=>
  (Ir n a_2.2.2.1 (⟨5,fun q=>List.getD (α:=Int) [(250:Int),(550:Int),(250:Int),(250:Int),(451:Int)] q (Ba (.int .i64))⟩:Sq Int)).bind fun v1=>
  if Ca (⟨#[69,72,76,79,32,104,13,10,77,65,73,76,32,70,82,79,77,58,60,97,64,98,62,13,10,82,67,80,84,32,84,79,58,60,99,64,100,62,13,10,82,67,80,84,32,84,79,58,60,101,64,100,62,13,10,82,67,80,84,32,84,79,58,60,102,64,100,62,13,10,68,65,84,65,13,10]⟩:BA) a_2.1=true then
  if Ca ((⟨#[69,72,76,79,32,104,13,10,77,65,73,76,32,70,82,79,77,58,60,97,64,98,62,13,10,82,67,80,84,32,84,79,58,60,99,64,100,62,13,10,82,67,80,84,32,84,79,58,60,101,64,100,62,13,10,82,67,80,84,32,84,79,58,60,102,64,100,62,13,10,68,65,84,65,13,10]⟩:BA)++a_2.1) (⟨#[46,13,10,81,85,73,84,13,10]⟩:BA)=true then
   (tc n v1.1 v1.2.1 v1.2.2.1 v1.2.2.2.1 v1.2.2.2.2.1 v1.2.2.2.2.2.1 v1.2.2.2.2.2.2.1 v1.2.2.2.2.2.2.2.1 (⟨(((⟨#[69,72,76,79,32,104,13,10,77,65,73,76,32,70,82,79,77,58,60,97,64,98,62,13,10,82,67,80,84,32,84,79,58,60,99,64,100,62,13,10,82,67,80,84,32,84,79,58,60,101,64,100,62,13,10,82,67,80,84,32,84,79,58,60,102,64,100,62,13,10,68,65,84,65,13,10]⟩:BA)++a_2.1)++(⟨#[46,13,10,81,85,73,84,13,10]⟩:BA)).size,fun q=>bt (((⟨#[69,72,76,79,32,104,13,10,77,65,73,76,32,70,82,79,77,58,60,97,64,98,62,13,10,82,67,80,84,32,84,79,58,60,99,64,100,62,13,10,82,67,80,84,32,84,79,58,60,101,64,100,62,13,10,82,67,80,84,32,84,79,58,60,102,64,100,62,13,10,68,65,84,65,13,10]⟩:BA)++a_2.1)++(⟨#[46,13,10,81,85,73,84,13,10]⟩:BA)) q⟩:Sq Int) v1.2.2.2.2.2.2.2.2.1 v1.2.2.2.2.2.2.2.2.2.1).bind fun v2=>
   if a_2.2.2.1=true then
   if (v2.1.toList==(⟨#[50,53,48,32,111,107,13,10,50,53,48,32,111,107,13,10,53,53,48,32,110,111,13,10,50,53,48,32,111,107,13,10,50,53,48,32,111,107,13,10,51,53,52,32,103,111,32,111,110,13,10,52,53,49,32,110,111,13,10,50,53,48,32,111,107,13,10,50,50,49,32,98,121,101,13,10]⟩:BA).toList)=true then
    (ab n v2.2.1 v2.2.2.1 v2.2.2.2.1 v2.2.2.2.2.1 v2.2.2.2.2.2.1 v2.2.2.2.2.2.2.1 v2.2.2.2.2.2.2.2.1 v2.2.2.2.2.2.2.2.2.1 v2.2.2.2.2.2.2.2.2.2.1 v2.2.2.2.2.2.2.2.2.2.2.1).bind fun v3=>
    (Ef n v3.2.2.2.2.2.2.2.2.1 (⟨3,fun q=>List.getD (α:=BA) [(⟨#[97,64,98]⟩:BA),(⟨#[102,64,100]⟩:BA),a_2.2.1] q (Ba .str)⟩:Sq BA)).bind fun v4=>
    if v4=true then
    (Gb n).bind fun v5=>
    k v5
    else
    k false
   else
    k false
   else
   if (v2.1.toList==(⟨#[50,53,48,32,111,107,13,10,50,53,48,32,111,107,13,10,53,53,48,32,110,111,13,10,50,53,48,32,111,107,13,10,50,53,48,32,111,107,13,10,51,53,52,32,103,111,32,111,110,13,10,52,53,49,32,110,111,13,10,50,50,49,32,98,121,101,13,10]⟩:BA).toList)=true then
    (ab n v2.2.1 v2.2.2.1 v2.2.2.2.1 v2.2.2.2.2.1 v2.2.2.2.2.2.1 v2.2.2.2.2.2.2.1 v2.2.2.2.2.2.2.2.1 v2.2.2.2.2.2.2.2.2.1 v2.2.2.2.2.2.2.2.2.2.1 v2.2.2.2.2.2.2.2.2.2.2.1).bind fun v6=>
    if ((v6.2.2.2.2.2.2.2.2.1.n:Int)==(0:Int))=true then
    (Gb n).bind fun v7=>
    k v7
    else
    k false
   else
    k false
  else
   none
  else
  none)
 (fun _=>none)
 (fun _=>none)
def rj (n:Nat) (p:U18):Option Bool:=xh n p some
theorem rz (n:Nat) {S:Type}:∀ p (φ:_→Option S),(rj n p).bind φ=xh n p φ:=by
 intros;unfold rj xh;first | (simp only [fa,ba,iB,bB,oL,oX,nB,Option.bind_some]) | rfl
def zd (n:Nat):Hint Out:={ live:=fun c=>(cond (Nat.beq c 0) (lv [1,3,4,5,6]) []),run:=fun c=>(cond (Nat.beq c 0) (some (aq af Ze fun σ ρ K=>(ob n n σ.1 σ.2.1 σ.2.2.1 σ.2.2.2.1 ρ.1.1 ρ.1.2.1 ρ.1.2.2.1).bind (yb K))) none),xm:=fun c q=>(cond (Nat.beq c 0&&Nat.beq (q.getD 1000000) 0&&q.isSome) (some (lv [1,4,5])) none) }
def xd (n:Nat) (K:XE→List AV→ia→Option Out) (m:Nat) (lines:Int) (text:BA) (want:BA) (i:Int) (p1:Bool) (p2:(Sq Int)) (p3:U8):Option Out:=Pe tys (da Out (ue n)) (zd n) n (Da [1,1,1,0,1,0,0] (aa Tryz.f4)) 0 af Ze K m (lines,(text,(want,(i,())))) ((p1,(p2,(p3,()))),())
theorem Gj (n:Nat) (K:XE→List AV→ia→Option Out):∀ (m:Nat) lines text want i p1 p2 p3,xd n K m lines text want i p1 p2 p3=(ob n m lines text want i p1 p2 p3).bind (yb K)
 | 0,_,_,_,_,_,_,_=>by kernel_rfl
 | m+1,lines,text,want,i,p1,p2,p3=>by
  have h1:xd n K (m+1) lines text want i p1 p2 p3=Xd n lines text want i p1 p2 p3 (xd n K m) (fun a=>yb K (.out a)) (fun a=>yb K (.ret a)) (fun p=>yb K (.pan p)):=by kernel_rfl
  have h2:xd n K m=fun lines text want i p1 p2 p3=>(ob n m lines text want i p1 p2 p3).bind (yb K):=by
   repeat (refine funext fun _=>?_)
   exact Gj n K m _ _ _ _ _ _ _
  rw [h1,h2];exact (pv n m _ _ _ _ _ _ _ (yb K)).symm
theorem Ht (n:Nat):ie tys (da Out (ue n)) (zd n) n (Da [1,1,1,0,1,0,0] (aa Tryz.f4)) 0:=Oa (sp:=af) (rp:=Ze) (by kernel_rfl) fun K σ ρ=>Gj n K n σ.1 σ.2.1 σ.2.2.1 σ.2.2.2.1 ρ.1.1 ρ.1.2.1 ρ.1.2.2.1
theorem qv (n:Nat):ta tys (da Out (ue n)) (zd n) n (aa Tryz.f4) 0:=⟨trivial,⟨trivial,⟨trivial,⟨⟨trivial,⟨Ht n,⟨⟨trivial,⟨trivial,trivial⟩⟩,⟨⟨trivial,trivial⟩,trivial⟩⟩⟩⟩,⟨trivial,⟨⟨trivial,⟨⟨trivial,trivial⟩,trivial⟩⟩,⟨trivial,⟨⟨trivial,⟨⟨trivial,trivial⟩,trivial⟩⟩,⟨trivial,trivial⟩⟩⟩⟩⟩⟩⟩⟩⟩
theorem Bw (n:Nat):Enters Tryz.prog 4:=enters_of (c:=aa Tryz.f4) Tryz.func4 (by kernel_rfl) (by kernel_rfl)
def Il (n:Nat):Entry:=⟨4,pcT K5 (.one .bool) (fun xs=>rj n xs.1),none,none⟩
theorem Tx (n:Nat):EntryOk Tryz.prog gl (Il n):=
 Qa (Bw n) fun xs y h=>ra tys_ok (Jm n) mixed (hint:=zd n) (n:=n) Tryz.func4 (Pa (qv n)) (la (φ:=(fun y=>some (Out.ret (Vf (.one .bool) y)))) (by kernel_rfl) (rz n xs.1 _) h)
def Dc (n:Nat):List Entry:=Il n::ue n
theorem Ji (n:Nat):AllOk Tryz.prog gl (Dc n):=.cons (Tx n) (Jm n)
end
end Go.Proofs.YtddefjokgaajfaaGreatDoor.AM
