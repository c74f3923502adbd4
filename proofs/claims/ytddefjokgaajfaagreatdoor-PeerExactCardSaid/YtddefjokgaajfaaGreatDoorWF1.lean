/- Typed functions that tell what the Go functions of this seat answer, and proofs of it, by program (gen.py). -/
import Derived.Test.YtddefjokgaajfaaGreatDoorWF0
set_option linter.all false
set_option linter.unusedVariables false
set_option linter.unusedSimpArgs false
set_option maxRecDepth 1000000
set_option maxHeartbeats 0
namespace Go.Proofs.YtddefjokgaajfaaGreatDoor.AM
open Go Go.RowKit
noncomputable section
def Zh (n:Nat) {R:Type} (l t10:(Sq BA)) (t11 t12:Int) (kn:(Sq BA)→(Sq BA)→Int→Int→Option R) (ko:((Sq BA))→Option R) (kr:(Bool)→Option R) (kp:Int→Option R):Option R:=
 if (decide (t12<t11))=true then
 if 0≤t12∧t12<(t10.n:Int) then
  (P0 (t10.at' (Int.toNat t12))).bind fun v1=>
  if v1.2=true then
  if (decide (v1.1<(0:Int)))=false then
   if (decide (v1.1>(255:Int)))=false then
   (VP v1.1).bind fun v2=>
   if (!(v2.toList==(t10.at' (Int.toNat t12)).toList))=true then
    kr false
   else
    kn l t10 t11 (IntKind.wrap .i64 (t12+(1:Int)))
   else
   kr false
  else
   kr false
  else
  kr false
 else
  none
 else
 ko l
def tc (n:Nat):Nat→(Sq BA)→(Sq BA)→Int→Int→Option (Lx ((Sq BA)) (Bool))
 | 0,_,_,_,_=>none
 | m+1,l,t10,t11,t12=>Zh n l t10 t11 t12 (tc n m) (fun a=>some (.out a)) (fun a=>some (.ret a)) (fun p=>some (.pan p))
theorem iL (n m:Nat) {S:Type}:∀ l t10 t11 t12 (φ:_→Option S),(tc n (m+1) l t10 t11 t12).bind φ=Zh n l t10 t11 t12 (fun l t10 t11 t12=>(tc n m l t10 t11 t12).bind φ) (fun a=>φ (.out a)) (fun a=>φ (.ret a)) (fun p=>φ (.pan p)):=by
 intros;first | (simp only [tc,Zh,fa,ba,iB,bB,oL,oX,nB,Option.bind_some]) | rfl
def Xn:List Sl:=.top::.top::.top::.dat (.sl .str)::tp 6 (.dat (.sl .str)::.dat (.int .i64)::.dat (.int .i64)::tp 28 [])
def Wn:List RS:=[]
def XB:List Sl:=.top::.top::.top::.dat (.sl .str)::tp 37 []
def WB:List RS:=[]
def ZB:List Sl:=.top::.top::.dat .bool::tp 38 []
def YB:List RS:=[]
def Yd (K:XE→List AV→ia→Option Out):Lx ((Sq BA)) (Bool)→Option Out:=fun x=>onL x (fun a=>Bk XB WB (a,()) () (K (.exit 0))) (fun a=>Bk ZB YB (a,()) () (K .ret)) (fun _=>none)
def Rs (n:Nat) {R:Type} (s:BA) (k:Bool→Option R):Option R:=
 (SB n s (⟨#[46]⟩:BA)).bind fun v=>
 (tc n n v v (v.n:Int) (0:Int)).bind fun x_1=>onL x_1
 (fun a_2=>
  k ((a_2.n:Int)==(4:Int)))
 (fun a_3=>
  k a_3)
 (fun _=>none)
def mm (n:Nat) (s:BA):Option Bool:=Rs n s some
theorem xR (n:Nat) {S:Type}:∀ s (φ:_→Option S),(mm n s).bind φ=Rs n s φ:=by
 intros;unfold mm Rs;first | (simp only [fa,ba,iB,bB,oL,oX,nB,Option.bind_some]) | rfl
def wk (n:Nat):Hint Out:={ live:=fun c=>(cond (Nat.beq c 0) [(3,some (.sl .str)),(10,some (.sl .str)),(11,none),(12,none)] []),run:=fun c=>(cond (Nat.beq c 0) (some (Ms Xn Wn fun σ ρ K=>(tc n n σ.1 σ.2.1 σ.2.2.1 σ.2.2.2.1).bind (Yd K))) none),xm:=fun c q=>(cond (Nat.beq c 0&&Nat.beq (q.getD 1000000) 0&&q.isSome) (some [(3,some (.sl .str))]) (cond (Nat.beq c 1&&q.isNone) (some [(2,none)]) none)) }
def uk (n:Nat) (K:XE→List AV→ia→Option Out) (m:Nat) (l:(Sq BA)) (t10:(Sq BA)) (t11:Int) (t12:Int):Option Out:=Ef tys (da Out (Wh n)) (wk n) n (Fa [1,1,0,1,0,0] (aa Tryz.f129)) 0 Xn Wn K m (l,(t10,(t11,(t12,())))) ()
theorem Ky (n:Nat) (K:XE→List AV→ia→Option Out):∀ (m:Nat) l t10 t11 t12,uk n K m l t10 t11 t12=(tc n m l t10 t11 t12).bind (Yd K)
 | 0,_,_,_,_=>by kernel_rfl
 | m+1,l,t10,t11,t12=>by
  have h1:uk n K (m+1) l t10 t11 t12=Zh n l t10 t11 t12 (uk n K m) (fun a=>Yd K (.out a)) (fun a=>Yd K (.ret a)) (fun p=>Yd K (.pan p)):=by kernel_rfl
  have h2:uk n K m=fun l t10 t11 t12=>(tc n m l t10 t11 t12).bind (Yd K):=by
   repeat (refine funext fun _=>?_)
   exact Ky n K m _ _ _ _
  rw [h1,h2];exact (iL n m _ _ _ _ (Yd K)).symm
theorem cK (n:Nat):Pe tys (da Out (Wh n)) (wk n) n (Fa [1,1,0,1,0,0] (aa Tryz.f129)) 0:=Qa (sp:=Xn) (rp:=Wn) (by kernel_rfl) fun K σ ρ=>Ky n K n σ.1 σ.2.1 σ.2.2.1 σ.2.2.2.1
theorem jL (n:Nat):ua tys (da Out (Wh n)) (wk n) n (aa Tryz.f129) 0:=⟨trivial,⟨trivial,⟨⟨trivial,⟨cK n,⟨trivial,⟨⟨trivial,trivial⟩,⟨⟨trivial,⟨trivial,⟨trivial,⟨⟨trivial,trivial⟩,trivial⟩⟩⟩⟩,trivial⟩⟩⟩⟩⟩,⟨trivial,trivial⟩⟩⟩⟩
theorem xN (n:Nat):Enters Tryz.prog 129:=enters_of (c:=aa Tryz.f129) Tryz.func129 (by kernel_rfl) (by kernel_rfl)
def BF (n:Nat):Entry:=⟨129,pcT (.pair .str .unit) (.one .bool) (fun xs=>mm n xs.1),none,none⟩
theorem CF (n:Nat):EntryOk Tryz.prog gl (BF n):=
 Oa (xN n) fun xs y h=>ra tys_ok (Ut n) mixed (hint:=wk n) (n:=n) Tryz.func129 (Na (jL n)) (la (φ:=(fun y=>some (Out.ret (Kf (.one .bool) y)))) (by kernel_rfl) (xR n xs.1 _) h)
def vk (n:Nat):List Entry:=BF n::Wh n
theorem rx (n:Nat):AllOk Tryz.prog gl (vk n):=.cons (CF n) (Ut n)
def km (n:Nat) {R:Type} (s1:BA) (t5 t6:Int) (kn:BA→Int→Int→Option R) (ko:(BA)→Option R) (kr:(Bool)→Option R) (kp:Int→Option R):Option R:=
 if (decide (t6<t5))=true then
 if 0≤t6∧t6<(s1.size:Int) then
  (WD n (bt s1 t6)).bind fun v=>
  if (!v)=true then
  if 0≤t6∧t6<(s1.size:Int) then
   if ((bt s1 t6) !=(45:Int))=false then
   if (t6==(0:Int))=false then
    if (t6==(IntKind.wrap .i64 ((s1.size:Int) - (1:Int))))=true then
    kr false
    else
    kn s1 t5 (IntKind.wrap .i64 (t6+(1:Int)))
   else
    kr false
   else
   kr false
  else
   none
  else
  kn s1 t5 (IntKind.wrap .i64 (t6+(1:Int)))
 else
  none
 else
 ko s1
def Xd (n:Nat):Nat→BA→Int→Int→Option (Lx (BA) (Bool))
 | 0,_,_,_=>none
 | m+1,s1,t5,t6=>km n s1 t5 t6 (Xd n m) (fun a=>some (.out a)) (fun a=>some (.ret a)) (fun p=>some (.pan p))
theorem wP (n m:Nat) {S:Type}:∀ s1 t5 t6 (φ:_→Option S),(Xd n (m+1) s1 t5 t6).bind φ=km n s1 t5 t6 (fun s1 t5 t6=>(Xd n m s1 t5 t6).bind φ) (fun a=>φ (.out a)) (fun a=>φ (.ret a)) (fun p=>φ (.pan p)):=by
 intros;first | (simp only [Xd,km,fa,ba,iB,bB,oL,oX,nB,Option.bind_some]) | rfl
def Zt:List Sl:=.dat .str::tp 4 (.dat (.int .i64)::.dat (.int .i64)::tp 33 [])
def Yt:List RS:=[]
def yF:List Sl:=.dat .str::tp 39 []
def xF:List RS:=[]
def AF:List Sl:=.top::.top::.dat .bool::tp 37 []
def zF:List RS:=[]
def Xf (K:XE→List AV→ia→Option Out):Lx (BA) (Bool)→Option Out:=fun x=>onL x (fun a=>Bk yF xF (a,()) () (K (.exit 0))) (fun a=>Bk AF zF (a,()) () (K .ret)) (fun _=>none)
def mB (n:Nat) {R:Type} (s:BA) (k:Bool→Option R):Option R:=
 (Xd n n s (s.size:Int) (0:Int)).bind fun x_1=>onL x_1
 (fun a_2=>
  if (decide ((a_2.size:Int)≥(1:Int)))=true then
  k (decide ((a_2.size:Int)≤(63:Int)))
  else
  k false)
 (fun a_3=>
  k a_3)
 (fun _=>none)
def Qs (n:Nat) (s:BA):Option Bool:=mB n s some
theorem RW (n:Nat) {S:Type}:∀ s (φ:_→Option S),(Qs n s).bind φ=mB n s φ:=by
 intros;unfold Qs mB;first | (simp only [fa,ba,iB,bB,oL,oX,nB,Option.bind_some]) | rfl
def Cp (n:Nat):Hint Out:={ live:=fun c=>(cond (Nat.beq c 0) (lv [0,5,6]) []),run:=fun c=>(cond (Nat.beq c 0) (some (Ms Zt Yt fun σ ρ K=>(Xd n n σ.1 σ.2.1 σ.2.2.1).bind (Xf K))) none),xm:=fun c q=>(cond (Nat.beq c 0&&Nat.beq (q.getD 1000000) 0&&q.isSome) (some [(0,none)]) (cond (Nat.beq c 1&&q.isNone) (some [(2,none)]) none)) }
def Bp (n:Nat) (K:XE→List AV→ia→Option Out) (m:Nat) (s1:BA) (t5:Int) (t6:Int):Option Out:=Ef tys (da Out (vk n)) (Cp n) n (Fa [1,0,1,0,0] (aa Tryz.f131)) 0 Zt Yt K m (s1,(t5,(t6,()))) ()
theorem wF (n:Nat) (K:XE→List AV→ia→Option Out):∀ (m:Nat) s1 t5 t6,Bp n K m s1 t5 t6=(Xd n m s1 t5 t6).bind (Xf K)
 | 0,_,_,_=>by kernel_rfl
 | m+1,s1,t5,t6=>by
  have h1:Bp n K (m+1) s1 t5 t6=km n s1 t5 t6 (Bp n K m) (fun a=>Xf K (.out a)) (fun a=>Xf K (.ret a)) (fun p=>Xf K (.pan p)):=by kernel_rfl
  have h2:Bp n K m=fun s1 t5 t6=>(Xd n m s1 t5 t6).bind (Xf K):=by
   repeat (refine funext fun _=>?_)
   exact wF n K m _ _ _
  rw [h1,h2];exact (wP n m _ _ _ (Xf K)).symm
theorem vN (n:Nat):Pe tys (da Out (vk n)) (Cp n) n (Fa [1,0,1,0,0] (aa Tryz.f131)) 0:=Qa (sp:=Zt) (rp:=Yt) (by kernel_rfl) fun K σ ρ=>wF n K n σ.1 σ.2.1 σ.2.2.1
theorem xP (n:Nat):ua tys (da Out (vk n)) (Cp n) n (aa Tryz.f131) 0:=⟨trivial,⟨⟨trivial,⟨vN n,⟨trivial,⟨⟨trivial,trivial⟩,⟨⟨trivial,⟨trivial,⟨⟨trivial,trivial⟩,trivial⟩⟩⟩,trivial⟩⟩⟩⟩⟩,⟨trivial,trivial⟩⟩⟩
theorem wR (n:Nat):Enters Tryz.prog 131:=enters_of (c:=aa Tryz.f131) Tryz.func131 (by kernel_rfl) (by kernel_rfl)
def eL (n:Nat):Entry:=⟨131,pcT (.pair .str .unit) (.one .bool) (fun xs=>Qs n xs.1),none,none⟩
theorem gL (n:Nat):EntryOk Tryz.prog gl (eL n):=
 Oa (wR n) fun xs y h=>ra tys_ok (rx n) mixed (hint:=Cp n) (n:=n) Tryz.func131 (Na (xP n)) (la (φ:=(fun y=>some (Out.ret (Kf (.one .bool) y)))) (by kernel_rfl) (RW n xs.1 _) h)
def fL (n:Nat):List Entry:=eL n::vk n
theorem wN (n:Nat):AllOk Tryz.prog gl (fL n):=.cons (gL n) (rx n)
def zj (n:Nat) (s:BA):Option Bool:=
 (Uf n s).bind fun b=>if b=true then (Mc n s ⟨#[93]⟩).bind fun c=>if c=true then (if 2≤(s.size:Int)∧(s.size:Int)≤9223372036854775807 then mm n (s.extract 1 (s.size - 1)) else none) else some false
 else Dom.domT (fun x=>qn n x Dom.dot) (Qs n) n s
theorem rN:Tryz.prog.funcs[103]?=some Tryz.f103:=by kernel_rfl
theorem sN (n:Nat):EntryOk Tryz.prog gl ⟨103,pcT (.pair .str .unit) (.one .bool) (fun xs=>zj n xs.1),none,none⟩:=Oa (enters_of (c:=aa Tryz.f103) rN (by kernel_rfl) (by kernel_rfl)) fun xs y h=>by
 refine GP (args:=[.string xs.1]) (v:=.bool y) (fun w0 hg hn=>?_)
 have hlit:∀ b,Uf n xs.1=some b→∀ (w:World),Below w0.heap.size w0 w→Calls Tryz.prog 128 #[.string xs.1] w fun e w'=>e=.returned (.bool b)∧Below w.heap.size w w':=fun b hb' w hb=>
  VF (Iy n) (args:=[.string xs.1]) (v:=.bool b) (by show (Uf n xs.1).bind _=_;rw [hb'];rfl) hg hn hb
 have hsuf:∀ b,Mc n xs.1 ⟨#[93]⟩=some b→∀ (w:World),Below w0.heap.size w0 w→Calls Tryz.prog 59 #[.string xs.1,.string ⟨#[93]⟩] w fun e w'=>e=.returned (.bool b)∧Below w.heap.size w w':=fun b hb' w hb=>
  VF (cB n) (args:=[.string xs.1,.string ⟨#[93]⟩]) (v:=.bool b) (by show (Mc n xs.1 ⟨#[93]⟩).bind _=_;rw [hb'];rfl) hg hn hb
 unfold zj at h
 obtain ⟨b,hb,h⟩:=Option.bind_eq_some_iff.1 h
 cases b with
 | true=>
  rw [if_pos rfl] at h
  obtain ⟨c,hc,h⟩:=Option.bind_eq_some_iff.1 h
  refine Dom.dom2 xs.1 c y w0 (hlit true hb) (hsuf c hc) (fun hc'=>?_) (fun hc'=>?_)
  · rw [if_pos hc'] at h
    split at h
    · rename_i hsz
      exact ⟨hsz,fun w hbw=>VF (CF n) (args:=[.string (xs.1.extract 1 (xs.1.size - 1))]) (v:=.bool y) (by show (mm n (xs.1.extract 1 (xs.1.size - 1))).bind _=_;rw [h];rfl) hg hn hbw⟩
    · cases h
  · rw [if_neg (by rw [hc'];simp)] at h
    exact (Option.some.inj h).symm
 | false=>
  rw [if_neg (by simp)] at h
  exact Dom.dom1 _ _ n xs.1 y w0 (fun x i w hbw hx=>VF (cN n) (args:=[.string x,.string Dom.dot]) (v:=.int .i64 i) (by show (qn n x Dom.dot).bind _=_;rw [hx];rfl) hg hn hbw)
   (fun x i w hbw hx=>VF (gL n) (args:=[.string x]) (v:=.bool i) (by show (Qs n x).bind _=_;rw [hx];rfl) hg hn hbw) (hlit false hb) h
def Xt (n:Nat):List Entry:=⟨103,pcT (.pair .str .unit) (.one .bool) (fun xs=>zj n xs.1),none,none⟩::fL n
theorem im (n:Nat):AllOk Tryz.prog gl (Xt n):=.cons (sN n) (wN n)
def un (n:Nat) {R:Type} (s:BA) (k:U1→Option R) (kp:Int→Option R):Option R:=
 (xk n s).bind fun x_1=>onX x_1 (fun p=>
 kp p) (fun v=>
 if (decide ((v.1.size:Int)≤(64:Int)))=true then
 (Pa n v.2.1 (⟨#[64]⟩:BA)).bind fun v1=>
 (bc n v1).bind fun x_2=>onX x_2 (fun p1=>
  kp p1) (fun v2=>
 if 0≤(1:Int)∧(1:Int)≤(v.2.1.size:Int) then
  (Ts n (v.2.1.extract (Int.toNat (1:Int)) (Int.toNat (v.2.1.size:Int)))).bind fun v3=>
  (zj n v3).bind fun v4=>
  (bc n v4).bind fun x_3=>onX x_3 (fun p2=>
  kp p2) (fun v5=>
  k (v.1,(v3,())))
 else
  none)
 else
 (bc n false).bind fun x_4=>onX x_4 (fun p3=>
  kp p3) (fun v6=>
 if 0≤(1:Int)∧(1:Int)≤(v.2.1.size:Int) then
  (Ts n (v.2.1.extract (Int.toNat (1:Int)) (Int.toNat (v.2.1.size:Int)))).bind fun v7=>
  (zj n v7).bind fun v8=>
  (bc n v8).bind fun x_5=>onX x_5 (fun p4=>
  kp p4) (fun v9=>
  k (v.1,(v7,())))
 else
  none))
def Dq (n:Nat) (s:BA):Option (Except Int U1):=un n s (fun y=>some (.ok y)) (fun p=>some (.error p))
theorem ER (n:Nat) {S:Type}:∀ s (φ:_→Option S),(Dq n s).bind φ=un n s (fun y=>φ (.ok y)) (fun p=>φ (.error p)):=by
 intros;unfold Dq un;first | (simp only [fa,ba,iB,bB,oL,oX,nB,Option.bind_some]) | rfl
def Oy (n:Nat):Hint Out:={ live:=fun c=>[],run:=fun c=>none,xm:=fun c q=>none }
theorem wJ (n:Nat):ua tys (da Out (Xt n)) (Oy n) n (aa Tryz.f147) 0:=ma (fun _=>rfl) _ _ (by kernel_rfl)
theorem aU (n:Nat):Enters Tryz.prog 147:=enters_of (c:=aa Tryz.f147) Tryz.func147 (by kernel_rfl) (by kernel_rfl)
def JO (n:Nat):Entry:=⟨147,pcX 184 (.pair .str .unit) (.one (.pair .str (.pair .str .unit))) (fun xs=>Dq n xs.1),none,none⟩
theorem VW (n:Nat):EntryOk Tryz.prog gl (JO n):=
 qW (aU n) (fun xs y h=>ra tys_ok (im n) mixed (hint:=Oy n) (n:=n) Tryz.func147 (Na (wJ n)) (la (φ:=(fun r=>onX r (fun p=>some (Out.pan (lB 184 p))) fun y=>some (Out.ret (Kf (.one (.pair .str (.pair .str .unit))) y)))) (by kernel_rfl) (ER n xs.1 _) h))
  (fun xs p h=>ra tys_ok (im n) mixed (hint:=Oy n) (n:=n) Tryz.func147 (Na (wJ n)) (la (φ:=(fun r=>onX r (fun p=>some (Out.pan (lB 184 p))) fun y=>some (Out.ret (Kf (.one (.pair .str (.pair .str .unit))) y)))) (by kernel_rfl) (ER n xs.1 _) h))
def rq (n:Nat):List Entry:=JO n::Xt n
theorem OF (n:Nat):AllOk Tryz.prog gl (rq n):=.cons (VW n) (im n)
def qq (n:Nat) {R:Type} (s:BA) (k:(U1×Int×Unit)→Option R):Option R:=
 (Dq n s).bind fun x_1=>onX x_1 (fun p=>
 k (((⟨#[]⟩:BA),((⟨#[]⟩:BA),())),(p,()))) (fun v=>
 k ((v.1,(v.2.1,())),((0:Int),())))
def Ps (n:Nat) (s:BA):Option (U1×Int×Unit):=qq n s some
theorem OW (n:Nat) {S:Type}:∀ s (φ:_→Option S),(Ps n s).bind φ=qq n s φ:=by
 intros;unfold Ps qq;first | (simp only [fa,ba,iB,bB,oL,oX,nB,Option.bind_some]) | rfl
def Ap (n:Nat):Hint Out:={ live:=fun c=>[],run:=fun c=>none,xm:=fun c q=>none,pm:=some [(2,none),(3,none)] }
theorem vP (n:Nat):ua tys (da Out (rq n)) (Ap n) n (Fa [0] (aa Tryz.f120)) 0∧ua tys (da Out (rq n)) (Ap n) n (Fa [1,1] (aa Tryz.f120)) 0:=⟨trivial,⟨trivial,trivial⟩⟩
theorem tR (n:Nat):Enters Tryz.prog 120:=enters_of (c:=aa Tryz.f120) Tryz.func120 (by kernel_rfl) (by kernel_rfl)
theorem rJ:Tryz.prog.funcs[146]?=some Tryz.f146:=by kernel_rfl
theorem uP:Enters Tryz.prog 146:=enters_of (c:=aa Tryz.f146) rJ (by kernel_rfl) (by kernel_rfl)
theorem uN (n:Nat):ua tys (da Out (rq n)) jS n (Fa [1] (aa Tryz.f146)) 0:=⟨⟨trivial,⟨trivial,trivial⟩⟩,⟨trivial,⟨⟨trivial,⟨trivial,trivial⟩⟩,trivial⟩⟩⟩
theorem NW (n:Nat) (s:BA):fnD tys (da Out (rq n)) (Ap n) n 146 Tryz.f146 Tryz.f120 (fY (.pair .str .unit) (s,())) (SX fun v=>some (.ret v))=qq n s (fun y=>some (.ret (Kf (.many (.pair (.pair .str (.pair .str .unit)) (.pair (.int .i64) .unit))) y))):=by kernel_rfl
def dL (n:Nat):Entry:=⟨120,pcT (.pair .str .unit) (.many (.pair (.pair .str (.pair .str .unit)) (.pair (.int .i64) .unit))) (fun xs=>Ps n xs.1),none,none⟩
theorem TT (n:Nat):EntryOk Tryz.prog gl (dL n):=
 Oa (tR n) fun xs y h=>ZW tys_ok (OF n) mixed (hint:=Ap n) (n:=n) (fn:=Tryz.f120) (f2:=Tryz.f146) Tryz.func120 rJ uP (W8 (vP n)) (K7 (uN n)) (la (φ:=(fun y=>some (Out.ret (Kf (.many (.pair (.pair .str (.pair .str .unit)) (.pair (.int .i64) .unit))) y)))) (NW n xs.1) (OW n xs.1 _) h)
def RD (n:Nat):List Entry:=dL n::rq n
theorem YC (n:Nat):AllOk Tryz.prog gl (RD n):=.cons (TT n) (OF n)
def sF (n:Nat) {R:Type} (s:BA) (k:(U1×Bool×Int×Unit)→Option R):Option R:=
 if (s.toList==(⟨#[60,62]⟩:BA).toList)=true then
 k (((⟨#[]⟩:BA),((⟨#[]⟩:BA),())),(true,((0:Int),())))
 else
 if (decide ((s.size:Int)<(2:Int)))=false then
  if 0≤(0:Int)∧(0:Int)<(s.size:Int) then
  if ((bt s (0:Int)) !=(60:Int))=false then
   if 0≤(IntKind.wrap .i64 ((s.size:Int) - (1:Int)))∧(IntKind.wrap .i64 ((s.size:Int) - (1:Int)))<(s.size:Int) then
   if ((bt s (IntKind.wrap .i64 ((s.size:Int) - (1:Int)))) !=(62:Int))=true then
    k (((⟨#[]⟩:BA),((⟨#[]⟩:BA),())),(false,((8:Int),())))
   else
    if 0≤(IntKind.wrap .i64 ((s.size:Int) - (1:Int)))∧(IntKind.wrap .i64 ((s.size:Int) - (1:Int)))≤(s.size:Int) then
    if 0≤(1:Int)∧(1:Int)≤(IntKind.wrap .i64 ((s.size:Int) - (1:Int))) then
     (Ps n (s.extract (Int.toNat (1:Int)) (Int.toNat (IntKind.wrap .i64 ((s.size:Int) - (1:Int)))))).bind fun v=>
     k ((v.1.1,(v.1.2.1,())),(false,(v.2.1,())))
    else
     none
    else
    none
   else
   none
  else
   k (((⟨#[]⟩:BA),((⟨#[]⟩:BA),())),(false,((8:Int),())))
  else
  none
 else
  k (((⟨#[]⟩:BA),((⟨#[]⟩:BA),())),(false,((8:Int),())))
def Jy (n:Nat) (s:BA):Option (U1×Bool×Int×Unit):=sF n s some
theorem tY (n:Nat) {S:Type}:∀ s (φ:_→Option S),(Jy n s).bind φ=sF n s φ:=by
 intros;unfold Jy sF;first | (simp only [fa,ba,iB,bB,oL,oX,nB,Option.bind_some]) | rfl
def sJ (n:Nat):Hint Out:={ live:=fun c=>[],run:=fun c=>none,xm:=fun c q=>none }
theorem uR (n:Nat):ua tys (da Out (RD n)) (sJ n) n (aa Tryz.f96) 0:=ma (fun _=>rfl) _ _ (by kernel_rfl)
theorem UT (n:Nat):Enters Tryz.prog 96:=enters_of (c:=aa Tryz.f96) Tryz.func96 (by kernel_rfl) (by kernel_rfl)
def EO (n:Nat):Entry:=⟨96,pcT (.pair .str .unit) (.many K3) (fun xs=>Jy n xs.1),none,none⟩
theorem PW (n:Nat):EntryOk Tryz.prog gl (EO n):=
 Oa (UT n) fun xs y h=>ra tys_ok (YC n) mixed (hint:=sJ n) (n:=n) Tryz.func96 (Na (uR n)) (la (φ:=(fun y=>some (Out.ret (Kf (.many K3) y)))) (by kernel_rfl) (tY n xs.1 _) h)
def aI (n:Nat):List Entry:=EO n::RD n
theorem tF (n:Nat):AllOk Tryz.prog gl (aI n):=.cons (PW n) (YC n)
def QK (n:Nat) {R:Type} (m0:U1) (k:BA→Option R):Option R:=
 if Ca m0.1 (⟨#[64]⟩:BA)=true then
 if Ca (m0.1++(⟨#[64]⟩:BA)) m0.2.1=true then
  k ((m0.1++(⟨#[64]⟩:BA))++m0.2.1)
 else
  none
 else
 none
def pJ (n:Nat) (m0:U1):Option BA:=QK n m0 some
theorem O0 (n:Nat) {S:Type}:∀ m0 (φ:_→Option S),(pJ n m0).bind φ=QK n m0 φ:=by
 intros;unfold pJ QK;first | (simp only [fa,ba,iB,bB,oL,oX,nB,Option.bind_some]) | rfl
def cL (n:Nat):Hint Out:={ live:=fun c=>[],run:=fun c=>none,xm:=fun c q=>none }
theorem ST (n:Nat):ua tys (da Out (aI n)) (cL n) n (aa Tryz.f97) 0:=ma (fun _=>rfl) _ _ (by kernel_rfl)
theorem MW (n:Nat):Enters Tryz.prog 97:=enters_of (c:=aa Tryz.f97) Tryz.func97 (by kernel_rfl) (by kernel_rfl)
def sR (n:Nat):Entry:=⟨97,pcT (.pair (.pair .str (.pair .str .unit)) .unit) (.one .str) (fun xs=>pJ n xs.1),none,none⟩
theorem sY (n:Nat):EntryOk Tryz.prog gl (sR n):=
 Oa (MW n) fun xs y h=>ra tys_ok (tF n) mixed (hint:=cL n) (n:=n) Tryz.func97 (Na (ST n)) (la (φ:=(fun y=>some (Out.ret (Kf (.one .str) y)))) (by kernel_rfl) (O0 n xs.1 _) h)
def bL (n:Nat):List Entry:=sR n::aI n
theorem qJ (n:Nat):AllOk Tryz.prog gl (bL n):=.cons (sY n) (tF n)
def tb (n:Nat) {R:Type} (path:BA) (b0:Bool) (b01:(Sq Int)) (b02:BA) (b03:Bool) (b04 b05:BA) (b06:Bool) (b07:BA) (r1 r2:(Sq BA)) (k:U0→Option R):Option R:=
 (Jy n path).bind fun v=>
 if (v.2.2.1 !=(0:Int))=false then
 if v.2.1=true then
  (ta n (500:Int) b0 b01 b02 b03 b04 b05 b06 b07 r1 r2).bind fun v1=>
  k (v1.1,(v1.2.1,(v1.2.2.1,(v1.2.2.2.1,(v1.2.2.2.2.1,(v1.2.2.2.2.2.1,(v1.2.2.2.2.2.2.1,(v1.2.2.2.2.2.2.2.1,(v1.2.2.2.2.2.2.2.2.1,(v1.2.2.2.2.2.2.2.2.2.1,()))))))))))
 else
  (Jb n b0 b01 b02 b03 b04 b05 b06 b07 r1 r2).bind fun v2=>
  if v2.1=true then
  o0 (
   (pJ n (v.1.1,(v.1.2.1,()))).bind fun v3=>
   if Ta (v2.2.2.2.2.2.2.2.2.2.1.n+1) 16=true then
   k (v2.2.1,(v2.2.2.1,(v2.2.2.2.1,(v2.2.2.2.2.1,(v2.2.2.2.2.2.1,(v2.2.2.2.2.2.2.1,(v2.2.2.2.2.2.2.2.1,(v2.2.2.2.2.2.2.2.2.1,((⟨(v2.2.2.2.2.2.2.2.2.2.1.n+1),fun q=>if q<v2.2.2.2.2.2.2.2.2.2.1.n then v2.2.2.2.2.2.2.2.2.2.1.at' q else (fun q=>List.getD (α:=BA) [v3] q (Aa .str)) (q - v2.2.2.2.2.2.2.2.2.2.1.n)⟩:Sq BA),(v2.2.2.2.2.2.2.2.2.2.2.1,()))))))))))
   else
   none) (
   (pJ n (v.1.1,(v.1.2.1,()))).bind fun v4=>
   dup 1 (
   if Ta (v2.2.2.2.2.2.2.2.2.2.1.n+1) 16=true then
    k (v2.2.1,(v2.2.2.1,(v2.2.2.2.1,(v2.2.2.2.2.1,(v2.2.2.2.2.2.1,(v2.2.2.2.2.2.2.1,(v2.2.2.2.2.2.2.2.1,(v2.2.2.2.2.2.2.2.2.1,((⟨(v2.2.2.2.2.2.2.2.2.2.1.n+1),fun q=>if q<v2.2.2.2.2.2.2.2.2.2.1.n then v2.2.2.2.2.2.2.2.2.2.1.at' q else (fun q=>List.getD (α:=BA) [v4] q (Aa .str)) (q - v2.2.2.2.2.2.2.2.2.2.1.n)⟩:Sq BA),(v2.2.2.2.2.2.2.2.2.2.2.1,()))))))))))
   else
    none))
  else
  k (v2.2.1,(v2.2.2.1,(v2.2.2.2.1,(v2.2.2.2.2.1,(v2.2.2.2.2.2.1,(v2.2.2.2.2.2.2.1,(v2.2.2.2.2.2.2.2.1,(v2.2.2.2.2.2.2.2.2.1,(v2.2.2.2.2.2.2.2.2.2.1,(v2.2.2.2.2.2.2.2.2.2.2.1,()))))))))))
 else
 (ta n (500:Int) b0 b01 b02 b03 b04 b05 b06 b07 r1 r2).bind fun v5=>
 k (v5.1,(v5.2.1,(v5.2.2.1,(v5.2.2.2.1,(v5.2.2.2.2.1,(v5.2.2.2.2.2.1,(v5.2.2.2.2.2.2.1,(v5.2.2.2.2.2.2.2.1,(v5.2.2.2.2.2.2.2.2.1,(v5.2.2.2.2.2.2.2.2.2.1,()))))))))))
def Wa (n:Nat) (path:BA) (b0:Bool) (b01:(Sq Int)) (b02:BA) (b03:Bool) (b04 b05:BA) (b06:Bool) (b07:BA) (r1 r2:(Sq BA)):Option U0:=tb n path b0 b01 b02 b03 b04 b05 b06 b07 r1 r2 some
theorem sE (n:Nat) {S:Type}:∀ path b0 b01 b02 b03 b04 b05 b06 b07 r1 r2 (φ:_→Option S),(Wa n path b0 b01 b02 b03 b04 b05 b06 b07 r1 r2).bind φ=tb n path b0 b01 b02 b03 b04 b05 b06 b07 r1 r2 φ:=by
 intros;unfold Wa tb;first | (simp only [fa,ba,iB,bB,oL,oX,nB,Option.bind_some]) | rfl
def Xl (n:Nat):Hint OutS:={ live:=fun c=>[],run:=fun c=>none,xm:=fun c q=>none,sch:=fun c=>(cond (Nat.beq c 4) (some [(0,0),(1,0),(2,0),(3,0),(5,1),(7,5),(4,7),(6,7),(8,2),(9,6),(10,6),(11,2)]) none),nb:=[(71,1,.frz (.int .i64)),(71,5,.prm 9),(71,8,.prm 9)] }
theorem ly (n:Nat):ua tys (da OutS (bL n)).keep (Xl n) n (aa Tryz.f61) 0:=ma (fun _=>rfl) _ _ (by kernel_rfl)
theorem Tz (n:Nat):Enters Tryz.prog 61:=enters_of (c:=aa Tryz.f61) Tryz.func61 (by kernel_rfl) (by kernel_rfl)
def Wo:List RSp:=[.one (.ptr 0 0 0),.one (.dat .str)]
def Vo:List RS:=[.box 71 10 false [.dat .bool,.dat (.sl (.int .i64)),.dat .str,.dat .bool,.dat .str,.row 1,.dat .str,.dat .bool,.row 2,.dat .str],.row 9 1 .str true true,.row 9 1 .str true true]
def Uz:List Sl:=[.ptr 0 0 0,.top]
def Vz:List RSp:=[]
def cf:List RS:=[.box 71 10 false [.dat .bool,.dat (.sl (.int .i64)),.dat .str,.dat .bool,.dat .str,.row 1,.dat .str,.dat .bool,.row 2,.dat .str],.row 9 1 .str true true,.row 9 1 .str true true]
def Lj (y:U0):OutS:=⟨false,Kl (Yb cf ((y.1,(y.2.1,(y.2.2.1,(y.2.2.2.1,(y.2.2.2.2.1,(y.2.2.2.2.2.1,(y.2.2.2.2.2.2.1,(y.2.2.2.2.2.2.2.1,())))))))),(y.2.2.2.2.2.2.2.2.1,(y.2.2.2.2.2.2.2.2.2.1,())))) Uz (),Xu (Us (Yb cf ((y.1,(y.2.1,(y.2.2.1,(y.2.2.2.1,(y.2.2.2.2.1,(y.2.2.2.2.2.1,(y.2.2.2.2.2.2.1,(y.2.2.2.2.2.2.2.1,())))))))),(y.2.2.2.2.2.2.2.2.1,(y.2.2.2.2.2.2.2.2.2.1,())))) Vz ()),ao (Yb cf ((y.1,(y.2.1,(y.2.2.1,(y.2.2.2.1,(y.2.2.2.2.1,(y.2.2.2.2.2.1,(y.2.2.2.2.2.2.1,(y.2.2.2.2.2.2.2.1,())))))))),(y.2.2.2.2.2.2.2.2.1,(y.2.2.2.2.2.2.2.2.2.1,())))) cf ((y.1,(y.2.1,(y.2.2.1,(y.2.2.2.1,(y.2.2.2.2.1,(y.2.2.2.2.2.1,(y.2.2.2.2.2.2.1,(y.2.2.2.2.2.2.2.1,())))))))),(y.2.2.2.2.2.2.2.2.1,(y.2.2.2.2.2.2.2.2.2.1,())))⟩
theorem qC (n:Nat):EntryOk Tryz.prog gl ⟨61,Re,none,some (csT Wo Vo (fun σ ρ=>Wa n σ.2.1.1 ρ.1.1 ρ.1.2.1 ρ.1.2.2.1 ρ.1.2.2.2.1 ρ.1.2.2.2.2.1 ρ.1.2.2.2.2.2.1 ρ.1.2.2.2.2.2.2.1 ρ.1.2.2.2.2.2.2.2.1 ρ.2.1 ρ.2.2.1) Lj)⟩:=
 Lc (Tz n) fun σ ρ y h=>Xa tys_ok (qJ n) mixed (hint:=Xl n) (n:=n) Tryz.func61 (Na (ly n)) (la (φ:=fun y=>some (Lj y)) (by kernel_rfl) (sE n σ.2.1.1 ρ.1.1 ρ.1.2.1 ρ.1.2.2.1 ρ.1.2.2.2.1 ρ.1.2.2.2.2.1 ρ.1.2.2.2.2.2.1 ρ.1.2.2.2.2.2.2.1 ρ.1.2.2.2.2.2.2.2.1 ρ.2.1 ρ.2.2.1 _) h)
def Ri (n:Nat):List Entry:=⟨61,Re,none,some (csT Wo Vo (fun σ ρ=>Wa n σ.2.1.1 ρ.1.1 ρ.1.2.1 ρ.1.2.2.1 ρ.1.2.2.2.1 ρ.1.2.2.2.2.1 ρ.1.2.2.2.2.2.1 ρ.1.2.2.2.2.2.2.1 ρ.1.2.2.2.2.2.2.2.1 ρ.2.1 ρ.2.2.1) Lj)⟩::bL n
theorem Qk (n:Nat):AllOk Tryz.prog gl (Ri n):=.cons (qC n) (qJ n)
def ee (n:Nat) {R:Type} (b0:Bool) (b01:(Sq Int)) (b02:BA) (b03:Bool) (b04 b05:BA) (b06:Bool) (b07:BA) (r1 r2:(Sq BA)) (k:U0→Option R):Option R:=
 if (decide ((r1.n:Int)>(0:Int)))=true then
 (ta n (354:Int) b0 b01 b02 b03 b04 b05 (decide ((r1.n:Int)>(0:Int))) b07 r1 r2).bind fun v=>
 k (v.1,(v.2.1,(v.2.2.1,(v.2.2.2.1,(v.2.2.2.2.1,(v.2.2.2.2.2.1,(v.2.2.2.2.2.2.1,(v.2.2.2.2.2.2.2.1,(v.2.2.2.2.2.2.2.2.1,(v.2.2.2.2.2.2.2.2.2.1,()))))))))))
 else
 (ta n (503:Int) b0 b01 b02 b03 b04 b05 (decide ((r1.n:Int)>(0:Int))) b07 r1 r2).bind fun v1=>
 k (v1.1,(v1.2.1,(v1.2.2.1,(v1.2.2.2.1,(v1.2.2.2.2.1,(v1.2.2.2.2.2.1,(v1.2.2.2.2.2.2.1,(v1.2.2.2.2.2.2.2.1,(v1.2.2.2.2.2.2.2.2.1,(v1.2.2.2.2.2.2.2.2.2.1,()))))))))))
def mb (n:Nat) (b0:Bool) (b01:(Sq Int)) (b02:BA) (b03:Bool) (b04 b05:BA) (b06:Bool) (b07:BA) (r1 r2:(Sq BA)):Option U0:=ee n b0 b01 b02 b03 b04 b05 b06 b07 r1 r2 some
theorem oE (n:Nat) {S:Type}:∀ b0 b01 b02 b03 b04 b05 b06 b07 r1 r2 (φ:_→Option S),(mb n b0 b01 b02 b03 b04 b05 b06 b07 r1 r2).bind φ=ee n b0 b01 b02 b03 b04 b05 b06 b07 r1 r2 φ:=by
 intros;unfold mb ee;first | (simp only [fa,ba,iB,bB,oL,oX,nB,Option.bind_some]) | rfl
def Tl (n:Nat):Hint OutS:={ live:=fun c=>[],run:=fun c=>none,xm:=fun c q=>none,nb:=[(71,1,.frz (.int .i64)),(71,5,.prm 9),(71,8,.prm 9)] }
theorem fy (n:Nat):ua tys (da OutS (Ri n)).keep (Tl n) n (aa Tryz.f62) 0:=ma (fun _=>rfl) _ _ (by kernel_rfl)
theorem Ez (n:Nat):Enters Tryz.prog 62:=enters_of (c:=aa Tryz.f62) Tryz.func62 (by kernel_rfl) (by kernel_rfl)
def No:List RSp:=[.one (.ptr 0 0 0)]
def Mo:List RS:=[.box 71 10 false [.dat .bool,.dat (.sl (.int .i64)),.dat .str,.dat .bool,.dat .str,.row 1,.dat .str,.dat .bool,.row 2,.dat .str],.row 9 1 .str true true,.row 9 1 .str true true]
def Fz:List Sl:=[.ptr 0 0 0]
def Gz:List RSp:=[]
def Ye:List RS:=[.box 71 10 false [.dat .bool,.dat (.sl (.int .i64)),.dat .str,.dat .bool,.dat .str,.row 1,.dat .str,.dat .bool,.row 2,.dat .str],.row 9 1 .str true true,.row 9 1 .str true true]
def Hj (y:U0):OutS:=⟨false,Kl (Yb Ye ((y.1,(y.2.1,(y.2.2.1,(y.2.2.2.1,(y.2.2.2.2.1,(y.2.2.2.2.2.1,(y.2.2.2.2.2.2.1,(y.2.2.2.2.2.2.2.1,())))))))),(y.2.2.2.2.2.2.2.2.1,(y.2.2.2.2.2.2.2.2.2.1,())))) Fz (),Xu (Us (Yb Ye ((y.1,(y.2.1,(y.2.2.1,(y.2.2.2.1,(y.2.2.2.2.1,(y.2.2.2.2.2.1,(y.2.2.2.2.2.2.1,(y.2.2.2.2.2.2.2.1,())))))))),(y.2.2.2.2.2.2.2.2.1,(y.2.2.2.2.2.2.2.2.2.1,())))) Gz ()),ao (Yb Ye ((y.1,(y.2.1,(y.2.2.1,(y.2.2.2.1,(y.2.2.2.2.1,(y.2.2.2.2.2.1,(y.2.2.2.2.2.2.1,(y.2.2.2.2.2.2.2.1,())))))))),(y.2.2.2.2.2.2.2.2.1,(y.2.2.2.2.2.2.2.2.2.1,())))) Ye ((y.1,(y.2.1,(y.2.2.1,(y.2.2.2.1,(y.2.2.2.2.1,(y.2.2.2.2.2.1,(y.2.2.2.2.2.2.1,(y.2.2.2.2.2.2.2.1,())))))))),(y.2.2.2.2.2.2.2.2.1,(y.2.2.2.2.2.2.2.2.2.1,())))⟩
theorem mC (n:Nat):EntryOk Tryz.prog gl ⟨62,Re,none,some (csT No Mo (fun σ ρ=>mb n ρ.1.1 ρ.1.2.1 ρ.1.2.2.1 ρ.1.2.2.2.1 ρ.1.2.2.2.2.1 ρ.1.2.2.2.2.2.1 ρ.1.2.2.2.2.2.2.1 ρ.1.2.2.2.2.2.2.2.1 ρ.2.1 ρ.2.2.1) Hj)⟩:=
 Lc (Ez n) fun σ ρ y h=>Xa tys_ok (Qk n) mixed (hint:=Tl n) (n:=n) Tryz.func62 (Na (fy n)) (la (φ:=fun y=>some (Hj y)) (by kernel_rfl) (oE n ρ.1.1 ρ.1.2.1 ρ.1.2.2.1 ρ.1.2.2.2.1 ρ.1.2.2.2.2.1 ρ.1.2.2.2.2.2.1 ρ.1.2.2.2.2.2.2.1 ρ.1.2.2.2.2.2.2.2.1 ρ.2.1 ρ.2.2.1 _) h)
def Li (n:Nat):List Entry:=⟨62,Re,none,some (csT No Mo (fun σ ρ=>mb n ρ.1.1 ρ.1.2.1 ρ.1.2.2.1 ρ.1.2.2.2.1 ρ.1.2.2.2.2.1 ρ.1.2.2.2.2.2.1 ρ.1.2.2.2.2.2.2.1 ρ.1.2.2.2.2.2.2.2.1 ρ.2.1 ρ.2.2.1) Hj)⟩::Ri n
theorem Lk (n:Nat):AllOk Tryz.prog gl (Li n):=.cons (mC n) (Qk n)
def La (n:Nat) {R:Type} (l:U2) (b0:Bool) (b01:(Sq Int)) (b02:BA) (b03:Bool) (b04 b05:BA) (b06:Bool) (b07:BA) (r1 r2:(Sq BA)) (k:U0→Option R):Option R:=
 if l.2.1=true then
 (ta n (500:Int) b0 b01 b02 b03 b04 b05 b06 b07 r1 r2).bind fun v=>
 k (v.1,(v.2.1,(v.2.2.1,(v.2.2.2.1,(v.2.2.2.2.1,(v.2.2.2.2.2.1,(v.2.2.2.2.2.2.1,(v.2.2.2.2.2.2.2.1,(v.2.2.2.2.2.2.2.2.1,(v.2.2.2.2.2.2.2.2.2.1,()))))))))))
 else
 if b06=true then
  (Gq n l.1).bind fun v1=>
  if v1.2.1=true then
  (Rb n b0 b01 b02 b03 b04 b05 b06 b07 r1 r2).bind fun v2=>
  k (v2.1,(v2.2.1,(v2.2.2.1,(v2.2.2.2.1,(v2.2.2.2.2.1,(v2.2.2.2.2.2.1,(v2.2.2.2.2.2.2.1,(v2.2.2.2.2.2.2.2.1,(v2.2.2.2.2.2.2.2.2.1,(v2.2.2.2.2.2.2.2.2.2.1,()))))))))))
  else
  if Ca v1.1 (⟨#[13,10]⟩:BA)=true then
   if Ca b05 (v1.1++(⟨#[13,10]⟩:BA))=true then
   k (b0,(b01,(b02,(b03,(b04,((b05++(v1.1++(⟨#[13,10]⟩:BA))),(b06,(b07,(r1,(r2,()))))))))))
   else
   none
  else
   none
 else
  (Pa n l.1 (⟨#[69,72,76,79,32]⟩:BA)).bind fun v3=>
  if v3=true then
  (ta n (250:Int) b0 b01 b02 b03 b04 b05 b06 b07 r1 r2).bind fun v4=>
  k (v4.1,(v4.2.1,(v4.2.2.1,(v4.2.2.2.1,(v4.2.2.2.2.1,(v4.2.2.2.2.2.1,(v4.2.2.2.2.2.2.1,(v4.2.2.2.2.2.2.2.1,(v4.2.2.2.2.2.2.2.2.1,(v4.2.2.2.2.2.2.2.2.2.1,()))))))))))
  else
  (Pa n l.1 (⟨#[76,72,76,79,32]⟩:BA)).bind fun v5=>
  if v5=true then
   (ta n (250:Int) b0 b01 b02 b03 b04 b05 b06 b07 r1 r2).bind fun v6=>
   k (v6.1,(v6.2.1,(v6.2.2.1,(v6.2.2.2.1,(v6.2.2.2.2.1,(v6.2.2.2.2.2.1,(v6.2.2.2.2.2.2.1,(v6.2.2.2.2.2.2.2.1,(v6.2.2.2.2.2.2.2.2.1,(v6.2.2.2.2.2.2.2.2.2.1,()))))))))))
  else
   (Pa n l.1 (⟨#[77,65,73,76,32,70,82,79,77,58,60]⟩:BA)).bind fun v7=>
   if v7=true then
   if 0≤(11:Int)∧(11:Int)≤(l.1.size:Int) then
    (Mc n (l.1.extract (Int.toNat (11:Int)) (Int.toNat (l.1.size:Int))) (⟨#[62]⟩:BA)).bind fun v8=>
    if v8=true then
    if 0≤(IntKind.wrap .i64 ((l.1.size:Int) - (1:Int)))∧(IntKind.wrap .i64 ((l.1.size:Int) - (1:Int)))≤(l.1.size:Int) then
     if 0≤(11:Int)∧(11:Int)≤(IntKind.wrap .i64 ((l.1.size:Int) - (1:Int))) then
     (Sc n (l.1.extract (Int.toNat (11:Int)) (Int.toNat (IntKind.wrap .i64 ((l.1.size:Int) - (1:Int))))) b0 b01 b02 b03 b04 b05 b06 b07 r1 r2).bind fun v9=>
     k (v9.1,(v9.2.1,(v9.2.2.1,(v9.2.2.2.1,(v9.2.2.2.2.1,(v9.2.2.2.2.2.1,(v9.2.2.2.2.2.2.1,(v9.2.2.2.2.2.2.2.1,(v9.2.2.2.2.2.2.2.2.1,(v9.2.2.2.2.2.2.2.2.2.1,()))))))))))
     else
     none
    else
     none
    else
    (Pa n l.1 (⟨#[82,67,80,84,32,84,79,58]⟩:BA)).bind fun v10=>
    if v10=true then
     if 0≤(8:Int)∧(8:Int)≤(l.1.size:Int) then
     (Wa n (l.1.extract (Int.toNat (8:Int)) (Int.toNat (l.1.size:Int))) b0 b01 b02 b03 b04 b05 b06 b07 r1 r2).bind fun v11=>
     k (v11.1,(v11.2.1,(v11.2.2.1,(v11.2.2.2.1,(v11.2.2.2.2.1,(v11.2.2.2.2.2.1,(v11.2.2.2.2.2.2.1,(v11.2.2.2.2.2.2.2.1,(v11.2.2.2.2.2.2.2.2.1,(v11.2.2.2.2.2.2.2.2.2.1,()))))))))))
     else
     none
    else
     if (l.1.toList==(⟨#[68,65,84,65]⟩:BA).toList)=true then
     (mb n b0 b01 b02 b03 b04 b05 b06 b07 r1 r2).bind fun v12=>
     k (v12.1,(v12.2.1,(v12.2.2.1,(v12.2.2.2.1,(v12.2.2.2.2.1,(v12.2.2.2.2.2.1,(v12.2.2.2.2.2.2.1,(v12.2.2.2.2.2.2.2.1,(v12.2.2.2.2.2.2.2.2.1,(v12.2.2.2.2.2.2.2.2.2.1,()))))))))))
     else
     if (l.1.toList==(⟨#[81,85,73,84]⟩:BA).toList)=true then
      (ta n (221:Int) b0 b01 b02 b03 b04 b05 b06 b07 r1 r2).bind fun v13=>
      k (v13.1,(v13.2.1,(v13.2.2.1,(v13.2.2.2.1,(v13.2.2.2.2.1,(v13.2.2.2.2.2.1,(v13.2.2.2.2.2.2.1,(v13.2.2.2.2.2.2.2.1,(v13.2.2.2.2.2.2.2.2.1,(v13.2.2.2.2.2.2.2.2.2.1,()))))))))))
     else
      (ta n (500:Int) b0 b01 b02 b03 b04 b05 b06 b07 r1 r2).bind fun v14=>
      k (v14.1,(v14.2.1,(v14.2.2.1,(v14.2.2.2.1,(v14.2.2.2.2.1,(v14.2.2.2.2.2.1,(v14.2.2.2.2.2.2.1,(v14.2.2.2.2.2.2.2.1,(v14.2.2.2.2.2.2.2.2.1,(v14.2.2.2.2.2.2.2.2.2.1,()))))))))))
   else
    none
   else
   (Pa n l.1 (⟨#[82,67,80,84,32,84,79,58]⟩:BA)).bind fun v15=>
   if v15=true then
    if 0≤(8:Int)∧(8:Int)≤(l.1.size:Int) then
    (Wa n (l.1.extract (Int.toNat (8:Int)) (Int.toNat (l.1.size:Int))) b0 b01 b02 b03 b04 b05 b06 b07 r1 r2).bind fun v16=>
    k (v16.1,(v16.2.1,(v16.2.2.1,(v16.2.2.2.1,(v16.2.2.2.2.1,(v16.2.2.2.2.2.1,(v16.2.2.2.2.2.2.1,(v16.2.2.2.2.2.2.2.1,(v16.2.2.2.2.2.2.2.2.1,(v16.2.2.2.2.2.2.2.2.2.1,()))))))))))
    else
    none
   else
    if (l.1.toList==(⟨#[68,65,84,65]⟩:BA).toList)=true then
    (mb n b0 b01 b02 b03 b04 b05 b06 b07 r1 r2).bind fun v17=>
    k (v17.1,(v17.2.1,(v17.2.2.1,(v17.2.2.2.1,(v17.2.2.2.2.1,(v17.2.2.2.2.2.1,(v17.2.2.2.2.2.2.1,(v17.2.2.2.2.2.2.2.1,(v17.2.2.2.2.2.2.2.2.1,(v17.2.2.2.2.2.2.2.2.2.1,()))))))))))
    else
    if (l.1.toList==(⟨#[81,85,73,84]⟩:BA).toList)=true then
     (ta n (221:Int) b0 b01 b02 b03 b04 b05 b06 b07 r1 r2).bind fun v18=>
     k (v18.1,(v18.2.1,(v18.2.2.1,(v18.2.2.2.1,(v18.2.2.2.2.1,(v18.2.2.2.2.2.1,(v18.2.2.2.2.2.2.1,(v18.2.2.2.2.2.2.2.1,(v18.2.2.2.2.2.2.2.2.1,(v18.2.2.2.2.2.2.2.2.2.1,()))))))))))
    else
     (ta n (500:Int) b0 b01 b02 b03 b04 b05 b06 b07 r1 r2).bind fun v19=>
     k (v19.1,(v19.2.1,(v19.2.2.1,(v19.2.2.2.1,(v19.2.2.2.2.1,(v19.2.2.2.2.2.1,(v19.2.2.2.2.2.2.1,(v19.2.2.2.2.2.2.2.1,(v19.2.2.2.2.2.2.2.2.1,(v19.2.2.2.2.2.2.2.2.2.1,()))))))))))
def Ba (n:Nat) (l:U2) (b0:Bool) (b01:(Sq Int)) (b02:BA) (b03:Bool) (b04 b05:BA) (b06:Bool) (b07:BA) (r1 r2:(Sq BA)):Option U0:=La n l b0 b01 b02 b03 b04 b05 b06 b07 r1 r2 some
theorem qE (n:Nat) {S:Type}:∀ l b0 b01 b02 b03 b04 b05 b06 b07 r1 r2 (φ:_→Option S),(Ba n l b0 b01 b02 b03 b04 b05 b06 b07 r1 r2).bind φ=La n l b0 b01 b02 b03 b04 b05 b06 b07 r1 r2 φ:=by
 intros;unfold Ba La;first | (simp only [fa,ba,iB,bB,oL,oX,nB,Option.bind_some]) | rfl
def Vl (n:Nat):Hint OutS:={ live:=fun c=>[],run:=fun c=>none,xm:=fun c q=>none,nb:=[(71,1,.frz (.int .i64)),(71,5,.prm 9),(71,8,.prm 9)] }
theorem jy (n:Nat):ua tys (da OutS (Li n)).keep (Vl n) n (aa Tryz.f35) 0:=ma (fun _=>rfl) _ _ (by kernel_rfl)
theorem Mz (n:Nat):Enters Tryz.prog 35:=enters_of (c:=aa Tryz.f35) Tryz.func35 (by kernel_rfl) (by kernel_rfl)
def Ro:List RSp:=[.one (.ptr 0 0 0),.one (.dat (.pair .str (.pair .bool .unit)))]
def Qo:List RS:=[.box 71 10 false [.dat .bool,.dat (.sl (.int .i64)),.dat .str,.dat .bool,.dat .str,.row 1,.dat .str,.dat .bool,.row 2,.dat .str],.row 9 1 .str true true,.row 9 1 .str true true]
def Nz:List Sl:=[.ptr 0 0 0,.top]
def Oz:List RSp:=[]
def af:List RS:=[.box 71 10 false [.dat .bool,.dat (.sl (.int .i64)),.dat .str,.dat .bool,.dat .str,.row 1,.dat .str,.dat .bool,.row 2,.dat .str],.row 9 1 .str true true,.row 9 1 .str true true]
def Jj (y:U0):OutS:=⟨false,Kl (Yb af ((y.1,(y.2.1,(y.2.2.1,(y.2.2.2.1,(y.2.2.2.2.1,(y.2.2.2.2.2.1,(y.2.2.2.2.2.2.1,(y.2.2.2.2.2.2.2.1,())))))))),(y.2.2.2.2.2.2.2.2.1,(y.2.2.2.2.2.2.2.2.2.1,())))) Nz (),Xu (Us (Yb af ((y.1,(y.2.1,(y.2.2.1,(y.2.2.2.1,(y.2.2.2.2.1,(y.2.2.2.2.2.1,(y.2.2.2.2.2.2.1,(y.2.2.2.2.2.2.2.1,())))))))),(y.2.2.2.2.2.2.2.2.1,(y.2.2.2.2.2.2.2.2.2.1,())))) Oz ()),ao (Yb af ((y.1,(y.2.1,(y.2.2.1,(y.2.2.2.1,(y.2.2.2.2.1,(y.2.2.2.2.2.1,(y.2.2.2.2.2.2.1,(y.2.2.2.2.2.2.2.1,())))))))),(y.2.2.2.2.2.2.2.2.1,(y.2.2.2.2.2.2.2.2.2.1,())))) af ((y.1,(y.2.1,(y.2.2.1,(y.2.2.2.1,(y.2.2.2.2.1,(y.2.2.2.2.2.1,(y.2.2.2.2.2.2.1,(y.2.2.2.2.2.2.2.1,())))))))),(y.2.2.2.2.2.2.2.2.1,(y.2.2.2.2.2.2.2.2.2.1,())))⟩
theorem oC (n:Nat):EntryOk Tryz.prog gl ⟨35,Re,none,some (csT Ro Qo (fun σ ρ=>Ba n σ.2.1.1 ρ.1.1 ρ.1.2.1 ρ.1.2.2.1 ρ.1.2.2.2.1 ρ.1.2.2.2.2.1 ρ.1.2.2.2.2.2.1 ρ.1.2.2.2.2.2.2.1 ρ.1.2.2.2.2.2.2.2.1 ρ.2.1 ρ.2.2.1) Jj)⟩:=
 Lc (Mz n) fun σ ρ y h=>Xa tys_ok (Lk n) mixed (hint:=Vl n) (n:=n) Tryz.func35 (Na (jy n)) (la (φ:=fun y=>some (Jj y)) (by kernel_rfl) (qE n σ.2.1.1 ρ.1.1 ρ.1.2.1 ρ.1.2.2.1 ρ.1.2.2.2.1 ρ.1.2.2.2.2.1 ρ.1.2.2.2.2.2.1 ρ.1.2.2.2.2.2.2.1 ρ.1.2.2.2.2.2.2.2.1 ρ.2.1 ρ.2.2.1 _) h)
def Jd (n:Nat):List Entry:=⟨35,Re,none,some (csT Ro Qo (fun σ ρ=>Ba n σ.2.1.1 ρ.1.1 ρ.1.2.1 ρ.1.2.2.1 ρ.1.2.2.2.1 ρ.1.2.2.2.2.1 ρ.1.2.2.2.2.2.1 ρ.1.2.2.2.2.2.2.1 ρ.1.2.2.2.2.2.2.2.1 ρ.2.1 ρ.2.2.1) Jj)⟩::Li n
theorem Pk (n:Nat):AllOk Tryz.prog gl (Jd n):=.cons (oC n) (Lk n)
def Ic (n:Nat) {R:Type} (t25:(Sq U2)) (t26 t27:Int) (p:Bool) (p1:(Sq Int)) (p2:BA) (p3:Bool) (p4 p5:BA) (p6:Bool) (p7:BA) (r11 r21:(Sq BA)) (kn:(Sq U2)→Int→Int→Bool→(Sq Int)→BA→Bool→BA→BA→Bool→BA→(Sq BA)→(Sq BA)→Option R) (ko:U8→Option R) (kr:Unit→Option R) (kp:Int→Option R):Option R:=
 if (decide (t27<t26))=true then
 if 0≤t27∧t27<(t25.n:Int) then
  (Ba n (((t25.at' (Int.toNat t27))).1,((((t25.at' (Int.toNat t27))).2).1,())) p p1 p2 p3 p4 p5 p6 p7 r11 r21).bind fun v1=>
  kn t25 t26 (IntKind.wrap .i64 (t27+(1:Int))) v1.1 v1.2.1 v1.2.2.1 v1.2.2.2.1 v1.2.2.2.2.1 v1.2.2.2.2.2.1 v1.2.2.2.2.2.2.1 v1.2.2.2.2.2.2.2.1 v1.2.2.2.2.2.2.2.2.1 v1.2.2.2.2.2.2.2.2.2.1
 else
  none
 else
 ko (p,p1,p2,p3,p4,p5,p6,p7,r11,r21)
def ab (n:Nat):Nat→(Sq U2)→Int→Int→Bool→(Sq Int)→BA→Bool→BA→BA→Bool→BA→(Sq BA)→(Sq BA)→Option (Lx U8 Unit)
 | 0,_,_,_,_,_,_,_,_,_,_,_,_,_=>none
 | m+1,t25,t26,t27,p,p1,p2,p3,p4,p5,p6,p7,r11,r21=>Ic n t25 t26 t27 p p1 p2 p3 p4 p5 p6 p7 r11 r21 (ab n m) (fun a=>some (.out a)) (fun a=>some (.ret a)) (fun p=>some (.pan p))
theorem Rx (n m:Nat) {S:Type}:∀ t25 t26 t27 p p1 p2 p3 p4 p5 p6 p7 r11 r21 (φ:_→Option S),(ab n (m+1) t25 t26 t27 p p1 p2 p3 p4 p5 p6 p7 r11 r21).bind φ=Ic n t25 t26 t27 p p1 p2 p3 p4 p5 p6 p7 r11 r21 (fun t25 t26 t27 p p1 p2 p3 p4 p5 p6 p7 r11 r21=>(ab n m t25 t26 t27 p p1 p2 p3 p4 p5 p6 p7 r11 r21).bind φ) (fun a=>φ (.out a)) (fun a=>φ (.ret a)) (fun p=>φ (.pan p)):=by
 intros;first | (simp only [ab,Ic,fa,ba,iB,bB,oL,oX,nB,Option.bind_some]) | rfl
def ig:List Sl:=.ptr 0 0 0::tp 24 (.dat (.sl (.pair .str (.pair .bool .unit)))::.dat (.int .i64)::.dat (.int .i64)::tp 11 [])
def gg:List RS:=[.box 71 10 false [.dat .bool,.dat (.sl (.int .i64)),.dat .str,.dat .bool,.dat .str,.row 1,.dat .str,.dat .bool,.row 2,.dat .str],.row 9 1 .str true true,.row 9 1 .str true true,.ghost [.ptr 0 0 0,.top]]
def Uq:List Sl:=.ptr 0 0 0::tp 38 []
def Tq:List RS:=[.box 71 10 false [.dat .bool,.dat (.sl (.int .i64)),.dat .str,.dat .bool,.dat .str,.row 1,.dat .str,.dat .bool,.row 2,.dat .str],.row 9 1 .str true true,.row 9 1 .str true true,.ghost [.ptr 0 0 0,.top]]
def Eb (K:XE→List AV→ia→Option OutS):Lx U8 Unit→Option OutS:=fun x=>onL x (fun a=>Bk Uq Tq () ((a.1,(a.2.1,(a.2.2.1,(a.2.2.2.1,(a.2.2.2.2.1,(a.2.2.2.2.2.1,(a.2.2.2.2.2.2.1,(a.2.2.2.2.2.2.2.1,())))))))),(a.2.2.2.2.2.2.2.2.1,(a.2.2.2.2.2.2.2.2.2,((),())))) (K (.exit 0))) (fun _=>none) (fun _=>none)
def de (n:Nat) {R:Type} (b0:Bool) (b01:(Sq Int)) (b02:BA) (b03:Bool) (b04 b05:BA) (b06:Bool) (b07:BA) (r1:(Sq Int)) (r2 r3:(Sq BA)) (k:U4→Option R):Option R:=
 (yn n (b02,(b03,())) r1).bind fun v=>
 (ab n n v.2.1 (v.2.1.n:Int) (0:Int) b0 b01 v.1.1 v.1.2.1 b04 b05 b06 (⟨#[]⟩:BA) r2 r3).bind fun x_1=>onL x_1
 (fun a_2=>
  k (a_2.2.2.2.2.2.2.2.1,(a_2.1,(a_2.2.1,(a_2.2.2.1,(a_2.2.2.2.1,(a_2.2.2.2.2.1,(a_2.2.2.2.2.2.1,(a_2.2.2.2.2.2.2.1,(a_2.2.2.2.2.2.2.2.1,(a_2.2.2.2.2.2.2.2.2.1,(a_2.2.2.2.2.2.2.2.2.2,()))))))))))))
 (fun _=>none)
 (fun _=>none)
def ic (n:Nat) (b0:Bool) (b01:(Sq Int)) (b02:BA) (b03:Bool) (b04 b05:BA) (b06:Bool) (b07:BA) (r1:(Sq Int)) (r2 r3:(Sq BA)):Option U4:=de n b0 b01 b02 b03 b04 b05 b06 b07 r1 r2 r3 some
theorem kE (n:Nat) {S:Type}:∀ b0 b01 b02 b03 b04 b05 b06 b07 r1 r2 r3 (φ:_→Option S),(ic n b0 b01 b02 b03 b04 b05 b06 b07 r1 r2 r3).bind φ=de n b0 b01 b02 b03 b04 b05 b06 b07 r1 r2 r3 φ:=by
 intros;unfold ic de;first | (simp only [fa,ba,iB,bB,oL,oX,nB,Option.bind_some]) | rfl
def se (n:Nat):Hint OutS:={ live:=fun c=>(cond (Nat.beq c 0) [(0,none),(25,some (.sl (.pair .str (.pair .bool .unit)))),(26,none),(27,none)] []),run:=fun c=>(cond (Nat.beq c 0) (some (Ms ig gg fun σ ρ K=>(ab n n σ.1 σ.2.1 σ.2.2.1 ρ.1.1 ρ.1.2.1 ρ.1.2.2.1 ρ.1.2.2.2.1 ρ.1.2.2.2.2.1 ρ.1.2.2.2.2.2.1 ρ.1.2.2.2.2.2.2.1 ρ.1.2.2.2.2.2.2.2.1 ρ.2.1 ρ.2.2.1).bind (Eb K))) none),xm:=fun c q=>(cond (Nat.beq c 0&&Nat.beq (q.getD 1000000) 0&&q.isSome) (some [(0,none)]) none),nb:=[(71,1,.frz (.int .i64)),(71,5,.prm 9),(71,8,.prm 9)],na:=true }
def qe (n:Nat) (K:XE→List AV→ia→Option OutS) (m:Nat) (t25:(Sq U2)) (t26:Int) (t27:Int) (p:Bool) (p1:(Sq Int)) (p2:BA) (p3:Bool) (p4:BA) (p5:BA) (p6:Bool) (p7:BA) (r11:(Sq BA)) (r21:(Sq BA)):Option OutS:=Ef tys (da OutS (Jd n)).keep (se n) n (Fa [1,1,1,0,1,0,0] (aa Tryz.f14)) 0 ig gg K m (t25,(t26,(t27,()))) ((p,(p1,(p2,(p3,(p4,(p5,(p6,(p7,())))))))),(r11,(r21,((),()))))
theorem Ol (n:Nat) (K:XE→List AV→ia→Option OutS):∀ (m:Nat) t25 t26 t27 p p1 p2 p3 p4 p5 p6 p7 r11 r21,qe n K m t25 t26 t27 p p1 p2 p3 p4 p5 p6 p7 r11 r21=(ab n m t25 t26 t27 p p1 p2 p3 p4 p5 p6 p7 r11 r21).bind (Eb K)
 | 0,_,_,_,_,_,_,_,_,_,_,_,_,_=>by kernel_rfl
 | m+1,t25,t26,t27,p,p1,p2,p3,p4,p5,p6,p7,r11,r21=>by
  have h1:qe n K (m+1) t25 t26 t27 p p1 p2 p3 p4 p5 p6 p7 r11 r21=Ic n t25 t26 t27 p p1 p2 p3 p4 p5 p6 p7 r11 r21 (qe n K m) (fun a=>Eb K (.out a)) (fun a=>Eb K (.ret a)) (fun p=>Eb K (.pan p)):=by kernel_rfl
  have h2:qe n K m=fun t25 t26 t27 p p1 p2 p3 p4 p5 p6 p7 r11 r21=>(ab n m t25 t26 t27 p p1 p2 p3 p4 p5 p6 p7 r11 r21).bind (Eb K):=by
   repeat (refine funext fun _=>?_)
   exact Ol n K m _ _ _ _ _ _ _ _ _ _ _ _ _
  rw [h1,h2];exact (Rx n m _ _ _ _ _ _ _ _ _ _ _ _ _ (Eb K)).symm
theorem Aw (n:Nat):Pe tys (da OutS (Jd n)).keep (se n) n (Fa [1,1,1,0,1,0,0] (aa Tryz.f14)) 0:=Qa (sp:=ig) (rp:=gg) (by kernel_rfl) fun K σ ρ=>Ol n K n σ.1 σ.2.1 σ.2.2.1 ρ.1.1 ρ.1.2.1 ρ.1.2.2.1 ρ.1.2.2.2.1 ρ.1.2.2.2.2.1 ρ.1.2.2.2.2.2.1 ρ.1.2.2.2.2.2.2.1 ρ.1.2.2.2.2.2.2.2.1 ρ.2.1 ρ.2.2.1
theorem Sx (n:Nat):ua tys (da OutS (Jd n)).keep (se n) n (aa Tryz.f14) 0:=⟨trivial,⟨trivial,⟨trivial,⟨⟨trivial,⟨Aw n,⟨trivial,⟨⟨trivial,trivial⟩,⟨⟨trivial,trivial⟩,trivial⟩⟩⟩⟩⟩,⟨trivial,trivial⟩⟩⟩⟩⟩
theorem oz (n:Nat):Enters Tryz.prog 14:=enters_of (c:=aa Tryz.f14) Tryz.func14 (by kernel_rfl) (by kernel_rfl)
def Eo:List RSp:=[.one (.ptr 0 0 0),.one (.row 1)]
def Co:List RS:=[.box 71 10 false [.dat .bool,.dat (.sl (.int .i64)),.dat .str,.dat .bool,.dat .str,.row 2,.dat .str,.dat .bool,.row 3,.dat .str],.row 5 1 (.int .u8) false true,.row 9 1 .str true true,.row 9 1 .str true true]
def pz:List Sl:=[.ptr 0 0 0,.top]
def qz:List RSp:=[.one (.dat .str)]
def Ue:List RS:=[.box 71 10 false [.dat .bool,.dat (.sl (.int .i64)),.dat .str,.dat .bool,.dat .str,.row 1,.dat .str,.dat .bool,.row 2,.dat .str],.row 9 1 .str true true,.row 9 1 .str true true]
def Bj (y:U4):OutS:=⟨false,Kl (Yb Ue ((y.2.1,(y.2.2.1,(y.2.2.2.1,(y.2.2.2.2.1,(y.2.2.2.2.2.1,(y.2.2.2.2.2.2.1,(y.2.2.2.2.2.2.2.1,(y.2.2.2.2.2.2.2.2.1,())))))))),(y.2.2.2.2.2.2.2.2.2.1,(y.2.2.2.2.2.2.2.2.2.2.1,())))) pz (),Xu (Us (Yb Ue ((y.2.1,(y.2.2.1,(y.2.2.2.1,(y.2.2.2.2.1,(y.2.2.2.2.2.1,(y.2.2.2.2.2.2.1,(y.2.2.2.2.2.2.2.1,(y.2.2.2.2.2.2.2.2.1,())))))))),(y.2.2.2.2.2.2.2.2.2.1,(y.2.2.2.2.2.2.2.2.2.2.1,())))) qz ((y.1,()),())),ao (Yb Ue ((y.2.1,(y.2.2.1,(y.2.2.2.1,(y.2.2.2.2.1,(y.2.2.2.2.2.1,(y.2.2.2.2.2.2.1,(y.2.2.2.2.2.2.2.1,(y.2.2.2.2.2.2.2.2.1,())))))))),(y.2.2.2.2.2.2.2.2.2.1,(y.2.2.2.2.2.2.2.2.2.2.1,())))) Ue ((y.2.1,(y.2.2.1,(y.2.2.2.1,(y.2.2.2.2.1,(y.2.2.2.2.2.1,(y.2.2.2.2.2.2.1,(y.2.2.2.2.2.2.2.1,(y.2.2.2.2.2.2.2.2.1,())))))))),(y.2.2.2.2.2.2.2.2.2.1,(y.2.2.2.2.2.2.2.2.2.2.1,())))⟩
theorem fC (n:Nat):EntryOk Tryz.prog gl ⟨14,Re,none,some (csT Eo Co (fun σ ρ=>ic n ρ.1.1 ρ.1.2.1 ρ.1.2.2.1 ρ.1.2.2.2.1 ρ.1.2.2.2.2.1 ρ.1.2.2.2.2.2.1 ρ.1.2.2.2.2.2.2.1 ρ.1.2.2.2.2.2.2.2.1 ρ.2.1 ρ.2.2.1 ρ.2.2.2.1) Bj)⟩:=
 Lc (oz n) fun σ ρ y h=>Xa tys_ok (Pk n) mixed (hint:=se n) (n:=n) Tryz.func14 (Na (Sx n)) (la (φ:=fun y=>some (Bj y)) (by kernel_rfl) (kE n ρ.1.1 ρ.1.2.1 ρ.1.2.2.1 ρ.1.2.2.2.1 ρ.1.2.2.2.2.1 ρ.1.2.2.2.2.2.1 ρ.1.2.2.2.2.2.2.1 ρ.1.2.2.2.2.2.2.2.1 ρ.2.1 ρ.2.2.1 ρ.2.2.2.1 _) h)
def Bo (n:Nat):List Entry:=⟨14,Re,none,some (csT Eo Co (fun σ ρ=>ic n ρ.1.1 ρ.1.2.1 ρ.1.2.2.1 ρ.1.2.2.2.1 ρ.1.2.2.2.2.1 ρ.1.2.2.2.2.2.1 ρ.1.2.2.2.2.2.2.1 ρ.1.2.2.2.2.2.2.2.1 ρ.2.1 ρ.2.2.1 ρ.2.2.2.1) Bj)⟩::Jd n
theorem Bw (n:Nat):AllOk Tryz.prog gl (Bo n):=.cons (fC n) (Pk n)
def Fd (n:Nat):List Entry:=Zg::Bo n
theorem Df (n:Nat):AllOk Tryz.prog gl (Fd n):=.cons vo (Bw n)
def lh (n:Nat) {R:Type} (b0:Bool) (b01:(Sq Int)) (b02:BA) (b03:Bool) (b04 b05:BA) (b06:Bool) (b07:BA) (r1 r2:(Sq BA)) (k:U11→Option R):Option R:=
 (sx 16 r2).bind fun v=>
 k (b0,(b01,(b02,(b03,(b04,(b05,(b06,(b07,(v.1,(r1,(r2,())))))))))))
def Zb (n:Nat) (b0:Bool) (b01:(Sq Int)) (b02:BA) (b03:Bool) (b04 b05:BA) (b06:Bool) (b07:BA) (r1 r2:(Sq BA)):Option U11:=lh n b0 b01 b02 b03 b04 b05 b06 b07 r1 r2 some
theorem gG (n:Nat) {S:Type}:∀ b0 b01 b02 b03 b04 b05 b06 b07 r1 r2 (φ:_→Option S),(Zb n b0 b01 b02 b03 b04 b05 b06 b07 r1 r2).bind φ=lh n b0 b01 b02 b03 b04 b05 b06 b07 r1 r2 φ:=by
 intros;unfold Zb lh;first | (simp only [fa,ba,iB,bB,oL,oX,nB,Option.bind_some]) | rfl
def Bn (n:Nat):Hint OutS:={ live:=fun c=>[],run:=fun c=>none,xm:=fun c q=>none }
theorem lz (n:Nat):ua tys ((da OutS (Fd n)).view [32,38,80]) (Bn n) n (aa Tryz.f17) 0:=ma (fun _=>rfl) _ _ (by kernel_rfl)
theorem bC (n:Nat):Enters Tryz.prog 17:=enters_of (c:=aa Tryz.f17) Tryz.func17 (by kernel_rfl) (by kernel_rfl)
def Rq:List RSp:=[.one (.ptr 0 0 0)]
def Qq:List RS:=[.box 71 10 false [.dat .bool,.dat (.sl (.int .i64)),.dat .str,.dat .bool,.dat .str,.row 1,.dat .str,.dat .bool,.row 2,.dat .str],.row 9 1 .str true true,.row 9 1 .str true true]
def cC:List Sl:=[.ptr 0 0 0]
def dC:List RSp:=[.one (.row 1)]
def Ff:List RS:=[.box 71 10 false [.dat .bool,.dat (.sl (.int .i64)),.dat .str,.dat .bool,.dat .str,.row 2,.dat .str,.dat .bool,.row 3,.dat .str],.row 9 1 .str true true,.row 9 1 .str true true,.row 9 1 .str true true]
def Ek (y:U11):OutS:=⟨false,Kl (Yb Ff ((y.1,(y.2.1,(y.2.2.1,(y.2.2.2.1,(y.2.2.2.2.1,(y.2.2.2.2.2.1,(y.2.2.2.2.2.2.1,(y.2.2.2.2.2.2.2.1,())))))))),(y.2.2.2.2.2.2.2.2.1,(y.2.2.2.2.2.2.2.2.2.1,(y.2.2.2.2.2.2.2.2.2.2.1,()))))) cC (),Xu (Us (Yb Ff ((y.1,(y.2.1,(y.2.2.1,(y.2.2.2.1,(y.2.2.2.2.1,(y.2.2.2.2.2.1,(y.2.2.2.2.2.2.1,(y.2.2.2.2.2.2.2.1,())))))))),(y.2.2.2.2.2.2.2.2.1,(y.2.2.2.2.2.2.2.2.2.1,(y.2.2.2.2.2.2.2.2.2.2.1,()))))) dC ((),())),ao (Yb Ff ((y.1,(y.2.1,(y.2.2.1,(y.2.2.2.1,(y.2.2.2.2.1,(y.2.2.2.2.2.1,(y.2.2.2.2.2.2.1,(y.2.2.2.2.2.2.2.1,())))))))),(y.2.2.2.2.2.2.2.2.1,(y.2.2.2.2.2.2.2.2.2.1,(y.2.2.2.2.2.2.2.2.2.2.1,()))))) Ff ((y.1,(y.2.1,(y.2.2.1,(y.2.2.2.1,(y.2.2.2.2.1,(y.2.2.2.2.2.1,(y.2.2.2.2.2.2.1,(y.2.2.2.2.2.2.2.1,())))))))),(y.2.2.2.2.2.2.2.2.1,(y.2.2.2.2.2.2.2.2.2.1,(y.2.2.2.2.2.2.2.2.2.2.1,()))))⟩
theorem jE (n:Nat):EntryOk Tryz.prog gl ⟨17,Re,none,some (csT Rq Qq (fun σ ρ=>Zb n ρ.1.1 ρ.1.2.1 ρ.1.2.2.1 ρ.1.2.2.2.1 ρ.1.2.2.2.2.1 ρ.1.2.2.2.2.2.1 ρ.1.2.2.2.2.2.2.1 ρ.1.2.2.2.2.2.2.2.1 ρ.2.1 ρ.2.2.1) Ek)⟩:=
 Lc (bC n) fun σ ρ y h=>sL tys_ok (Df n) mixed (hint:=Bn n) (n:=n) Tryz.func17 (Na (lz n)) (la (φ:=fun y=>some (Ek y)) (by kernel_rfl) (gG n ρ.1.1 ρ.1.2.1 ρ.1.2.2.1 ρ.1.2.2.2.1 ρ.1.2.2.2.2.1 ρ.1.2.2.2.2.2.1 ρ.1.2.2.2.2.2.2.1 ρ.1.2.2.2.2.2.2.2.1 ρ.2.1 ρ.2.2.1 _) h)
def be (n:Nat):List Entry:=⟨17,Re,none,some (csT Rq Qq (fun σ ρ=>Zb n ρ.1.1 ρ.1.2.1 ρ.1.2.2.1 ρ.1.2.2.2.1 ρ.1.2.2.2.2.1 ρ.1.2.2.2.2.2.1 ρ.1.2.2.2.2.2.2.1 ρ.1.2.2.2.2.2.2.2.1 ρ.2.1 ρ.2.2.1) Ek)⟩::Fd n
theorem Ll (n:Nat):AllOk Tryz.prog gl (be n):=.cons (jE n) (Df n)
def Pf (n:Nat) {R:Type} (a1 b1:(Sq BA)) (i:Int) (kn:(Sq BA)→(Sq BA)→Int→Option R) (ko:(Unit)→Option R) (kr:(Bool)→Option R) (kp:Int→Option R):Option R:=
 if (decide (i<(a1.n:Int)))=true then
 if 0≤i∧i<(a1.n:Int) then
  if 0≤i∧i<(b1.n:Int) then
  if (!((a1.at' (Int.toNat i)).toList==(b1.at' (Int.toNat i)).toList))=true then
   kr false
  else
   kn a1 b1 (IntKind.wrap .i64 (i+(1:Int)))
  else
  none
 else
  none
 else
 ko ()
def Lb (n:Nat):Nat→(Sq BA)→(Sq BA)→Int→Option (Lx (Unit) (Bool))
 | 0,_,_,_=>none
 | m+1,a1,b1,i=>Pf n a1 b1 i (Lb n m) (fun a=>some (.out a)) (fun a=>some (.ret a)) (fun p=>some (.pan p))
theorem zI (n m:Nat) {S:Type}:∀ a1 b1 i (φ:_→Option S),(Lb n (m+1) a1 b1 i).bind φ=Pf n a1 b1 i (fun a1 b1 i=>(Lb n m a1 b1 i).bind φ) (fun a=>φ (.out a)) (fun a=>φ (.ret a)) (fun p=>φ (.pan p)):=by
 intros;first | (simp only [Lb,Pf,fa,ba,iB,bB,oL,oX,nB,Option.bind_some]) | rfl
def wl:List Sl:=.dat (.sl .str)::.dat (.sl .str)::.top::.top::.top::.dat (.int .i64)::tp 20 []
def vl:List RS:=[]
def Ay:List Sl:=tp 26 []
def zy:List RS:=[]
def Cy:List Sl:=tp 4 (.dat .bool::tp 21 [])
def By:List RS:=[]
def Xc (K:XE→List AV→ia→Option Out):Lx (Unit) (Bool)→Option Out:=fun x=>onL x (fun a=>Bk Ay zy () () (K (.exit 0))) (fun a=>Bk Cy By (a,()) () (K .ret)) (fun _=>none)
def Wm (n:Nat) {R:Type} (a b:(Sq BA)) (k:Bool→Option R):Option R:=
 if ((a.n:Int) !=(b.n:Int))=true then
 k false
 else
 (Lb n n a b (0:Int)).bind fun x_1=>onL x_1
  (fun a_2=>
  k true)
  (fun a_3=>
  k a_3)
  (fun _=>none)
def Lh (n:Nat) (a b:(Sq BA)):Option Bool:=Wm n a b some
theorem YN (n:Nat) {S:Type}:∀ a b (φ:_→Option S),(Lh n a b).bind φ=Wm n a b φ:=by
 intros;unfold Lh Wm;first | (simp only [fa,ba,iB,bB,oL,oX,nB,Option.bind_some]) | rfl
def ei (n:Nat):Hint Out:={ live:=fun c=>(cond (Nat.beq c 0) [(0,some (.sl .str)),(1,some (.sl .str)),(5,none)] []),run:=fun c=>(cond (Nat.beq c 0) (some (Ms wl vl fun σ ρ K=>(Lb n n σ.1 σ.2.1 σ.2.2.1).bind (Xc K))) none),xm:=fun c q=>(cond (Nat.beq c 0&&Nat.beq (q.getD 1000000) 0&&q.isSome) (some []) (cond (Nat.beq c 1&&q.isNone) (some [(4,none)]) none)) }
def di (n:Nat) (K:XE→List AV→ia→Option Out) (m:Nat) (a1:(Sq BA)) (b1:(Sq BA)) (i:Int):Option Out:=Ef tys (da Out (be n)) (ei n) n (Fa [1,1,0,1,0,0] (aa Tryz.f18)) 0 wl vl K m (a1,(b1,(i,()))) ()
theorem Kv (n:Nat) (K:XE→List AV→ia→Option Out):∀ (m:Nat) a1 b1 i,di n K m a1 b1 i=(Lb n m a1 b1 i).bind (Xc K)
 | 0,_,_,_=>by kernel_rfl
 | m+1,a1,b1,i=>by
  have h1:di n K (m+1) a1 b1 i=Pf n a1 b1 i (di n K m) (fun a=>Xc K (.out a)) (fun a=>Xc K (.ret a)) (fun p=>Xc K (.pan p)):=by kernel_rfl
  have h2:di n K m=fun a1 b1 i=>(Lb n m a1 b1 i).bind (Xc K):=by
   repeat (refine funext fun _=>?_)
   exact Kv n K m _ _ _
  rw [h1,h2];exact (zI n m _ _ _ (Xc K)).symm
theorem tG (n:Nat):Pe tys (da Out (be n)) (ei n) n (Fa [1,1,0,1,0,0] (aa Tryz.f18)) 0:=Qa (sp:=wl) (rp:=vl) (by kernel_rfl) fun K σ ρ=>Kv n K n σ.1 σ.2.1 σ.2.2.1
theorem AI (n:Nat):ua tys (da Out (be n)) (ei n) n (aa Tryz.f18) 0:=⟨trivial,⟨⟨trivial,⟨⟨trivial,trivial⟩,trivial⟩⟩,⟨⟨trivial,⟨tG n,⟨⟨trivial,⟨trivial,trivial⟩⟩,⟨⟨trivial,⟨⟨trivial,trivial⟩,trivial⟩⟩,trivial⟩⟩⟩⟩,⟨trivial,trivial⟩⟩⟩⟩
theorem rK (n:Nat):Enters Tryz.prog 18:=enters_of (c:=aa Tryz.f18) Tryz.func18 (by kernel_rfl) (by kernel_rfl)
def tA (n:Nat):Entry:=⟨18,pcT (.pair (.sl .str) (.pair (.sl .str) .unit)) (.one .bool) (fun xs=>Lh n xs.1 xs.2.1),none,none⟩
theorem jM (n:Nat):EntryOk Tryz.prog gl (tA n):=
 Oa (rK n) fun xs y h=>ra tys_ok (Ll n) mixed (hint:=ei n) (n:=n) Tryz.func18 (Na (AI n)) (la (φ:=(fun y=>some (Out.ret (Kf (.one .bool) y)))) (by kernel_rfl) (YN n xs.1 xs.2.1 _) h)
def Gr (n:Nat):List Entry:=tA n::be n
theorem mt (n:Nat):AllOk Tryz.prog gl (Gr n):=.cons (jM n) (Ll n)
def Jp (n:Nat) {R:Type} (lmtp:Bool) (refuse:(Sq Int)) (k:U0→Option R):Option R:=
 (sx 8 refuse).bind fun v=>
 k (lmtp,(v.1,((⟨#[]⟩:BA),(false,((⟨#[]⟩:BA),((⟨#[]⟩:BA),(false,((⟨#[]⟩:BA),((⟨0,fun _=>Aa .str⟩:Sq BA),((⟨0,fun _=>Aa .str⟩:Sq BA),()))))))))))
def fg (n:Nat) (lmtp:Bool) (refuse:(Sq Int)):Option U0:=Jp n lmtp refuse some
theorem cQ (n:Nat) {S:Type}:∀ lmtp refuse (φ:_→Option S),(fg n lmtp refuse).bind φ=Jp n lmtp refuse φ:=by
 intros;unfold fg Jp;first | (simp only [fa,ba,iB,bB,oL,oX,nB,Option.bind_some]) | rfl
def Ax (n:Nat):Hint OutS:={ live:=fun c=>[],run:=fun c=>none,xm:=fun c q=>none,nb:=[(71,1,.frz (.int .i64)),(71,5,.prm 9),(71,8,.prm 9)],na:=true }
theorem mK (n:Nat):ua tys (da OutS (Gr n)).keep (Ax n) n (aa Tryz.f9) 0:=ma (fun _=>rfl) _ _ (by kernel_rfl)
theorem WL (n:Nat):Enters Tryz.prog 9:=enters_of (c:=aa Tryz.f9) Tryz.func9 (by kernel_rfl) (by kernel_rfl)
def qD:List RSp:=[.one (.dat .bool),.one (.dat (.sl (.int .i64)))]
def pD:List RS:=[]
def XL:List Sl:=[.top,.top]
def YL:List RSp:=[.one (.ptr 0 0 0)]
def Dk:List RS:=[.box 71 10 false [.dat .bool,.dat (.sl (.int .i64)),.dat .str,.dat .bool,.dat .str,.row 1,.dat .str,.dat .bool,.row 2,.dat .str],.row 9 1 .str true true,.row 9 1 .str true true]
def uw (y:U0):OutS:=⟨false,Kl (Yb Dk ((y.1,(y.2.1,(y.2.2.1,(y.2.2.2.1,(y.2.2.2.2.1,(y.2.2.2.2.2.1,(y.2.2.2.2.2.2.1,(y.2.2.2.2.2.2.2.1,())))))))),(y.2.2.2.2.2.2.2.2.1,(y.2.2.2.2.2.2.2.2.2.1,())))) XL (),Xu (Us (Yb Dk ((y.1,(y.2.1,(y.2.2.1,(y.2.2.2.1,(y.2.2.2.2.1,(y.2.2.2.2.2.1,(y.2.2.2.2.2.2.1,(y.2.2.2.2.2.2.2.1,())))))))),(y.2.2.2.2.2.2.2.2.1,(y.2.2.2.2.2.2.2.2.2.1,())))) YL ((),())),ao (Yb Dk ((y.1,(y.2.1,(y.2.2.1,(y.2.2.2.1,(y.2.2.2.2.1,(y.2.2.2.2.2.1,(y.2.2.2.2.2.2.1,(y.2.2.2.2.2.2.2.1,())))))))),(y.2.2.2.2.2.2.2.2.1,(y.2.2.2.2.2.2.2.2.2.1,())))) Dk ((y.1,(y.2.1,(y.2.2.1,(y.2.2.2.1,(y.2.2.2.2.1,(y.2.2.2.2.2.1,(y.2.2.2.2.2.2.1,(y.2.2.2.2.2.2.2.1,())))))))),(y.2.2.2.2.2.2.2.2.1,(y.2.2.2.2.2.2.2.2.2.1,())))⟩
theorem SN (n:Nat):EntryOk Tryz.prog gl ⟨9,Re,none,some (csT qD pD (fun σ ρ=>fg n σ.1.1 σ.2.1.1) uw)⟩:=
 Lc (WL n) fun σ ρ y h=>Xa tys_ok (mt n) mixed (hint:=Ax n) (n:=n) Tryz.func9 (Na (mK n)) (la (φ:=fun y=>some (uw y)) (by kernel_rfl) (cQ n σ.1.1 σ.2.1.1 _) h)
def iu (n:Nat):List Entry:=⟨9,Re,none,some (csT qD pD (fun σ ρ=>fg n σ.1.1 σ.2.1.1) uw)⟩::Gr n
theorem wv (n:Nat):AllOk Tryz.prog gl (iu n):=.cons (SN n) (mt n)
def Se (n:Nat) {R:Type} (b0:Bool) (b01:(Sq Int)) (b02:BA) (b03:Bool) (b04 b05:BA) (b06:Bool) (b07:BA) (r1 r2:(Sq BA)) (k:U4→Option R):Option R:=
 (wd n (220:Int)).bind fun v=>
 k (v,(b0,(b01,(b02,(b03,(b04,(b05,(b06,(b07,(r1,(r2,())))))))))))
def rb (n:Nat) (b0:Bool) (b01:(Sq Int)) (b02:BA) (b03:Bool) (b04 b05:BA) (b06:Bool) (b07:BA) (r1 r2:(Sq BA)):Option U4:=Se n b0 b01 b02 b03 b04 b05 b06 b07 r1 r2 some
theorem mz (n:Nat) {S:Type}:∀ b0 b01 b02 b03 b04 b05 b06 b07 r1 r2 (φ:_→Option S),(rb n b0 b01 b02 b03 b04 b05 b06 b07 r1 r2).bind φ=Se n b0 b01 b02 b03 b04 b05 b06 b07 r1 r2 φ:=by
 intros;unfold rb Se;first | (simp only [fa,ba,iB,bB,oL,oX,nB,Option.bind_some]) | rfl
def ek (n:Nat):Hint OutS:={ live:=fun c=>[],run:=fun c=>none,xm:=fun c q=>none,nb:=[(71,1,.frz (.int .i64)),(71,5,.prm 9),(71,8,.prm 9)] }
theorem xv (n:Nat):ua tys (da OutS (iu n)).keep (ek n) n (aa Tryz.f11) 0:=ma (fun _=>rfl) _ _ (by kernel_rfl)
theorem ww (n:Nat):Enters Tryz.prog 11:=enters_of (c:=aa Tryz.f11) Tryz.func11 (by kernel_rfl) (by kernel_rfl)
def Nl:List RSp:=[.one (.ptr 0 0 0)]
def Ml:List RS:=[.box 71 10 false [.dat .bool,.dat (.sl (.int .i64)),.dat .str,.dat .bool,.dat .str,.row 1,.dat .str,.dat .bool,.row 2,.dat .str],.row 9 1 .str true true,.row 9 1 .str true true]
def xw:List Sl:=[.ptr 0 0 0]
def yw:List RSp:=[.one (.dat .str)]
def Nd:List RS:=[.box 71 10 false [.dat .bool,.dat (.sl (.int .i64)),.dat .str,.dat .bool,.dat .str,.row 1,.dat .str,.dat .bool,.row 2,.dat .str],.row 9 1 .str true true,.row 9 1 .str true true]
def Eh (y:U4):OutS:=⟨false,Kl (Yb Nd ((y.2.1,(y.2.2.1,(y.2.2.2.1,(y.2.2.2.2.1,(y.2.2.2.2.2.1,(y.2.2.2.2.2.2.1,(y.2.2.2.2.2.2.2.1,(y.2.2.2.2.2.2.2.2.1,())))))))),(y.2.2.2.2.2.2.2.2.2.1,(y.2.2.2.2.2.2.2.2.2.2.1,())))) xw (),Xu (Us (Yb Nd ((y.2.1,(y.2.2.1,(y.2.2.2.1,(y.2.2.2.2.1,(y.2.2.2.2.2.1,(y.2.2.2.2.2.2.1,(y.2.2.2.2.2.2.2.1,(y.2.2.2.2.2.2.2.2.1,())))))))),(y.2.2.2.2.2.2.2.2.2.1,(y.2.2.2.2.2.2.2.2.2.2.1,())))) yw ((y.1,()),())),ao (Yb Nd ((y.2.1,(y.2.2.1,(y.2.2.2.1,(y.2.2.2.2.1,(y.2.2.2.2.2.1,(y.2.2.2.2.2.2.1,(y.2.2.2.2.2.2.2.1,(y.2.2.2.2.2.2.2.2.1,())))))))),(y.2.2.2.2.2.2.2.2.2.1,(y.2.2.2.2.2.2.2.2.2.2.1,())))) Nd ((y.2.1,(y.2.2.1,(y.2.2.2.1,(y.2.2.2.2.1,(y.2.2.2.2.2.1,(y.2.2.2.2.2.2.1,(y.2.2.2.2.2.2.2.1,(y.2.2.2.2.2.2.2.2.1,())))))))),(y.2.2.2.2.2.2.2.2.2.1,(y.2.2.2.2.2.2.2.2.2.2.1,())))⟩
theorem Qx (n:Nat):EntryOk Tryz.prog gl ⟨11,Re,none,some (csT Nl Ml (fun σ ρ=>rb n ρ.1.1 ρ.1.2.1 ρ.1.2.2.1 ρ.1.2.2.2.1 ρ.1.2.2.2.2.1 ρ.1.2.2.2.2.2.1 ρ.1.2.2.2.2.2.2.1 ρ.1.2.2.2.2.2.2.2.1 ρ.2.1 ρ.2.2.1) Eh)⟩:=
 Lc (ww n) fun σ ρ y h=>Xa tys_ok (wv n) mixed (hint:=ek n) (n:=n) Tryz.func11 (Na (xv n)) (la (φ:=fun y=>some (Eh y)) (by kernel_rfl) (mz n ρ.1.1 ρ.1.2.1 ρ.1.2.2.1 ρ.1.2.2.2.1 ρ.1.2.2.2.2.1 ρ.1.2.2.2.2.2.1 ρ.1.2.2.2.2.2.2.1 ρ.1.2.2.2.2.2.2.2.1 ρ.2.1 ρ.2.2.1 _) h)
def eh (n:Nat):List Entry:=⟨11,Re,none,some (csT Nl Ml (fun σ ρ=>rb n ρ.1.1 ρ.1.2.1 ρ.1.2.2.1 ρ.1.2.2.2.1 ρ.1.2.2.2.2.1 ρ.1.2.2.2.2.2.1 ρ.1.2.2.2.2.2.2.1 ρ.1.2.2.2.2.2.2.2.1 ρ.2.1 ρ.2.2.1) Eh)⟩::iu n
theorem dj (n:Nat):AllOk Tryz.prog gl (eh n):=.cons (Qx n) (wv n)
def ef (n:Nat) {R:Type} (k:Bool→Option R):Option R:=
 (fg n false (⟨0,fun _=>Aa (.int .i64)⟩:Sq Int)).bind fun v=>
 (rb n v.1 v.2.1 v.2.2.1 v.2.2.2.1 v.2.2.2.2.1 v.2.2.2.2.2.1 v.2.2.2.2.2.2.1 v.2.2.2.2.2.2.2.1 v.2.2.2.2.2.2.2.2.1 v.2.2.2.2.2.2.2.2.2.1).bind fun v1=>
 if (v1.1.toList==(⟨#[50,50,48,32,104,101,114,101,13,10]⟩:BA).toList)=true then
 (ic n v1.2.1 v1.2.2.1 v1.2.2.2.1 v1.2.2.2.2.1 v1.2.2.2.2.2.1 v1.2.2.2.2.2.2.1 v1.2.2.2.2.2.2.2.1 v1.2.2.2.2.2.2.2.2.1 (⟨6,fun q=>List.getD (α:=Int) [(81:Int),(85:Int),(73:Int),(84:Int),(13:Int),(10:Int)] q (Aa (.int .u8))⟩:Sq Int) v1.2.2.2.2.2.2.2.2.2.1 v1.2.2.2.2.2.2.2.2.2.2.1).bind fun v2=>
 k (v2.1.toList==(⟨#[50,50,49,32,98,121,101,13,10]⟩:BA).toList)
 else
 k false
def ac (n:Nat):Option Bool:=ef n some
theorem mG (n:Nat) {S:Type}:∀ (φ:_→Option S),(ac n).bind φ=ef n φ:=by
 intros;unfold ac ef;first | (simp only [fa,ba,iB,bB,oL,oX,nB,Option.bind_some]) | rfl
def Qn (n:Nat):Hint Out:={ live:=fun c=>[],run:=fun c=>none,xm:=fun c q=>none }
theorem gA (n:Nat):ua tys (da Out (eh n)) (Qn n) n (aa Tryz.f21) 0:=ma (fun _=>rfl) _ _ (by kernel_rfl)
theorem zC (n:Nat):Enters Tryz.prog 21:=enters_of (c:=aa Tryz.f21) Tryz.func21 (by kernel_rfl) (by kernel_rfl)
def ir (n:Nat):Entry:=⟨21,pcT .unit (.one .bool) (fun xs=>ac n),none,none⟩
theorem xE (n:Nat):EntryOk Tryz.prog gl (ir n):=
 Oa (zC n) fun xs y h=>ra tys_ok (dj n) mixed (hint:=Qn n) (n:=n) Tryz.func21 (Na (gA n)) (la (φ:=(fun y=>some (Out.ret (Kf (.one .bool) y)))) (by kernel_rfl) (mG n  _) h)
def fe (n:Nat):List Entry:=ir n::eh n
theorem bm (n:Nat):AllOk Tryz.prog gl (fe n):=.cons (xE n) (dj n)
def Od (n:Nat) {R:Type} (lines:Int) (text want:BA) (i:Int) (p1:Bool) (p2:(Sq Int)) (p3:U9) (kn:Int→BA→BA→Int→Bool→(Sq Int)→U9→Option R) (ko:(BA×BA×Bool×(Sq Int)×U9)→Option R) (kr:Unit→Option R) (kp:Int→Option R):Option R:=
 if (decide (i<lines))=true then
 if Ca text (⟨#[46,46,120,13,10]⟩:BA)=true then
  if Ca want (⟨#[46,120,13,10]⟩:BA)=true then
  kn lines (text++(⟨#[46,46,120,13,10]⟩:BA)) (want++(⟨#[46,120,13,10]⟩:BA)) (IntKind.wrap .i64 (i+(1:Int))) p1 p2 p3
  else
  none
 else
  none
 else
 ko (text,want,p1,p2,p3)
def fb (n:Nat):Nat→Int→BA→BA→Int→Bool→(Sq Int)→U9→Option (Lx (BA×BA×Bool×(Sq Int)×U9) Unit)
 | 0,_,_,_,_,_,_,_=>none
 | m+1,lines,text,want,i,p1,p2,p3=>Od n lines text want i p1 p2 p3 (fb n m) (fun a=>some (.out a)) (fun a=>some (.ret a)) (fun p=>some (.pan p))
theorem lu (n m:Nat) {S:Type}:∀ lines text want i p1 p2 p3 (φ:_→Option S),(fb n (m+1) lines text want i p1 p2 p3).bind φ=Od n lines text want i p1 p2 p3 (fun lines text want i p1 p2 p3=>(fb n m lines text want i p1 p2 p3).bind φ) (fun a=>φ (.out a)) (fun a=>φ (.ret a)) (fun p=>φ (.pan p)):=by
 intros;first | (simp only [fb,Od,fa,ba,iB,bB,oL,oX,nB,Option.bind_some]) | rfl
def Je:List Sl:=.top::.ptr 0 0 0::.top::.dat (.int .i64)::.dat .str::.dat .str::.dat (.int .i64)::tp 53 []
def Ie:List RS:=[.box 25 3 true [.dat .bool,.dat (.sl (.int .i64)),.dat (.sl (.sl (.int .u8)))]]
def Pn:List Sl:=.top::.ptr 0 0 0::.top::.top::.dat .str::.dat .str::tp 54 []
def On:List RS:=[.box 25 3 true [.dat .bool,.dat (.sl (.int .i64)),.dat (.sl (.sl (.int .u8)))]]
def lb (K:XE→List AV→ia→Option Out):Lx (BA×BA×Bool×(Sq Int)×U9) Unit→Option Out:=fun x=>onL x (fun a=>Bk Pn On (a.1,(a.2.1,())) ((a.2.2.1,(a.2.2.2.1,(a.2.2.2.2,()))),()) (K (.exit 0))) (fun _=>none) (fun _=>none)
def fh (n:Nat) {R:Type} (p:U19) (k:Bool→Option R):Option R:=
 (WH n (p.2.2.1.n:Int) (5:Int)).bind fun v=>
 (fb n n (IntKind.wrap .i64 ((1:Int)+v)) (⟨#[]⟩:BA) (⟨#[]⟩:BA) (0:Int) p.1 p.2.1 p.2.2.1).bind fun x_1=>onL x_1
 (fun a_2=>
  (Pq n a_2.2.2.1 (⟨5,fun q=>List.getD (α:=Int) [(250:Int),(550:Int),(250:Int),(250:Int),(451:Int)] q (Aa (.int .i64))⟩:Sq Int)).bind fun v1=>
  if Ca (⟨#[69,72,76,79,32,104,13,10,77,65,73,76,32,70,82,79,77,58,60,97,64,98,62,13,10,82,67,80,84,32,84,79,58,60,99,64,100,62,13,10,82,67,80,84,32,84,79,58,60,101,64,100,62,13,10,82,67,80,84,32,84,79,58,60,102,64,100,62,13,10,68,65,84,65,13,10]⟩:BA) a_2.1=true then
  if Ca ((⟨#[69,72,76,79,32,104,13,10,77,65,73,76,32,70,82,79,77,58,60,97,64,98,62,13,10,82,67,80,84,32,84,79,58,60,99,64,100,62,13,10,82,67,80,84,32,84,79,58,60,101,64,100,62,13,10,82,67,80,84,32,84,79,58,60,102,64,100,62,13,10,68,65,84,65,13,10]⟩:BA)++a_2.1) (⟨#[46,13,10,81,85,73,84,13,10]⟩:BA)=true then
   (ic n v1.1 v1.2.1 v1.2.2.1 v1.2.2.2.1 v1.2.2.2.2.1 v1.2.2.2.2.2.1 v1.2.2.2.2.2.2.1 v1.2.2.2.2.2.2.2.1 (⟨(((⟨#[69,72,76,79,32,104,13,10,77,65,73,76,32,70,82,79,77,58,60,97,64,98,62,13,10,82,67,80,84,32,84,79,58,60,99,64,100,62,13,10,82,67,80,84,32,84,79,58,60,101,64,100,62,13,10,82,67,80,84,32,84,79,58,60,102,64,100,62,13,10,68,65,84,65,13,10]⟩:BA)++a_2.1)++(⟨#[46,13,10,81,85,73,84,13,10]⟩:BA)).size,fun q=>bt (((⟨#[69,72,76,79,32,104,13,10,77,65,73,76,32,70,82,79,77,58,60,97,64,98,62,13,10,82,67,80,84,32,84,79,58,60,99,64,100,62,13,10,82,67,80,84,32,84,79,58,60,101,64,100,62,13,10,82,67,80,84,32,84,79,58,60,102,64,100,62,13,10,68,65,84,65,13,10]⟩:BA)++a_2.1)++(⟨#[46,13,10,81,85,73,84,13,10]⟩:BA)) q⟩:Sq Int) v1.2.2.2.2.2.2.2.2.1 v1.2.2.2.2.2.2.2.2.2.1).bind fun v2=>
   if a_2.2.2.1=true then
   if (v2.1.toList==(⟨#[50,53,48,32,111,107,13,10,50,53,48,32,111,107,13,10,53,53,48,32,110,111,13,10,50,53,48,32,111,107,13,10,50,53,48,32,111,107,13,10,51,53,52,32,103,111,32,111,110,13,10,52,53,49,32,110,111,13,10,50,53,48,32,111,107,13,10,50,50,49,32,98,121,101,13,10]⟩:BA).toList)=true then
    (Zb n v2.2.1 v2.2.2.1 v2.2.2.2.1 v2.2.2.2.2.1 v2.2.2.2.2.2.1 v2.2.2.2.2.2.2.1 v2.2.2.2.2.2.2.2.1 v2.2.2.2.2.2.2.2.2.1 v2.2.2.2.2.2.2.2.2.2.1 v2.2.2.2.2.2.2.2.2.2.2.1).bind fun v3=>
    (Lh n v3.2.2.2.2.2.2.2.2.1 (⟨3,fun q=>List.getD (α:=BA) [(⟨#[97,64,98]⟩:BA),(⟨#[102,64,100]⟩:BA),a_2.2.1] q (Aa .str)⟩:Sq BA)).bind fun v4=>
    if v4=true then
    (ac n).bind fun v5=>
    k v5
    else
    k false
   else
    k false
   else
   if (v2.1.toList==(⟨#[50,53,48,32,111,107,13,10,50,53,48,32,111,107,13,10,53,53,48,32,110,111,13,10,50,53,48,32,111,107,13,10,50,53,48,32,111,107,13,10,51,53,52,32,103,111,32,111,110,13,10,52,53,49,32,110,111,13,10,50,50,49,32,98,121,101,13,10]⟩:BA).toList)=true then
    (Zb n v2.2.1 v2.2.2.1 v2.2.2.2.1 v2.2.2.2.2.1 v2.2.2.2.2.2.1 v2.2.2.2.2.2.2.1 v2.2.2.2.2.2.2.2.1 v2.2.2.2.2.2.2.2.2.1 v2.2.2.2.2.2.2.2.2.2.1 v2.2.2.2.2.2.2.2.2.2.2.1).bind fun v6=>
    if ((v6.2.2.2.2.2.2.2.2.1.n:Int)==(0:Int))=true then
    (ac n).bind fun v7=>
    k v7
    else
    k false
   else
    k false
  else
   none
  else
  none)
 (fun _=>none)
 (fun _=>none)
def Ui (n:Nat) (p:U19):Option Bool:=fh n p some
theorem oy (n:Nat) {S:Type}:∀ p (φ:_→Option S),(Ui n p).bind φ=fh n p φ:=by
 intros;unfold Ui fh;first | (simp only [fa,ba,iB,bB,oL,oX,nB,Option.bind_some]) | rfl
def ld (n:Nat):Hint Out:={ live:=fun c=>(cond (Nat.beq c 0) (lv [1,3,4,5,6]) []),run:=fun c=>(cond (Nat.beq c 0) (some (Ms Je Ie fun σ ρ K=>(fb n n σ.1 σ.2.1 σ.2.2.1 σ.2.2.2.1 ρ.1.1 ρ.1.2.1 ρ.1.2.2.1).bind (lb K))) none),xm:=fun c q=>(cond (Nat.beq c 0&&Nat.beq (q.getD 1000000) 0&&q.isSome) (some (lv [1,4,5])) none) }
def jd (n:Nat) (K:XE→List AV→ia→Option Out) (m:Nat) (lines:Int) (text:BA) (want:BA) (i:Int) (p1:Bool) (p2:(Sq Int)) (p3:U9):Option Out:=Ef tys (da Out (fe n)) (ld n) n (Fa [1,1,1,0,1,0,0] (aa Tryz.f4)) 0 Je Ie K m (lines,(text,(want,(i,())))) ((p1,(p2,(p3,()))),())
theorem fj (n:Nat) (K:XE→List AV→ia→Option Out):∀ (m:Nat) lines text want i p1 p2 p3,jd n K m lines text want i p1 p2 p3=(fb n m lines text want i p1 p2 p3).bind (lb K)
 | 0,_,_,_,_,_,_,_=>by kernel_rfl
 | m+1,lines,text,want,i,p1,p2,p3=>by
  have h1:jd n K (m+1) lines text want i p1 p2 p3=Od n lines text want i p1 p2 p3 (jd n K m) (fun a=>lb K (.out a)) (fun a=>lb K (.ret a)) (fun p=>lb K (.pan p)):=by kernel_rfl
  have h2:jd n K m=fun lines text want i p1 p2 p3=>(fb n m lines text want i p1 p2 p3).bind (lb K):=by
   repeat (refine funext fun _=>?_)
   exact fj n K m _ _ _ _ _ _ _
  rw [h1,h2];exact (lu n m _ _ _ _ _ _ _ (lb K)).symm
theorem Ds (n:Nat):Pe tys (da Out (fe n)) (ld n) n (Fa [1,1,1,0,1,0,0] (aa Tryz.f4)) 0:=Qa (sp:=Je) (rp:=Ie) (by kernel_rfl) fun K σ ρ=>fj n K n σ.1 σ.2.1 σ.2.2.1 σ.2.2.2.1 ρ.1.1 ρ.1.2.1 ρ.1.2.2.1
theorem mu (n:Nat):ua tys (da Out (fe n)) (ld n) n (aa Tryz.f4) 0:=⟨trivial,⟨trivial,⟨trivial,⟨⟨trivial,⟨Ds n,⟨⟨trivial,⟨trivial,trivial⟩⟩,⟨⟨trivial,trivial⟩,trivial⟩⟩⟩⟩,⟨trivial,⟨⟨trivial,⟨⟨trivial,trivial⟩,trivial⟩⟩,⟨trivial,⟨⟨trivial,⟨⟨trivial,trivial⟩,trivial⟩⟩,⟨trivial,trivial⟩⟩⟩⟩⟩⟩⟩⟩⟩
theorem Bv (n:Nat):Enters Tryz.prog 4:=enters_of (c:=aa Tryz.f4) Tryz.func4 (by kernel_rfl) (by kernel_rfl)
def Vk (n:Nat):Entry:=⟨4,pcT K5 (.one .bool) (fun xs=>Ui n xs.1),none,none⟩
theorem Mw (n:Nat):EntryOk Tryz.prog gl (Vk n):=
 Oa (Bv n) fun xs y h=>ra tys_ok (bm n) mixed (hint:=ld n) (n:=n) Tryz.func4 (Na (mu n)) (la (φ:=(fun y=>some (Out.ret (Kf (.one .bool) y)))) (by kernel_rfl) (oy n xs.1 _) h)
def vc (n:Nat):List Entry:=Vk n::fe n
theorem si (n:Nat):AllOk Tryz.prog gl (vc n):=.cons (Mw n) (bm n)
end
end Go.Proofs.YtddefjokgaajfaaGreatDoor.AM
