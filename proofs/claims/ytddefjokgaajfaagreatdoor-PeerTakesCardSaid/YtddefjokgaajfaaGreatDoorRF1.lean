/- Typed functions that tell what the Go functions of this seat answer, and proofs of it, by program (gen.py). -/
import Derived.Test.YtddefjokgaajfaaGreatDoorRF0
set_option linter.all false
set_option linter.unusedVariables false
set_option linter.unusedSimpArgs false
set_option maxRecDepth 1000000
set_option maxHeartbeats 0
namespace Go.Proofs.YtddefjokgaajfaaGreatDoor.AM
open Go Go.RowKit
noncomputable section
def ni (n:Nat) {R:Type} (l t10:(Sq BA)) (t11 t12:Int) (kn:(Sq BA)→(Sq BA)→Int→Int→Option R) (ko:((Sq BA))→Option R) (kr:(Bool)→Option R) (kp:Int→Option R):Option R:=
 if (decide (t12<t11))=true then
 if 0≤t12∧t12<(t10.n:Int) then
  (tI (t10.at' (Int.toNat t12))).bind fun v1=>
  if v1.2=true then
  if (decide (v1.1<(0:Int)))=false then
   if (decide (v1.1>(255:Int)))=false then
   (nC v1.1).bind fun v2=>
   if (!(v2.toList==(t10.at' (Int.toNat t12)).toList))=true then
    kr false
   else
    kn l t10 t11 (IntKind.wrap .i64 (t12+(1:Int)))
   else
   kr false
  else
   kr false
  else
  kr false
 else
  none
 else
 ko l
def jc (n:Nat):Nat→(Sq BA)→(Sq BA)→Int→Int→Option (Lx ((Sq BA)) (Bool))
 | 0,_,_,_,_=>none
 | m+1,l,t10,t11,t12=>ni n l t10 t11 t12 (jc n m) (fun a=>some (.out a)) (fun a=>some (.ret a)) (fun p=>some (.pan p))
theorem fx (n m:Nat) {S:Type}:∀ l t10 t11 t12 (φ:_→Option S),(jc n (m+1) l t10 t11 t12).bind φ=ni n l t10 t11 t12 (fun l t10 t11 t12=>(jc n m l t10 t11 t12).bind φ) (fun a=>φ (.out a)) (fun a=>φ (.ret a)) (fun p=>φ (.pan p)):=by
 intros;first | (simp only [jc,ni,ia,da,iB,bB,oL,oX,nB,Option.bind_some]) | rfl
def yh:List Sl:=.top::.top::.top::.dat (.sl .str)::tp 6 (.dat (.sl .str)::.dat (.int .i64)::.dat (.int .i64)::tp 28 [])
def xh:List RS:=[]
def iq:List Sl:=.top::.top::.top::.dat (.sl .str)::tp 37 []
def gq:List RS:=[]
def kq:List Sl:=.top::.top::.dat .bool::tp 38 []
def jq:List RS:=[]
def Pb (K:XE→List AV→ea→Option Out):Lx ((Sq BA)) (Bool)→Option Out:=fun x=>lM x (fun a=>Ky iq gq (a,()) () (K (.exit 0))) (fun a=>Ky kq jq (a,()) () (K .ret)) (fun _=>none)
def An (n:Nat) {R:Type} (s:BA) (k:Bool→Option R):Option R:=
 (Qw n s (⟨#[46]⟩:BA)).bind fun v=>
 (jc n n v v (v.n:Int) (0:Int)).bind fun x_1=>lM x_1
 (fun a_2=>
  k ((a_2.n:Int)==(4:Int)))
 (fun a_3=>
  k a_3)
 (fun _=>none)
def Lk (n:Nat) (s:BA):Option Bool:=An n s some
theorem zB (n:Nat) {S:Type}:∀ s (φ:_→Option S),(Lk n s).bind φ=An n s φ:=by
 intros;unfold Lk An;first | (simp only [ia,da,iB,bB,oL,oX,nB,Option.bind_some]) | rfl
def Af (n:Nat):Hint Out:={ live:=fun c=>(cond (Nat.beq c 0) [(3,some (.sl .str)),(10,some (.sl .str)),(11,none),(12,none)] []),run:=fun c=>(cond (Nat.beq c 0) (some (XA yh xh fun σ ρ K=>(jc n n σ.1 σ.2.1 σ.2.2.1 σ.2.2.2.1).bind (Pb K))) none),xm:=fun c q=>(cond (Nat.beq c 0&&Nat.beq (q.getD 1000000) 0&&q.isSome) (some [(3,some (.sl .str))]) (cond (Nat.beq c 1&&q.isNone) (some [(2,none)]) none)) }
def xf (n:Nat) (K:XE→List AV→ea→Option Out) (m:Nat) (l:(Sq BA)) (t10:(Sq BA)) (t11:Int) (t12:Int):Option Out:=lq tys (fa Out (Td n)) (Af n) n (La [1,1,0,1,0,0] (ba Tryz.f129)) 0 yh xh K m (l,(t10,(t11,(t12,())))) ()
theorem Bn (n:Nat) (K:XE→List AV→ea→Option Out):∀ (m:Nat) l t10 t11 t12,xf n K m l t10 t11 t12=(jc n m l t10 t11 t12).bind (Pb K)
 | 0,_,_,_,_=>by kernel_rfl
 | m+1,l,t10,t11,t12=>by
  have h1:xf n K (m+1) l t10 t11 t12=ni n l t10 t11 t12 (xf n K m) (fun a=>Pb K (.out a)) (fun a=>Pb K (.ret a)) (fun p=>Pb K (.pan p)):=by kernel_rfl
  have h2:xf n K m=fun l t10 t11 t12=>(jc n m l t10 t11 t12).bind (Pb K):=by
   repeat (refine funext fun _=>?_)
   exact Bn n K m _ _ _ _
  rw [h1,h2];exact (fx n m _ _ _ _ (Pb K)).symm
theorem aw (n:Nat):Im tys (fa Out (Td n)) (Af n) n (La [1,1,0,1,0,0] (ba Tryz.f129)) 0:=Mc (sp:=yh) (rp:=xh) (by kernel_rfl) fun K σ ρ=>Bn n K n σ.1 σ.2.1 σ.2.2.1 σ.2.2.2.1
theorem gx (n:Nat):qa tys (fa Out (Td n)) (Af n) n (ba Tryz.f129) 0:=⟨trivial,⟨trivial,⟨⟨trivial,⟨aw n,⟨trivial,⟨⟨trivial,trivial⟩,⟨⟨trivial,⟨trivial,⟨trivial,⟨⟨trivial,trivial⟩,trivial⟩⟩⟩⟩,trivial⟩⟩⟩⟩⟩,⟨trivial,trivial⟩⟩⟩⟩
theorem Sy (n:Nat):Enters Tryz.prog 129:=enters_of (c:=ba Tryz.f129) Tryz.func129 (by kernel_rfl) (by kernel_rfl)
def jt (n:Nat):Entry:=⟨129,qM (.pair .str .unit) (.one .bool) (fun xs=>Lk n xs.1),none,none⟩
theorem kt (n:Nat):EntryOk Tryz.prog gl (jt n):=
 Ma (Sy n) fun xs y h=>ra tys_ok (Vj n) mixed (hint:=Af n) (n:=n) Tryz.func129 (Ga (gx n)) (pa (φ:=(fun y=>some (Out.ret (ch (.one .bool) y)))) (by kernel_rfl) (zB n xs.1 _) h)
def zf (n:Nat):List Entry:=jt n::Td n
theorem tm (n:Nat):AllOk Tryz.prog gl (zf n):=.cons (kt n) (Vj n)
def xl (n:Nat) {R:Type} (s1:BA) (t5 t6:Int) (kn:BA→Int→Int→Option R) (ko:(BA)→Option R) (kr:(Bool)→Option R) (kp:Int→Option R):Option R:=
 if (decide (t6<t5))=true then
 if 0≤t6∧t6<(s1.size:Int) then
  (rx n (bt s1 t6)).bind fun v=>
  if (!v)=true then
  if 0≤t6∧t6<(s1.size:Int) then
   if ((bt s1 t6) !=(45:Int))=false then
   if (t6==(0:Int))=false then
    if (t6==(IntKind.wrap .i64 ((s1.size:Int) - (1:Int))))=true then
    kr false
    else
    kn s1 t5 (IntKind.wrap .i64 (t6+(1:Int)))
   else
    kr false
   else
   kr false
  else
   none
  else
  kn s1 t5 (IntKind.wrap .i64 (t6+(1:Int)))
 else
  none
 else
 ko s1
def Cd (n:Nat):Nat→BA→Int→Int→Option (Lx (BA) (Bool))
 | 0,_,_,_=>none
 | m+1,s1,t5,t6=>xl n s1 t5 t6 (Cd n m) (fun a=>some (.out a)) (fun a=>some (.ret a)) (fun p=>some (.pan p))
theorem kA (n m:Nat) {S:Type}:∀ s1 t5 t6 (φ:_→Option S),(Cd n (m+1) s1 t5 t6).bind φ=xl n s1 t5 t6 (fun s1 t5 t6=>(Cd n m s1 t5 t6).bind φ) (fun a=>φ (.out a)) (fun a=>φ (.ret a)) (fun p=>φ (.pan p)):=by
 intros;first | (simp only [Cd,xl,ia,da,iB,bB,oL,oX,nB,Option.bind_some]) | rfl
def ak:List Sl:=.dat .str::tp 4 (.dat (.int .i64)::.dat (.int .i64)::tp 33 [])
def Zj:List RS:=[]
def dt:List Sl:=.dat .str::tp 39 []
def ct:List RS:=[]
def ft:List Sl:=.top::.top::.dat .bool::tp 37 []
def et:List RS:=[]
def Uc (K:XE→List AV→ea→Option Out):Lx (BA) (Bool)→Option Out:=fun x=>lM x (fun a=>Ky dt ct (a,()) () (K (.exit 0))) (fun a=>Ky ft et (a,()) () (K .ret)) (fun _=>none)
def zu (n:Nat) {R:Type} (s:BA) (k:Bool→Option R):Option R:=
 (Cd n n s (s.size:Int) (0:Int)).bind fun x_1=>lM x_1
 (fun a_2=>
  if (decide ((a_2.size:Int)≥(1:Int)))=true then
  k (decide ((a_2.size:Int)≤(63:Int)))
  else
  k false)
 (fun a_3=>
  k a_3)
 (fun _=>none)
def Ys (n:Nat) (s:BA):Option Bool:=zu n s some
theorem iF (n:Nat) {S:Type}:∀ s (φ:_→Option S),(Ys n s).bind φ=zu n s φ:=by
 intros;unfold Ys zu;first | (simp only [ia,da,iB,bB,oL,oX,nB,Option.bind_some]) | rfl
def mi (n:Nat):Hint Out:={ live:=fun c=>(cond (Nat.beq c 0) (lv [0,5,6]) []),run:=fun c=>(cond (Nat.beq c 0) (some (XA ak Zj fun σ ρ K=>(Cd n n σ.1 σ.2.1 σ.2.2.1).bind (Uc K))) none),xm:=fun c q=>(cond (Nat.beq c 0&&Nat.beq (q.getD 1000000) 0&&q.isSome) (some [(0,none)]) (cond (Nat.beq c 1&&q.isNone) (some [(2,none)]) none)) }
def li (n:Nat) (K:XE→List AV→ea→Option Out) (m:Nat) (s1:BA) (t5:Int) (t6:Int):Option Out:=lq tys (fa Out (zf n)) (mi n) n (La [1,0,1,0,0] (ba Tryz.f131)) 0 ak Zj K m (s1,(t5,(t6,()))) ()
theorem Zs (n:Nat) (K:XE→List AV→ea→Option Out):∀ (m:Nat) s1 t5 t6,li n K m s1 t5 t6=(Cd n m s1 t5 t6).bind (Uc K)
 | 0,_,_,_=>by kernel_rfl
 | m+1,s1,t5,t6=>by
  have h1:li n K (m+1) s1 t5 t6=xl n s1 t5 t6 (li n K m) (fun a=>Uc K (.out a)) (fun a=>Uc K (.ret a)) (fun p=>Uc K (.pan p)):=by kernel_rfl
  have h2:li n K m=fun s1 t5 t6=>(Cd n m s1 t5 t6).bind (Uc K):=by
   repeat (refine funext fun _=>?_)
   exact Zs n K m _ _ _
  rw [h1,h2];exact (kA n m _ _ _ (Uc K)).symm
theorem Qy (n:Nat):Im tys (fa Out (zf n)) (mi n) n (La [1,0,1,0,0] (ba Tryz.f131)) 0:=Mc (sp:=ak) (rp:=Zj) (by kernel_rfl) fun K σ ρ=>Zs n K n σ.1 σ.2.1 σ.2.2.1
theorem lA (n:Nat):qa tys (fa Out (zf n)) (mi n) n (ba Tryz.f131) 0:=⟨trivial,⟨⟨trivial,⟨Qy n,⟨trivial,⟨⟨trivial,trivial⟩,⟨⟨trivial,⟨trivial,⟨⟨trivial,trivial⟩,trivial⟩⟩⟩,trivial⟩⟩⟩⟩⟩,⟨trivial,trivial⟩⟩⟩
theorem yB (n:Nat):Enters Tryz.prog 131:=enters_of (c:=ba Tryz.f131) Tryz.func131 (by kernel_rfl) (by kernel_rfl)
def Zw (n:Nat):Entry:=⟨131,qM (.pair .str .unit) (.one .bool) (fun xs=>Ys n xs.1),none,none⟩
theorem dx (n:Nat):EntryOk Tryz.prog gl (Zw n):=
 Ma (yB n) fun xs y h=>ra tys_ok (tm n) mixed (hint:=mi n) (n:=n) Tryz.func131 (Ga (lA n)) (pa (φ:=(fun y=>some (Out.ret (ch (.one .bool) y)))) (by kernel_rfl) (iF n xs.1 _) h)
def cx (n:Nat):List Entry:=Zw n::zf n
theorem Ry (n:Nat):AllOk Tryz.prog gl (cx n):=.cons (dx n) (tm n)
def Ei (n:Nat) (s:BA):Option Bool:=
 (jf n s).bind fun b=>if b=true then (Lb n s ⟨#[93]⟩).bind fun c=>if c=true then (if 2≤(s.size:Int)∧(s.size:Int)≤9223372036854775807 then Lk n (s.extract 1 (s.size - 1)) else none) else some false
 else Dom.domT (fun x=>om n x Dom.dot) (Ys n) n s
theorem My:Tryz.prog.funcs[103]?=some Tryz.f103:=by kernel_rfl
theorem Ny (n:Nat):EntryOk Tryz.prog gl ⟨103,qM (.pair .str .unit) (.one .bool) (fun xs=>Ei n xs.1),none,none⟩:=Ma (enters_of (c:=ba Tryz.f103) My (by kernel_rfl) (by kernel_rfl)) fun xs y h=>by
 refine vA (args:=[.string xs.1]) (v:=.bool y) (fun w0 hg hn=>?_)
 have hlit:∀ b,jf n xs.1=some b→∀ (w:World),Below w0.heap.size w0 w→Calls Tryz.prog 128 #[.string xs.1] w fun e w'=>e=.returned (.bool b)∧Below w.heap.size w w':=fun b hb' w hb=>
  It (zn n) (args:=[.string xs.1]) (v:=.bool b) (by show (jf n xs.1).bind _=_;rw [hb'];rfl) hg hn hb
 have hsuf:∀ b,Lb n xs.1 ⟨#[93]⟩=some b→∀ (w:World),Below w0.heap.size w0 w→Calls Tryz.prog 59 #[.string xs.1,.string ⟨#[93]⟩] w fun e w'=>e=.returned (.bool b)∧Below w.heap.size w w':=fun b hb' w hb=>
  It (Mp n) (args:=[.string xs.1,.string ⟨#[93]⟩]) (v:=.bool b) (by show (Lb n xs.1 ⟨#[93]⟩).bind _=_;rw [hb'];rfl) hg hn hb
 unfold Ei at h
 obtain ⟨b,hb,h⟩:=Option.bind_eq_some_iff.1 h
 cases b with
 | true=>
  rw [if_pos rfl] at h
  obtain ⟨c,hc,h⟩:=Option.bind_eq_some_iff.1 h
  refine Dom.dom2 xs.1 c y w0 (hlit true hb) (hsuf c hc) (fun hc'=>?_) (fun hc'=>?_)
  · rw [if_pos hc'] at h
    split at h
    · rename_i hsz
      exact ⟨hsz,fun w hbw=>It (kt n) (args:=[.string (xs.1.extract 1 (xs.1.size - 1))]) (v:=.bool y) (by show (Lk n (xs.1.extract 1 (xs.1.size - 1))).bind _=_;rw [h];rfl) hg hn hbw⟩
    · cases h
  · rw [if_neg (by rw [hc'];simp)] at h
    exact (Option.some.inj h).symm
 | false=>
  rw [if_neg (by simp)] at h
  exact Dom.dom1 _ _ n xs.1 y w0 (fun x i w hbw hx=>It (zy n) (args:=[.string x,.string Dom.dot]) (v:=.int .i64 i) (by show (om n x Dom.dot).bind _=_;rw [hx];rfl) hg hn hbw)
   (fun x i w hbw hx=>It (dx n) (args:=[.string x]) (v:=.bool i) (by show (Ys n x).bind _=_;rw [hx];rfl) hg hn hbw) (hlit false hb) h
def Xj (n:Nat):List Entry:=⟨103,qM (.pair .str .unit) (.one .bool) (fun xs=>Ei n xs.1),none,none⟩::cx n
theorem zg (n:Nat):AllOk Tryz.prog gl (Xj n):=.cons (Ny n) (Ry n)
def qx (n:Nat) {R:Type} (s:BA) (k:KL→Option R) (kp:Int→Option R):Option R:=
 (Kw n s).bind fun x_1=>mM x_1 (fun p=>
 kp p) (fun v=>
 if (decide ((v.1.size:Int)≤(64:Int)))=true then
 (Da n v.2.1 (⟨#[64]⟩:BA)).bind fun v1=>
 (Ec n v1).bind fun x_2=>mM x_2 (fun p1=>
  kp p1) (fun v2=>
 if 0≤(1:Int)∧(1:Int)≤(v.2.1.size:Int) then
  (Dt n (v.2.1.extract (Int.toNat (1:Int)) (Int.toNat (v.2.1.size:Int)))).bind fun v3=>
  (Ei n v3).bind fun v4=>
  (Ec n v4).bind fun x_3=>mM x_3 (fun p2=>
  kp p2) (fun v5=>
  k (v.1,(v3,())))
 else
  none)
 else
 (Ec n false).bind fun x_4=>mM x_4 (fun p3=>
  kp p3) (fun v6=>
 if 0≤(1:Int)∧(1:Int)≤(v.2.1.size:Int) then
  (Dt n (v.2.1.extract (Int.toNat (1:Int)) (Int.toNat (v.2.1.size:Int)))).bind fun v7=>
  (Ei n v7).bind fun v8=>
  (Ec n v8).bind fun x_5=>mM x_5 (fun p4=>
  kp p4) (fun v9=>
  k (v.1,(v7,())))
 else
  none))
def rA (n:Nat) (s:BA):Option (Except Int KL):=qx n s (fun y=>some (.ok y)) (fun p=>some (.error p))
theorem FB (n:Nat) {S:Type}:∀ s (φ:_→Option S),(rA n s).bind φ=qx n s (fun y=>φ (.ok y)) (fun p=>φ (.error p)):=by
 intros;unfold rA qx;first | (simp only [ia,da,iB,bB,oL,oX,nB,Option.bind_some]) | rfl
def Gn (n:Nat):Hint Out:={ live:=fun c=>[],run:=fun c=>none,xm:=fun c q=>none }
theorem Gv (n:Nat):qa tys (fa Out (Xj n)) (Gn n) n (ba Tryz.f147) 0:=ma (fun _=>rfl) _ _ (by kernel_rfl)
theorem jD (n:Nat):Enters Tryz.prog 147:=enters_of (c:=ba Tryz.f147) Tryz.func147 (by kernel_rfl) (by kernel_rfl)
def Oz (n:Nat):Entry:=⟨147,rM 184 (.pair .str .unit) (.one (.pair .str (.pair .str .unit))) (fun xs=>rA n xs.1),none,none⟩
theorem mF (n:Nat):EntryOk Tryz.prog gl (Oz n):=
 KE (jD n) (fun xs y h=>ra tys_ok (zg n) mixed (hint:=Gn n) (n:=n) Tryz.func147 (Ga (Gv n)) (pa (φ:=(fun r=>mM r (fun p=>some (Out.pan (Tp 184 p))) fun y=>some (Out.ret (ch (.one (.pair .str (.pair .str .unit))) y)))) (by kernel_rfl) (FB n xs.1 _) h))
  (fun xs p h=>ra tys_ok (zg n) mixed (hint:=Gn n) (n:=n) Tryz.func147 (Ga (Gv n)) (pa (φ:=(fun r=>mM r (fun p=>some (Out.pan (Tp 184 p))) fun y=>some (Out.ret (ch (.one (.pair .str (.pair .str .unit))) y)))) (by kernel_rfl) (FB n xs.1 _) h))
def Ai (n:Nat):List Entry:=Oz n::Xj n
theorem Ct (n:Nat):AllOk Tryz.prog gl (Ai n):=.cons (mF n) (zg n)
def Up (n:Nat) {R:Type} (s:BA) (k:(KL×Int×Unit)→Option R):Option R:=
 (rA n s).bind fun x_1=>mM x_1 (fun p=>
 k (((⟨#[]⟩:BA),((⟨#[]⟩:BA),())),(p,()))) (fun v=>
 k ((v.1,(v.2.1,())),((0:Int),())))
def Jw (n:Nat) (s:BA):Option (KL×Int×Unit):=Up n s some
theorem eF (n:Nat) {S:Type}:∀ s (φ:_→Option S),(Jw n s).bind φ=Up n s φ:=by
 intros;unfold Jw Up;first | (simp only [ia,da,iB,bB,oL,oX,nB,Option.bind_some]) | rfl
def ji (n:Nat):Hint Out:={ live:=fun c=>[],run:=fun c=>none,xm:=fun c q=>none,pm:=some [(2,none),(3,none)] }
theorem jA (n:Nat):qa tys (fa Out (Ai n)) (ji n) n (La [0] (ba Tryz.f120)) 0∧qa tys (fa Out (Ai n)) (ji n) n (La [1,1] (ba Tryz.f120)) 0:=⟨trivial,⟨trivial,trivial⟩⟩
theorem vB (n:Nat):Enters Tryz.prog 120:=enters_of (c:=ba Tryz.f120) Tryz.func120 (by kernel_rfl) (by kernel_rfl)
theorem Bv:Tryz.prog.funcs[146]?=some Tryz.f146:=by kernel_rfl
theorem iA:Enters Tryz.prog 146:=enters_of (c:=ba Tryz.f146) Bv (by kernel_rfl) (by kernel_rfl)
theorem Py (n:Nat):qa tys (fa Out (Ai n)) fC n (La [1] (ba Tryz.f146)) 0:=⟨⟨trivial,⟨trivial,trivial⟩⟩,⟨trivial,⟨⟨trivial,⟨trivial,trivial⟩⟩,trivial⟩⟩⟩
theorem dF (n:Nat) (s:BA):XL tys (fa Out (Ai n)) (ji n) n 146 Tryz.f146 Tryz.f120 (UF (.pair .str .unit) (s,())) (JF fun v=>some (.ret v))=Up n s (fun y=>some (.ret (ch (.many (.pair (.pair .str (.pair .str .unit)) (.pair (.int .i64) .unit))) y))):=by kernel_rfl
def Uw (n:Nat):Entry:=⟨120,qM (.pair .str .unit) (.many (.pair (.pair .str (.pair .str .unit)) (.pair (.int .i64) .unit))) (fun xs=>Jw n xs.1),none,none⟩
theorem bD (n:Nat):EntryOk Tryz.prog gl (Uw n):=
 Ma (vB n) fun xs y h=>qF tys_ok (Ct n) mixed (hint:=ji n) (n:=n) (fn:=Tryz.f120) (f2:=Tryz.f146) Tryz.func120 Bv iA (MK (jA n)) (XJ (Py n)) (pa (φ:=(fun y=>some (Out.ret (ch (.many (.pair (.pair .str (.pair .str .unit)) (.pair (.int .i64) .unit))) y)))) (dF n xs.1) (eF n xs.1 _) h)
def Br (n:Nat):List Entry:=Uw n::Ai n
theorem Rq (n:Nat):AllOk Tryz.prog gl (Br n):=.cons (bD n) (Ct n)
def Ww (n:Nat) {R:Type} (s:BA) (k:(KL×Bool×Int×Unit)→Option R):Option R:=
 if (s.toList==(⟨#[60,62]⟩:BA).toList)=true then
 k (((⟨#[]⟩:BA),((⟨#[]⟩:BA),())),(true,((0:Int),())))
 else
 if (decide ((s.size:Int)<(2:Int)))=false then
  if 0≤(0:Int)∧(0:Int)<(s.size:Int) then
  if ((bt s (0:Int)) !=(60:Int))=false then
   if 0≤(IntKind.wrap .i64 ((s.size:Int) - (1:Int)))∧(IntKind.wrap .i64 ((s.size:Int) - (1:Int)))<(s.size:Int) then
   if ((bt s (IntKind.wrap .i64 ((s.size:Int) - (1:Int)))) !=(62:Int))=true then
    k (((⟨#[]⟩:BA),((⟨#[]⟩:BA),())),(false,((8:Int),())))
   else
    if 0≤(IntKind.wrap .i64 ((s.size:Int) - (1:Int)))∧(IntKind.wrap .i64 ((s.size:Int) - (1:Int)))≤(s.size:Int) then
    if 0≤(1:Int)∧(1:Int)≤(IntKind.wrap .i64 ((s.size:Int) - (1:Int))) then
     (Jw n (s.extract (Int.toNat (1:Int)) (Int.toNat (IntKind.wrap .i64 ((s.size:Int) - (1:Int)))))).bind fun v=>
     k ((v.1.1,(v.1.2.1,())),(false,(v.2.1,())))
    else
     none
    else
    none
   else
   none
  else
   k (((⟨#[]⟩:BA),((⟨#[]⟩:BA),())),(false,((8:Int),())))
  else
  none
 else
  k (((⟨#[]⟩:BA),((⟨#[]⟩:BA),())),(false,((8:Int),())))
def Vw (n:Nat) (s:BA):Option (KL×Bool×Int×Unit):=Ww n s some
theorem bG (n:Nat) {S:Type}:∀ s (φ:_→Option S),(Vw n s).bind φ=Ww n s φ:=by
 intros;unfold Vw Ww;first | (simp only [ia,da,iB,bB,oL,oX,nB,Option.bind_some]) | rfl
def Cv (n:Nat):Hint Out:={ live:=fun c=>[],run:=fun c=>none,xm:=fun c q=>none }
theorem wB (n:Nat):qa tys (fa Out (Br n)) (Cv n) n (ba Tryz.f96) 0:=ma (fun _=>rfl) _ _ (by kernel_rfl)
theorem cD (n:Nat):Enters Tryz.prog 96:=enters_of (c:=ba Tryz.f96) Tryz.func96 (by kernel_rfl) (by kernel_rfl)
def Kz (n:Nat):Entry:=⟨96,qM (.pair .str .unit) (.many K3) (fun xs=>Vw n xs.1),none,none⟩
theorem fF (n:Nat):EntryOk Tryz.prog gl (Kz n):=
 Ma (cD n) fun xs y h=>ra tys_ok (Rq n) mixed (hint:=Cv n) (n:=n) Tryz.func96 (Ga (wB n)) (pa (φ:=(fun y=>some (Out.ret (ch (.many K3) y)))) (by kernel_rfl) (bG n xs.1 _) h)
def xu (n:Nat):List Entry:=Kz n::Br n
theorem Ws (n:Nat):AllOk Tryz.prog gl (xu n):=.cons (fF n) (Rq n)
def gA (n:Nat) {R:Type} (m0:KL) (k:BA→Option R):Option R:=
 if Wa m0.1 (⟨#[64]⟩:BA)=true then
 if Wa (m0.1++(⟨#[64]⟩:BA)) m0.2.1=true then
  k ((m0.1++(⟨#[64]⟩:BA))++m0.2.1)
 else
  none
 else
 none
def Jz (n:Nat) (m0:KL):Option BA:=gA n m0 some
theorem jH (n:Nat) {S:Type}:∀ m0 (φ:_→Option S),(Jz n m0).bind φ=gA n m0 φ:=by
 intros;unfold Jz gA;first | (simp only [ia,da,iB,bB,oL,oX,nB,Option.bind_some]) | rfl
def Tw (n:Nat):Hint Out:={ live:=fun c=>[],run:=fun c=>none,xm:=fun c q=>none }
theorem aD (n:Nat):qa tys (fa Out (xu n)) (Tw n) n (ba Tryz.f97) 0:=ma (fun _=>rfl) _ _ (by kernel_rfl)
theorem cF (n:Nat):Enters Tryz.prog 97:=enters_of (c:=ba Tryz.f97) Tryz.func97 (by kernel_rfl) (by kernel_rfl)
def uB (n:Nat):Entry:=⟨97,qM (.pair (.pair .str (.pair .str .unit)) .unit) (.one .str) (fun xs=>Jz n xs.1),none,none⟩
theorem aG (n:Nat):EntryOk Tryz.prog gl (uB n):=
 Ma (cF n) fun xs y h=>ra tys_ok (Ws n) mixed (hint:=Tw n) (n:=n) Tryz.func97 (Ga (aD n)) (pa (φ:=(fun y=>some (Out.ret (ch (.one .str) y)))) (by kernel_rfl) (jH n xs.1 _) h)
def Sw (n:Nat):List Entry:=uB n::xu n
theorem Av (n:Nat):AllOk Tryz.prog gl (Sw n):=.cons (aG n) (Ws n)
def Ub (n:Nat) {R:Type} (path:BA) (b0:Bool) (b01:(Sq Int)) (b02:BA) (b03:Bool) (b04 b05:BA) (b06:Bool) (b07:BA) (r1 r2:(Sq BA)) (k:U0→Option R):Option R:=
 (Vw n path).bind fun v=>
 if (v.2.2.1 !=(0:Int))=false then
 if v.2.1=true then
  (oa n (500:Int) b0 b01 b02 b03 b04 b05 b06 b07 r1 r2).bind fun v1=>
  k (v1.1,(v1.2.1,(v1.2.2.1,(v1.2.2.2.1,(v1.2.2.2.2.1,(v1.2.2.2.2.2.1,(v1.2.2.2.2.2.2.1,(v1.2.2.2.2.2.2.2.1,(v1.2.2.2.2.2.2.2.2.1,(v1.2.2.2.2.2.2.2.2.2.1,()))))))))))
 else
  (Ua n b0 b01 b02 b03 b04 b05 b06 b07 r1 r2).bind fun v2=>
  if v2.1=true then
  yI (
   (Jz n (v.1.1,(v.1.2.1,()))).bind fun v3=>
   if Pd (v2.2.2.2.2.2.2.2.2.2.1.n+1) 16=true then
   k (v2.2.1,(v2.2.2.1,(v2.2.2.2.1,(v2.2.2.2.2.1,(v2.2.2.2.2.2.1,(v2.2.2.2.2.2.2.1,(v2.2.2.2.2.2.2.2.1,(v2.2.2.2.2.2.2.2.2.1,((⟨(v2.2.2.2.2.2.2.2.2.2.1.n+1),fun q=>if q<v2.2.2.2.2.2.2.2.2.2.1.n then v2.2.2.2.2.2.2.2.2.2.1.at' q else (fun q=>List.getD (α:=BA) [v3] q (Na .str)) (q - v2.2.2.2.2.2.2.2.2.2.1.n)⟩:Sq BA),(v2.2.2.2.2.2.2.2.2.2.2.1,()))))))))))
   else
   none) (
   (Jz n (v.1.1,(v.1.2.1,()))).bind fun v4=>
   SL 1 (
   if Pd (v2.2.2.2.2.2.2.2.2.2.1.n+1) 16=true then
    k (v2.2.1,(v2.2.2.1,(v2.2.2.2.1,(v2.2.2.2.2.1,(v2.2.2.2.2.2.1,(v2.2.2.2.2.2.2.1,(v2.2.2.2.2.2.2.2.1,(v2.2.2.2.2.2.2.2.2.1,((⟨(v2.2.2.2.2.2.2.2.2.2.1.n+1),fun q=>if q<v2.2.2.2.2.2.2.2.2.2.1.n then v2.2.2.2.2.2.2.2.2.2.1.at' q else (fun q=>List.getD (α:=BA) [v4] q (Na .str)) (q - v2.2.2.2.2.2.2.2.2.2.1.n)⟩:Sq BA),(v2.2.2.2.2.2.2.2.2.2.2.1,()))))))))))
   else
    none))
  else
  k (v2.2.1,(v2.2.2.1,(v2.2.2.2.1,(v2.2.2.2.2.1,(v2.2.2.2.2.2.1,(v2.2.2.2.2.2.2.1,(v2.2.2.2.2.2.2.2.1,(v2.2.2.2.2.2.2.2.2.1,(v2.2.2.2.2.2.2.2.2.2.1,(v2.2.2.2.2.2.2.2.2.2.2.1,()))))))))))
 else
 (oa n (500:Int) b0 b01 b02 b03 b04 b05 b06 b07 r1 r2).bind fun v5=>
 k (v5.1,(v5.2.1,(v5.2.2.1,(v5.2.2.2.1,(v5.2.2.2.2.1,(v5.2.2.2.2.2.1,(v5.2.2.2.2.2.2.1,(v5.2.2.2.2.2.2.2.1,(v5.2.2.2.2.2.2.2.2.1,(v5.2.2.2.2.2.2.2.2.2.1,()))))))))))
def Sa (n:Nat) (path:BA) (b0:Bool) (b01:(Sq Int)) (b02:BA) (b03:Bool) (b04 b05:BA) (b06:Bool) (b07:BA) (r1 r2:(Sq BA)):Option U0:=Ub n path b0 b01 b02 b03 b04 b05 b06 b07 r1 r2 some
theorem ss (n:Nat) {S:Type}:∀ path b0 b01 b02 b03 b04 b05 b06 b07 r1 r2 (φ:_→Option S),(Sa n path b0 b01 b02 b03 b04 b05 b06 b07 r1 r2).bind φ=Ub n path b0 b01 b02 b03 b04 b05 b06 b07 r1 r2 φ:=by
 intros;unfold Sa Ub;first | (simp only [ia,da,iB,bB,oL,oX,nB,Option.bind_some]) | rfl
def tg (n:Nat):Hint OutS:={ live:=fun c=>[],run:=fun c=>none,xm:=fun c q=>none,sch:=fun c=>(cond (Nat.beq c 4) (some [(0,0),(1,0),(2,0),(3,0),(5,1),(7,5),(4,7),(6,7),(8,2),(9,6),(10,6),(11,2)]) none),nb:=[(71,1,.frz (.int .i64)),(71,5,.prm 9),(71,8,.prm 9)] }
theorem an (n:Nat):qa tys (fa OutS (Sw n)).keep (tg n) n (ba Tryz.f61) 0:=ma (fun _=>rfl) _ _ (by kernel_rfl)
theorem Po (n:Nat):Enters Tryz.prog 61:=enters_of (c:=ba Tryz.f61) Tryz.func61 (by kernel_rfl) (by kernel_rfl)
def Wh:List RSp:=[.one (.ptr 0 0 0),.one (.dat .str)]
def Vh:List RS:=[.box 71 10 false [.dat .bool,.dat (.sl (.int .i64)),.dat .str,.dat .bool,.dat .str,.row 1,.dat .str,.dat .bool,.row 2,.dat .str],.row 9 1 .str true true,.row 9 1 .str true true]
def Qo:List Sl:=[.ptr 0 0 0,.top]
def Ro:List RSp:=[]
def yc:List RS:=[.box 71 10 false [.dat .bool,.dat (.sl (.int .i64)),.dat .str,.dat .bool,.dat .str,.row 1,.dat .str,.dat .bool,.row 2,.dat .str],.row 9 1 .str true true,.row 9 1 .str true true]
def Xe (y:U0):OutS:=⟨false,Bi (Hb yc ((y.1,(y.2.1,(y.2.2.1,(y.2.2.2.1,(y.2.2.2.2.1,(y.2.2.2.2.2.1,(y.2.2.2.2.2.2.1,(y.2.2.2.2.2.2.2.1,())))))))),(y.2.2.2.2.2.2.2.2.1,(y.2.2.2.2.2.2.2.2.2.1,())))) Qo (),Pq (Wp (Hb yc ((y.1,(y.2.1,(y.2.2.1,(y.2.2.2.1,(y.2.2.2.2.1,(y.2.2.2.2.2.1,(y.2.2.2.2.2.2.1,(y.2.2.2.2.2.2.2.1,())))))))),(y.2.2.2.2.2.2.2.2.1,(y.2.2.2.2.2.2.2.2.2.1,())))) Ro ()),Nk (Hb yc ((y.1,(y.2.1,(y.2.2.1,(y.2.2.2.1,(y.2.2.2.2.1,(y.2.2.2.2.2.1,(y.2.2.2.2.2.2.1,(y.2.2.2.2.2.2.2.1,())))))))),(y.2.2.2.2.2.2.2.2.1,(y.2.2.2.2.2.2.2.2.2.1,())))) yc ((y.1,(y.2.1,(y.2.2.1,(y.2.2.2.1,(y.2.2.2.2.1,(y.2.2.2.2.2.1,(y.2.2.2.2.2.2.1,(y.2.2.2.2.2.2.2.1,())))))))),(y.2.2.2.2.2.2.2.2.1,(y.2.2.2.2.2.2.2.2.2.1,())))⟩
theorem yq (n:Nat):EntryOk Tryz.prog gl ⟨61,Ud,none,some (QL Wh Vh (fun σ ρ=>Sa n σ.2.1.1 ρ.1.1 ρ.1.2.1 ρ.1.2.2.1 ρ.1.2.2.2.1 ρ.1.2.2.2.2.1 ρ.1.2.2.2.2.2.1 ρ.1.2.2.2.2.2.2.1 ρ.1.2.2.2.2.2.2.2.1 ρ.2.1 ρ.2.2.1) Xe)⟩:=
 Hc (Po n) fun σ ρ y h=>Ja tys_ok (Av n) mixed (hint:=tg n) (n:=n) Tryz.func61 (Ga (an n)) (pa (φ:=fun y=>some (Xe y)) (by kernel_rfl) (ss n σ.2.1.1 ρ.1.1 ρ.1.2.1 ρ.1.2.2.1 ρ.1.2.2.2.1 ρ.1.2.2.2.2.1 ρ.1.2.2.2.2.2.1 ρ.1.2.2.2.2.2.2.1 ρ.1.2.2.2.2.2.2.2.1 ρ.2.1 ρ.2.2.1 _) h)
def re (n:Nat):List Entry:=⟨61,Ud,none,some (QL Wh Vh (fun σ ρ=>Sa n σ.2.1.1 ρ.1.1 ρ.1.2.1 ρ.1.2.2.1 ρ.1.2.2.2.1 ρ.1.2.2.2.2.1 ρ.1.2.2.2.2.2.1 ρ.1.2.2.2.2.2.2.1 ρ.1.2.2.2.2.2.2.2.1 ρ.2.1 ρ.2.2.1) Xe)⟩::Sw n
theorem Pf (n:Nat):AllOk Tryz.prog gl (re n):=.cons (yq n) (Av n)
def Re (n:Nat) {R:Type} (b0:Bool) (b01:(Sq Int)) (b02:BA) (b03:Bool) (b04 b05:BA) (b06:Bool) (b07:BA) (r1 r2:(Sq BA)) (k:U0→Option R):Option R:=
 if (decide ((r1.n:Int)>(0:Int)))=true then
 (oa n (354:Int) b0 b01 b02 b03 b04 b05 (decide ((r1.n:Int)>(0:Int))) b07 r1 r2).bind fun v=>
 k (v.1,(v.2.1,(v.2.2.1,(v.2.2.2.1,(v.2.2.2.2.1,(v.2.2.2.2.2.1,(v.2.2.2.2.2.2.1,(v.2.2.2.2.2.2.2.1,(v.2.2.2.2.2.2.2.2.1,(v.2.2.2.2.2.2.2.2.2.1,()))))))))))
 else
 (oa n (503:Int) b0 b01 b02 b03 b04 b05 (decide ((r1.n:Int)>(0:Int))) b07 r1 r2).bind fun v1=>
 k (v1.1,(v1.2.1,(v1.2.2.1,(v1.2.2.2.1,(v1.2.2.2.2.1,(v1.2.2.2.2.2.1,(v1.2.2.2.2.2.2.1,(v1.2.2.2.2.2.2.2.1,(v1.2.2.2.2.2.2.2.2.1,(v1.2.2.2.2.2.2.2.2.2.1,()))))))))))
def Ra (n:Nat) (b0:Bool) (b01:(Sq Int)) (b02:BA) (b03:Bool) (b04 b05:BA) (b06:Bool) (b07:BA) (r1 r2:(Sq BA)):Option U0:=Re n b0 b01 b02 b03 b04 b05 b06 b07 r1 r2 some
theorem Zr (n:Nat) {S:Type}:∀ b0 b01 b02 b03 b04 b05 b06 b07 r1 r2 (φ:_→Option S),(Ra n b0 b01 b02 b03 b04 b05 b06 b07 r1 r2).bind φ=Re n b0 b01 b02 b03 b04 b05 b06 b07 r1 r2 φ:=by
 intros;unfold Ra Re;first | (simp only [ia,da,iB,bB,oL,oX,nB,Option.bind_some]) | rfl
def pg (n:Nat):Hint OutS:={ live:=fun c=>[],run:=fun c=>none,xm:=fun c q=>none,nb:=[(71,1,.frz (.int .i64)),(71,5,.prm 9),(71,8,.prm 9)] }
theorem Vm (n:Nat):qa tys (fa OutS (re n)).keep (pg n) n (ba Tryz.f62) 0:=ma (fun _=>rfl) _ _ (by kernel_rfl)
theorem yo (n:Nat):Enters Tryz.prog 62:=enters_of (c:=ba Tryz.f62) Tryz.func62 (by kernel_rfl) (by kernel_rfl)
def Oh:List RSp:=[.one (.ptr 0 0 0)]
def Nh:List RS:=[.box 71 10 false [.dat .bool,.dat (.sl (.int .i64)),.dat .str,.dat .bool,.dat .str,.row 1,.dat .str,.dat .bool,.row 2,.dat .str],.row 9 1 .str true true,.row 9 1 .str true true]
def zo:List Sl:=[.ptr 0 0 0]
def Ao:List RSp:=[]
def tc:List RS:=[.box 71 10 false [.dat .bool,.dat (.sl (.int .i64)),.dat .str,.dat .bool,.dat .str,.row 1,.dat .str,.dat .bool,.row 2,.dat .str],.row 9 1 .str true true,.row 9 1 .str true true]
def Se (y:U0):OutS:=⟨false,Bi (Hb tc ((y.1,(y.2.1,(y.2.2.1,(y.2.2.2.1,(y.2.2.2.2.1,(y.2.2.2.2.2.1,(y.2.2.2.2.2.2.1,(y.2.2.2.2.2.2.2.1,())))))))),(y.2.2.2.2.2.2.2.2.1,(y.2.2.2.2.2.2.2.2.2.1,())))) zo (),Pq (Wp (Hb tc ((y.1,(y.2.1,(y.2.2.1,(y.2.2.2.1,(y.2.2.2.2.1,(y.2.2.2.2.2.1,(y.2.2.2.2.2.2.1,(y.2.2.2.2.2.2.2.1,())))))))),(y.2.2.2.2.2.2.2.2.1,(y.2.2.2.2.2.2.2.2.2.1,())))) Ao ()),Nk (Hb tc ((y.1,(y.2.1,(y.2.2.1,(y.2.2.2.1,(y.2.2.2.2.1,(y.2.2.2.2.2.1,(y.2.2.2.2.2.2.1,(y.2.2.2.2.2.2.2.1,())))))))),(y.2.2.2.2.2.2.2.2.1,(y.2.2.2.2.2.2.2.2.2.1,())))) tc ((y.1,(y.2.1,(y.2.2.1,(y.2.2.2.1,(y.2.2.2.2.1,(y.2.2.2.2.2.1,(y.2.2.2.2.2.2.1,(y.2.2.2.2.2.2.2.1,())))))))),(y.2.2.2.2.2.2.2.2.1,(y.2.2.2.2.2.2.2.2.2.1,())))⟩
theorem uq (n:Nat):EntryOk Tryz.prog gl ⟨62,Ud,none,some (QL Oh Nh (fun σ ρ=>Ra n ρ.1.1 ρ.1.2.1 ρ.1.2.2.1 ρ.1.2.2.2.1 ρ.1.2.2.2.2.1 ρ.1.2.2.2.2.2.1 ρ.1.2.2.2.2.2.2.1 ρ.1.2.2.2.2.2.2.2.1 ρ.2.1 ρ.2.2.1) Se)⟩:=
 Hc (yo n) fun σ ρ y h=>Ja tys_ok (Pf n) mixed (hint:=pg n) (n:=n) Tryz.func62 (Ga (Vm n)) (pa (φ:=fun y=>some (Se y)) (by kernel_rfl) (Zr n ρ.1.1 ρ.1.2.1 ρ.1.2.2.1 ρ.1.2.2.2.1 ρ.1.2.2.2.2.1 ρ.1.2.2.2.2.2.1 ρ.1.2.2.2.2.2.2.1 ρ.1.2.2.2.2.2.2.2.1 ρ.2.1 ρ.2.2.1 _) h)
def je (n:Nat):List Entry:=⟨62,Ud,none,some (QL Oh Nh (fun σ ρ=>Ra n ρ.1.1 ρ.1.2.1 ρ.1.2.2.1 ρ.1.2.2.2.1 ρ.1.2.2.2.2.1 ρ.1.2.2.2.2.2.1 ρ.1.2.2.2.2.2.2.1 ρ.1.2.2.2.2.2.2.2.1 ρ.2.1 ρ.2.2.1) Se)⟩::re n
theorem Kf (n:Nat):AllOk Tryz.prog gl (je n):=.cons (uq n) (Pf n)
def Tb (n:Nat) {R:Type} (l:U1) (b0:Bool) (b01:(Sq Int)) (b02:BA) (b03:Bool) (b04 b05:BA) (b06:Bool) (b07:BA) (r1 r2:(Sq BA)) (k:U0→Option R):Option R:=
 if l.2.1=true then
 (oa n (500:Int) b0 b01 b02 b03 b04 b05 b06 b07 r1 r2).bind fun v=>
 k (v.1,(v.2.1,(v.2.2.1,(v.2.2.2.1,(v.2.2.2.2.1,(v.2.2.2.2.2.1,(v.2.2.2.2.2.2.1,(v.2.2.2.2.2.2.2.1,(v.2.2.2.2.2.2.2.2.1,(v.2.2.2.2.2.2.2.2.2.1,()))))))))))
 else
 if b06=true then
  (Kn n l.1).bind fun v1=>
  if v1.2.1=true then
  (lb n b0 b01 b02 b03 b04 b05 b06 b07 r1 r2).bind fun v2=>
  k (v2.1,(v2.2.1,(v2.2.2.1,(v2.2.2.2.1,(v2.2.2.2.2.1,(v2.2.2.2.2.2.1,(v2.2.2.2.2.2.2.1,(v2.2.2.2.2.2.2.2.1,(v2.2.2.2.2.2.2.2.2.1,(v2.2.2.2.2.2.2.2.2.2.1,()))))))))))
  else
  if Wa v1.1 (⟨#[13,10]⟩:BA)=true then
   if Wa b05 (v1.1++(⟨#[13,10]⟩:BA))=true then
   k (b0,(b01,(b02,(b03,(b04,((b05++(v1.1++(⟨#[13,10]⟩:BA))),(b06,(b07,(r1,(r2,()))))))))))
   else
   none
  else
   none
 else
  (Da n l.1 (⟨#[69,72,76,79,32]⟩:BA)).bind fun v3=>
  if v3=true then
  (oa n (250:Int) b0 b01 b02 b03 b04 b05 b06 b07 r1 r2).bind fun v4=>
  k (v4.1,(v4.2.1,(v4.2.2.1,(v4.2.2.2.1,(v4.2.2.2.2.1,(v4.2.2.2.2.2.1,(v4.2.2.2.2.2.2.1,(v4.2.2.2.2.2.2.2.1,(v4.2.2.2.2.2.2.2.2.1,(v4.2.2.2.2.2.2.2.2.2.1,()))))))))))
  else
  (Da n l.1 (⟨#[76,72,76,79,32]⟩:BA)).bind fun v5=>
  if v5=true then
   (oa n (250:Int) b0 b01 b02 b03 b04 b05 b06 b07 r1 r2).bind fun v6=>
   k (v6.1,(v6.2.1,(v6.2.2.1,(v6.2.2.2.1,(v6.2.2.2.2.1,(v6.2.2.2.2.2.1,(v6.2.2.2.2.2.2.1,(v6.2.2.2.2.2.2.2.1,(v6.2.2.2.2.2.2.2.2.1,(v6.2.2.2.2.2.2.2.2.2.1,()))))))))))
  else
   (Da n l.1 (⟨#[77,65,73,76,32,70,82,79,77,58,60]⟩:BA)).bind fun v7=>
   if v7=true then
   if 0≤(11:Int)∧(11:Int)≤(l.1.size:Int) then
    (Lb n (l.1.extract (Int.toNat (11:Int)) (Int.toNat (l.1.size:Int))) (⟨#[62]⟩:BA)).bind fun v8=>
    if v8=true then
    if 0≤(IntKind.wrap .i64 ((l.1.size:Int) - (1:Int)))∧(IntKind.wrap .i64 ((l.1.size:Int) - (1:Int)))≤(l.1.size:Int) then
     if 0≤(11:Int)∧(11:Int)≤(IntKind.wrap .i64 ((l.1.size:Int) - (1:Int))) then
     (Mb n (l.1.extract (Int.toNat (11:Int)) (Int.toNat (IntKind.wrap .i64 ((l.1.size:Int) - (1:Int))))) b0 b01 b02 b03 b04 b05 b06 b07 r1 r2).bind fun v9=>
     k (v9.1,(v9.2.1,(v9.2.2.1,(v9.2.2.2.1,(v9.2.2.2.2.1,(v9.2.2.2.2.2.1,(v9.2.2.2.2.2.2.1,(v9.2.2.2.2.2.2.2.1,(v9.2.2.2.2.2.2.2.2.1,(v9.2.2.2.2.2.2.2.2.2.1,()))))))))))
     else
     none
    else
     none
    else
    (Da n l.1 (⟨#[82,67,80,84,32,84,79,58]⟩:BA)).bind fun v10=>
    if v10=true then
     if 0≤(8:Int)∧(8:Int)≤(l.1.size:Int) then
     (Sa n (l.1.extract (Int.toNat (8:Int)) (Int.toNat (l.1.size:Int))) b0 b01 b02 b03 b04 b05 b06 b07 r1 r2).bind fun v11=>
     k (v11.1,(v11.2.1,(v11.2.2.1,(v11.2.2.2.1,(v11.2.2.2.2.1,(v11.2.2.2.2.2.1,(v11.2.2.2.2.2.2.1,(v11.2.2.2.2.2.2.2.1,(v11.2.2.2.2.2.2.2.2.1,(v11.2.2.2.2.2.2.2.2.2.1,()))))))))))
     else
     none
    else
     if (l.1.toList==(⟨#[68,65,84,65]⟩:BA).toList)=true then
     (Ra n b0 b01 b02 b03 b04 b05 b06 b07 r1 r2).bind fun v12=>
     k (v12.1,(v12.2.1,(v12.2.2.1,(v12.2.2.2.1,(v12.2.2.2.2.1,(v12.2.2.2.2.2.1,(v12.2.2.2.2.2.2.1,(v12.2.2.2.2.2.2.2.1,(v12.2.2.2.2.2.2.2.2.1,(v12.2.2.2.2.2.2.2.2.2.1,()))))))))))
     else
     if (l.1.toList==(⟨#[81,85,73,84]⟩:BA).toList)=true then
      (oa n (221:Int) b0 b01 b02 b03 b04 b05 b06 b07 r1 r2).bind fun v13=>
      k (v13.1,(v13.2.1,(v13.2.2.1,(v13.2.2.2.1,(v13.2.2.2.2.1,(v13.2.2.2.2.2.1,(v13.2.2.2.2.2.2.1,(v13.2.2.2.2.2.2.2.1,(v13.2.2.2.2.2.2.2.2.1,(v13.2.2.2.2.2.2.2.2.2.1,()))))))))))
     else
      (oa n (500:Int) b0 b01 b02 b03 b04 b05 b06 b07 r1 r2).bind fun v14=>
      k (v14.1,(v14.2.1,(v14.2.2.1,(v14.2.2.2.1,(v14.2.2.2.2.1,(v14.2.2.2.2.2.1,(v14.2.2.2.2.2.2.1,(v14.2.2.2.2.2.2.2.1,(v14.2.2.2.2.2.2.2.2.1,(v14.2.2.2.2.2.2.2.2.2.1,()))))))))))
   else
    none
   else
   (Da n l.1 (⟨#[82,67,80,84,32,84,79,58]⟩:BA)).bind fun v15=>
   if v15=true then
    if 0≤(8:Int)∧(8:Int)≤(l.1.size:Int) then
    (Sa n (l.1.extract (Int.toNat (8:Int)) (Int.toNat (l.1.size:Int))) b0 b01 b02 b03 b04 b05 b06 b07 r1 r2).bind fun v16=>
    k (v16.1,(v16.2.1,(v16.2.2.1,(v16.2.2.2.1,(v16.2.2.2.2.1,(v16.2.2.2.2.2.1,(v16.2.2.2.2.2.2.1,(v16.2.2.2.2.2.2.2.1,(v16.2.2.2.2.2.2.2.2.1,(v16.2.2.2.2.2.2.2.2.2.1,()))))))))))
    else
    none
   else
    if (l.1.toList==(⟨#[68,65,84,65]⟩:BA).toList)=true then
    (Ra n b0 b01 b02 b03 b04 b05 b06 b07 r1 r2).bind fun v17=>
    k (v17.1,(v17.2.1,(v17.2.2.1,(v17.2.2.2.1,(v17.2.2.2.2.1,(v17.2.2.2.2.2.1,(v17.2.2.2.2.2.2.1,(v17.2.2.2.2.2.2.2.1,(v17.2.2.2.2.2.2.2.2.1,(v17.2.2.2.2.2.2.2.2.2.1,()))))))))))
    else
    if (l.1.toList==(⟨#[81,85,73,84]⟩:BA).toList)=true then
     (oa n (221:Int) b0 b01 b02 b03 b04 b05 b06 b07 r1 r2).bind fun v18=>
     k (v18.1,(v18.2.1,(v18.2.2.1,(v18.2.2.2.1,(v18.2.2.2.2.1,(v18.2.2.2.2.2.1,(v18.2.2.2.2.2.2.1,(v18.2.2.2.2.2.2.2.1,(v18.2.2.2.2.2.2.2.2.1,(v18.2.2.2.2.2.2.2.2.2.1,()))))))))))
    else
     (oa n (500:Int) b0 b01 b02 b03 b04 b05 b06 b07 r1 r2).bind fun v19=>
     k (v19.1,(v19.2.1,(v19.2.2.1,(v19.2.2.2.1,(v19.2.2.2.2.1,(v19.2.2.2.2.2.1,(v19.2.2.2.2.2.2.1,(v19.2.2.2.2.2.2.2.1,(v19.2.2.2.2.2.2.2.2.1,(v19.2.2.2.2.2.2.2.2.2.1,()))))))))))
def mb (n:Nat) (l:U1) (b0:Bool) (b01:(Sq Int)) (b02:BA) (b03:Bool) (b04 b05:BA) (b06:Bool) (b07:BA) (r1 r2:(Sq BA)):Option U0:=Tb n l b0 b01 b02 b03 b04 b05 b06 b07 r1 r2 some
theorem ks (n:Nat) {S:Type}:∀ l b0 b01 b02 b03 b04 b05 b06 b07 r1 r2 (φ:_→Option S),(mb n l b0 b01 b02 b03 b04 b05 b06 b07 r1 r2).bind φ=Tb n l b0 b01 b02 b03 b04 b05 b06 b07 r1 r2 φ:=by
 intros;unfold mb Tb;first | (simp only [ia,da,iB,bB,oL,oX,nB,Option.bind_some]) | rfl
def rg (n:Nat):Hint OutS:={ live:=fun c=>[],run:=fun c=>none,xm:=fun c q=>none,nb:=[(71,1,.frz (.int .i64)),(71,5,.prm 9),(71,8,.prm 9)] }
theorem Ym (n:Nat):qa tys (fa OutS (je n)).keep (rg n) n (ba Tryz.f35) 0:=ma (fun _=>rfl) _ _ (by kernel_rfl)
theorem Io (n:Nat):Enters Tryz.prog 35:=enters_of (c:=ba Tryz.f35) Tryz.func35 (by kernel_rfl) (by kernel_rfl)
def Sh:List RSp:=[.one (.ptr 0 0 0),.one (.dat (.pair .str (.pair .bool .unit)))]
def Rh:List RS:=[.box 71 10 false [.dat .bool,.dat (.sl (.int .i64)),.dat .str,.dat .bool,.dat .str,.row 1,.dat .str,.dat .bool,.row 2,.dat .str],.row 9 1 .str true true,.row 9 1 .str true true]
def Jo:List Sl:=[.ptr 0 0 0,.top]
def Ko:List RSp:=[]
def vc:List RS:=[.box 71 10 false [.dat .bool,.dat (.sl (.int .i64)),.dat .str,.dat .bool,.dat .str,.row 1,.dat .str,.dat .bool,.row 2,.dat .str],.row 9 1 .str true true,.row 9 1 .str true true]
def Ue (y:U0):OutS:=⟨false,Bi (Hb vc ((y.1,(y.2.1,(y.2.2.1,(y.2.2.2.1,(y.2.2.2.2.1,(y.2.2.2.2.2.1,(y.2.2.2.2.2.2.1,(y.2.2.2.2.2.2.2.1,())))))))),(y.2.2.2.2.2.2.2.2.1,(y.2.2.2.2.2.2.2.2.2.1,())))) Jo (),Pq (Wp (Hb vc ((y.1,(y.2.1,(y.2.2.1,(y.2.2.2.1,(y.2.2.2.2.1,(y.2.2.2.2.2.1,(y.2.2.2.2.2.2.1,(y.2.2.2.2.2.2.2.1,())))))))),(y.2.2.2.2.2.2.2.2.1,(y.2.2.2.2.2.2.2.2.2.1,())))) Ko ()),Nk (Hb vc ((y.1,(y.2.1,(y.2.2.1,(y.2.2.2.1,(y.2.2.2.2.1,(y.2.2.2.2.2.1,(y.2.2.2.2.2.2.1,(y.2.2.2.2.2.2.2.1,())))))))),(y.2.2.2.2.2.2.2.2.1,(y.2.2.2.2.2.2.2.2.2.1,())))) vc ((y.1,(y.2.1,(y.2.2.1,(y.2.2.2.1,(y.2.2.2.2.1,(y.2.2.2.2.2.1,(y.2.2.2.2.2.2.1,(y.2.2.2.2.2.2.2.1,())))))))),(y.2.2.2.2.2.2.2.2.1,(y.2.2.2.2.2.2.2.2.2.1,())))⟩
theorem wq (n:Nat):EntryOk Tryz.prog gl ⟨35,Ud,none,some (QL Sh Rh (fun σ ρ=>mb n σ.2.1.1 ρ.1.1 ρ.1.2.1 ρ.1.2.2.1 ρ.1.2.2.2.1 ρ.1.2.2.2.2.1 ρ.1.2.2.2.2.2.1 ρ.1.2.2.2.2.2.2.1 ρ.1.2.2.2.2.2.2.2.1 ρ.2.1 ρ.2.2.1) Ue)⟩:=
 Hc (Io n) fun σ ρ y h=>Ja tys_ok (Kf n) mixed (hint:=rg n) (n:=n) Tryz.func35 (Ga (Ym n)) (pa (φ:=fun y=>some (Ue y)) (by kernel_rfl) (ks n σ.2.1.1 ρ.1.1 ρ.1.2.1 ρ.1.2.2.1 ρ.1.2.2.2.1 ρ.1.2.2.2.2.1 ρ.1.2.2.2.2.2.1 ρ.1.2.2.2.2.2.2.1 ρ.1.2.2.2.2.2.2.2.1 ρ.2.1 ρ.2.2.1 _) h)
def Fb (n:Nat):List Entry:=⟨35,Ud,none,some (QL Sh Rh (fun σ ρ=>mb n σ.2.1.1 ρ.1.1 ρ.1.2.1 ρ.1.2.2.1 ρ.1.2.2.2.1 ρ.1.2.2.2.2.1 ρ.1.2.2.2.2.2.1 ρ.1.2.2.2.2.2.2.1 ρ.1.2.2.2.2.2.2.2.1 ρ.2.1 ρ.2.2.1) Ue)⟩::je n
theorem Of (n:Nat):AllOk Tryz.prog gl (Fb n):=.cons (wq n) (Kf n)
def Ya (n:Nat) {R:Type} (t25:(Sq U1)) (t26 t27:Int) (p:Bool) (p1:(Sq Int)) (p2:BA) (p3:Bool) (p4 p5:BA) (p6:Bool) (p7:BA) (r11 r21:(Sq BA)) (kn:(Sq U1)→Int→Int→Bool→(Sq Int)→BA→Bool→BA→BA→Bool→BA→(Sq BA)→(Sq BA)→Option R) (ko:U8→Option R) (kr:Unit→Option R) (kp:Int→Option R):Option R:=
 if (decide (t27<t26))=true then
 if 0≤t27∧t27<(t25.n:Int) then
  (mb n (((t25.at' (Int.toNat t27))).1,((((t25.at' (Int.toNat t27))).2).1,())) p p1 p2 p3 p4 p5 p6 p7 r11 r21).bind fun v1=>
  kn t25 t26 (IntKind.wrap .i64 (t27+(1:Int))) v1.1 v1.2.1 v1.2.2.1 v1.2.2.2.1 v1.2.2.2.2.1 v1.2.2.2.2.2.1 v1.2.2.2.2.2.2.1 v1.2.2.2.2.2.2.2.1 v1.2.2.2.2.2.2.2.2.1 v1.2.2.2.2.2.2.2.2.2.1
 else
  none
 else
 ko (p,p1,p2,p3,p4,p5,p6,p7,r11,r21)
def wa (n:Nat):Nat→(Sq U1)→Int→Int→Bool→(Sq Int)→BA→Bool→BA→BA→Bool→BA→(Sq BA)→(Sq BA)→Option (Lx U8 Unit)
 | 0,_,_,_,_,_,_,_,_,_,_,_,_,_=>none
 | m+1,t25,t26,t27,p,p1,p2,p3,p4,p5,p6,p7,r11,r21=>Ya n t25 t26 t27 p p1 p2 p3 p4 p5 p6 p7 r11 r21 (wa n m) (fun a=>some (.out a)) (fun a=>some (.ret a)) (fun p=>some (.pan p))
theorem Lm (n m:Nat) {S:Type}:∀ t25 t26 t27 p p1 p2 p3 p4 p5 p6 p7 r11 r21 (φ:_→Option S),(wa n (m+1) t25 t26 t27 p p1 p2 p3 p4 p5 p6 p7 r11 r21).bind φ=Ya n t25 t26 t27 p p1 p2 p3 p4 p5 p6 p7 r11 r21 (fun t25 t26 t27 p p1 p2 p3 p4 p5 p6 p7 r11 r21=>(wa n m t25 t26 t27 p p1 p2 p3 p4 p5 p6 p7 r11 r21).bind φ) (fun a=>φ (.out a)) (fun a=>φ (.ret a)) (fun p=>φ (.pan p)):=by
 intros;first | (simp only [wa,Ya,ia,da,iB,bB,oL,oX,nB,Option.bind_some]) | rfl
def bd:List Sl:=.ptr 0 0 0::tp 24 (.dat (.sl (.pair .str (.pair .bool .unit)))::.dat (.int .i64)::.dat (.int .i64)::tp 11 [])
def Zc:List RS:=[.box 71 10 false [.dat .bool,.dat (.sl (.int .i64)),.dat .str,.dat .bool,.dat .str,.row 1,.dat .str,.dat .bool,.row 2,.dat .str],.row 9 1 .str true true,.row 9 1 .str true true,.ghost [.ptr 0 0 0,.top]]
def Wi:List Sl:=.ptr 0 0 0::tp 38 []
def Vi:List RS:=[.box 71 10 false [.dat .bool,.dat (.sl (.int .i64)),.dat .str,.dat .bool,.dat .str,.row 1,.dat .str,.dat .bool,.row 2,.dat .str],.row 9 1 .str true true,.row 9 1 .str true true,.ghost [.ptr 0 0 0,.top]]
def Ea (K:XE→List AV→ea→Option OutS):Lx U8 Unit→Option OutS:=fun x=>lM x (fun a=>Ky Wi Vi () ((a.1,(a.2.1,(a.2.2.1,(a.2.2.2.1,(a.2.2.2.2.1,(a.2.2.2.2.2.1,(a.2.2.2.2.2.2.1,(a.2.2.2.2.2.2.2.1,())))))))),(a.2.2.2.2.2.2.2.2.1,(a.2.2.2.2.2.2.2.2.2,((),())))) (K (.exit 0))) (fun _=>none) (fun _=>none)
def Rb (n:Nat) {R:Type} (b0:Bool) (b01:(Sq Int)) (b02:BA) (b03:Bool) (b04 b05:BA) (b06:Bool) (b07:BA) (r1:(Sq Int)) (r2 r3:(Sq BA)) (k:U2→Option R):Option R:=
 (On n (b02,(b03,())) r1).bind fun v=>
 (wa n n v.2.1 (v.2.1.n:Int) (0:Int) b0 b01 v.1.1 v.1.2.1 b04 b05 b06 (⟨#[]⟩:BA) r2 r3).bind fun x_1=>lM x_1
 (fun a_2=>
  k (a_2.2.2.2.2.2.2.2.1,(a_2.1,(a_2.2.1,(a_2.2.2.1,(a_2.2.2.2.1,(a_2.2.2.2.2.1,(a_2.2.2.2.2.2.1,(a_2.2.2.2.2.2.2.1,(a_2.2.2.2.2.2.2.2.1,(a_2.2.2.2.2.2.2.2.2.1,(a_2.2.2.2.2.2.2.2.2.2,()))))))))))))
 (fun _=>none)
 (fun _=>none)
def Pa (n:Nat) (b0:Bool) (b01:(Sq Int)) (b02:BA) (b03:Bool) (b04 b05:BA) (b06:Bool) (b07:BA) (r1:(Sq Int)) (r2 r3:(Sq BA)):Option U2:=Rb n b0 b01 b02 b03 b04 b05 b06 b07 r1 r2 r3 some
theorem Wr (n:Nat) {S:Type}:∀ b0 b01 b02 b03 b04 b05 b06 b07 r1 r2 r3 (φ:_→Option S),(Pa n b0 b01 b02 b03 b04 b05 b06 b07 r1 r2 r3).bind φ=Rb n b0 b01 b02 b03 b04 b05 b06 b07 r1 r2 r3 φ:=by
 intros;unfold Pa Rb;first | (simp only [ia,da,iB,bB,oL,oX,nB,Option.bind_some]) | rfl
def Xb (n:Nat):Hint OutS:={ live:=fun c=>(cond (Nat.beq c 0) [(0,none),(25,some (.sl (.pair .str (.pair .bool .unit)))),(26,none),(27,none)] []),run:=fun c=>(cond (Nat.beq c 0) (some (XA bd Zc fun σ ρ K=>(wa n n σ.1 σ.2.1 σ.2.2.1 ρ.1.1 ρ.1.2.1 ρ.1.2.2.1 ρ.1.2.2.2.1 ρ.1.2.2.2.2.1 ρ.1.2.2.2.2.2.1 ρ.1.2.2.2.2.2.2.1 ρ.1.2.2.2.2.2.2.2.1 ρ.2.1 ρ.2.2.1).bind (Ea K))) none),xm:=fun c q=>(cond (Nat.beq c 0&&Nat.beq (q.getD 1000000) 0&&q.isSome) (some [(0,none)]) none),nb:=[(71,1,.frz (.int .i64)),(71,5,.prm 9),(71,8,.prm 9)],na:=true }
def Wb (n:Nat) (K:XE→List AV→ea→Option OutS) (m:Nat) (t25:(Sq U1)) (t26:Int) (t27:Int) (p:Bool) (p1:(Sq Int)) (p2:BA) (p3:Bool) (p4:BA) (p5:BA) (p6:Bool) (p7:BA) (r11:(Sq BA)) (r21:(Sq BA)):Option OutS:=lq tys (fa OutS (Fb n)).keep (Xb n) n (La [1,1,1,0,1,0,0] (ba Tryz.f14)) 0 bd Zc K m (t25,(t26,(t27,()))) ((p,(p1,(p2,(p3,(p4,(p5,(p6,(p7,())))))))),(r11,(r21,((),()))))
theorem mg (n:Nat) (K:XE→List AV→ea→Option OutS):∀ (m:Nat) t25 t26 t27 p p1 p2 p3 p4 p5 p6 p7 r11 r21,Wb n K m t25 t26 t27 p p1 p2 p3 p4 p5 p6 p7 r11 r21=(wa n m t25 t26 t27 p p1 p2 p3 p4 p5 p6 p7 r11 r21).bind (Ea K)
 | 0,_,_,_,_,_,_,_,_,_,_,_,_,_=>by kernel_rfl
 | m+1,t25,t26,t27,p,p1,p2,p3,p4,p5,p6,p7,r11,r21=>by
  have h1:Wb n K (m+1) t25 t26 t27 p p1 p2 p3 p4 p5 p6 p7 r11 r21=Ya n t25 t26 t27 p p1 p2 p3 p4 p5 p6 p7 r11 r21 (Wb n K m) (fun a=>Ea K (.out a)) (fun a=>Ea K (.ret a)) (fun p=>Ea K (.pan p)):=by kernel_rfl
  have h2:Wb n K m=fun t25 t26 t27 p p1 p2 p3 p4 p5 p6 p7 r11 r21=>(wa n m t25 t26 t27 p p1 p2 p3 p4 p5 p6 p7 r11 r21).bind (Ea K):=by
   repeat (refine funext fun _=>?_)
   exact mg n K m _ _ _ _ _ _ _ _ _ _ _ _ _
  rw [h1,h2];exact (Lm n m _ _ _ _ _ _ _ _ _ _ _ _ _ (Ea K)).symm
theorem Ol (n:Nat):Im tys (fa OutS (Fb n)).keep (Xb n) n (La [1,1,1,0,1,0,0] (ba Tryz.f14)) 0:=Mc (sp:=bd) (rp:=Zc) (by kernel_rfl) fun K σ ρ=>mg n K n σ.1 σ.2.1 σ.2.2.1 ρ.1.1 ρ.1.2.1 ρ.1.2.2.1 ρ.1.2.2.2.1 ρ.1.2.2.2.2.1 ρ.1.2.2.2.2.2.1 ρ.1.2.2.2.2.2.2.1 ρ.1.2.2.2.2.2.2.2.1 ρ.2.1 ρ.2.2.1
theorem Mm (n:Nat):qa tys (fa OutS (Fb n)).keep (Xb n) n (ba Tryz.f14) 0:=⟨trivial,⟨trivial,⟨trivial,⟨⟨trivial,⟨Ol n,⟨trivial,⟨⟨trivial,trivial⟩,⟨⟨trivial,trivial⟩,trivial⟩⟩⟩⟩⟩,⟨trivial,trivial⟩⟩⟩⟩⟩
theorem go (n:Nat):Enters Tryz.prog 14:=enters_of (c:=ba Tryz.f14) Tryz.func14 (by kernel_rfl) (by kernel_rfl)
def Ih:List RSp:=[.one (.ptr 0 0 0),.one (.row 1)]
def Hh:List RS:=[.box 71 10 false [.dat .bool,.dat (.sl (.int .i64)),.dat .str,.dat .bool,.dat .str,.row 2,.dat .str,.dat .bool,.row 3,.dat .str],.row 5 1 (.int .u8) false true,.row 9 1 .str true true,.row 9 1 .str true true]
def io:List Sl:=[.ptr 0 0 0,.top]
def mo:List RSp:=[.one (.dat .str)]
def nc:List RS:=[.box 71 10 false [.dat .bool,.dat (.sl (.int .i64)),.dat .str,.dat .bool,.dat .str,.row 1,.dat .str,.dat .bool,.row 2,.dat .str],.row 9 1 .str true true,.row 9 1 .str true true]
def Me (y:U2):OutS:=⟨false,Bi (Hb nc ((y.2.1,(y.2.2.1,(y.2.2.2.1,(y.2.2.2.2.1,(y.2.2.2.2.2.1,(y.2.2.2.2.2.2.1,(y.2.2.2.2.2.2.2.1,(y.2.2.2.2.2.2.2.2.1,())))))))),(y.2.2.2.2.2.2.2.2.2.1,(y.2.2.2.2.2.2.2.2.2.2.1,())))) io (),Pq (Wp (Hb nc ((y.2.1,(y.2.2.1,(y.2.2.2.1,(y.2.2.2.2.1,(y.2.2.2.2.2.1,(y.2.2.2.2.2.2.1,(y.2.2.2.2.2.2.2.1,(y.2.2.2.2.2.2.2.2.1,())))))))),(y.2.2.2.2.2.2.2.2.2.1,(y.2.2.2.2.2.2.2.2.2.2.1,())))) mo ((y.1,()),())),Nk (Hb nc ((y.2.1,(y.2.2.1,(y.2.2.2.1,(y.2.2.2.2.1,(y.2.2.2.2.2.1,(y.2.2.2.2.2.2.1,(y.2.2.2.2.2.2.2.1,(y.2.2.2.2.2.2.2.2.1,())))))))),(y.2.2.2.2.2.2.2.2.2.1,(y.2.2.2.2.2.2.2.2.2.2.1,())))) nc ((y.2.1,(y.2.2.1,(y.2.2.2.1,(y.2.2.2.2.1,(y.2.2.2.2.2.1,(y.2.2.2.2.2.2.1,(y.2.2.2.2.2.2.2.1,(y.2.2.2.2.2.2.2.2.1,())))))))),(y.2.2.2.2.2.2.2.2.2.1,(y.2.2.2.2.2.2.2.2.2.2.1,())))⟩
theorem pq (n:Nat):EntryOk Tryz.prog gl ⟨14,Ud,none,some (QL Ih Hh (fun σ ρ=>Pa n ρ.1.1 ρ.1.2.1 ρ.1.2.2.1 ρ.1.2.2.2.1 ρ.1.2.2.2.2.1 ρ.1.2.2.2.2.2.1 ρ.1.2.2.2.2.2.2.1 ρ.1.2.2.2.2.2.2.2.1 ρ.2.1 ρ.2.2.1 ρ.2.2.2.1) Me)⟩:=
 Hc (go n) fun σ ρ y h=>Ja tys_ok (Of n) mixed (hint:=Xb n) (n:=n) Tryz.func14 (Ga (Mm n)) (pa (φ:=fun y=>some (Me y)) (by kernel_rfl) (Wr n ρ.1.1 ρ.1.2.1 ρ.1.2.2.1 ρ.1.2.2.2.1 ρ.1.2.2.2.2.1 ρ.1.2.2.2.2.2.1 ρ.1.2.2.2.2.2.2.1 ρ.1.2.2.2.2.2.2.2.1 ρ.2.1 ρ.2.2.1 ρ.2.2.2.1 _) h)
def Gh (n:Nat):List Entry:=⟨14,Ud,none,some (QL Ih Hh (fun σ ρ=>Pa n ρ.1.1 ρ.1.2.1 ρ.1.2.2.1 ρ.1.2.2.2.1 ρ.1.2.2.2.2.1 ρ.1.2.2.2.2.2.1 ρ.1.2.2.2.2.2.2.1 ρ.1.2.2.2.2.2.2.2.1 ρ.2.1 ρ.2.2.1 ρ.2.2.2.1) Me)⟩::Fb n
theorem Pl (n:Nat):AllOk Tryz.prog gl (Gh n):=.cons (pq n) (Of n)
def Cb (n:Nat):List Entry:=ud::Gh n
theorem Ic (n:Nat):AllOk Tryz.prog gl (Cb n):=.cons Ch (Pl n)
def Ef (n:Nat) {R:Type} (b0:Bool) (b01:(Sq Int)) (b02:BA) (b03:Bool) (b04 b05:BA) (b06:Bool) (b07:BA) (r1 r2:(Sq BA)) (k:U4→Option R):Option R:=
 (Iv 16 r2).bind fun v=>
 k (b0,(b01,(b02,(b03,(b04,(b05,(b06,(b07,(v.1,(r1,(r2,())))))))))))
def ab (n:Nat) (b0:Bool) (b01:(Sq Int)) (b02:BA) (b03:Bool) (b04 b05:BA) (b06:Bool) (b07:BA) (r1 r2:(Sq BA)):Option U4:=Ef n b0 b01 b02 b03 b04 b05 b06 b07 r1 r2 some
theorem Tt (n:Nat) {S:Type}:∀ b0 b01 b02 b03 b04 b05 b06 b07 r1 r2 (φ:_→Option S),(ab n b0 b01 b02 b03 b04 b05 b06 b07 r1 r2).bind φ=Ef n b0 b01 b02 b03 b04 b05 b06 b07 r1 r2 φ:=by
 intros;unfold ab Ef;first | (simp only [ia,da,iB,bB,oL,oX,nB,Option.bind_some]) | rfl
def eh (n:Nat):Hint OutS:={ live:=fun c=>[],run:=fun c=>none,xm:=fun c q=>none }
theorem co (n:Nat):qa tys ((fa OutS (Cb n)).view [32,38,80]) (eh n) n (ba Tryz.f17) 0:=ma (fun _=>rfl) _ _ (by kernel_rfl)
theorem mq (n:Nat):Enters Tryz.prog 17:=enters_of (c:=ba Tryz.f17) Tryz.func17 (by kernel_rfl) (by kernel_rfl)
def Ui:List RSp:=[.one (.ptr 0 0 0)]
def Ti:List RS:=[.box 71 10 false [.dat .bool,.dat (.sl (.int .i64)),.dat .str,.dat .bool,.dat .str,.row 1,.dat .str,.dat .bool,.row 2,.dat .str],.row 9 1 .str true true,.row 9 1 .str true true]
def nq:List Sl:=[.ptr 0 0 0]
def oq:List RSp:=[.one (.row 1)]
def Jc:List RS:=[.box 71 10 false [.dat .bool,.dat (.sl (.int .i64)),.dat .str,.dat .bool,.dat .str,.row 2,.dat .str,.dat .bool,.row 3,.dat .str],.row 9 1 .str true true,.row 9 1 .str true true,.row 9 1 .str true true]
def Ff (y:U4):OutS:=⟨false,Bi (Hb Jc ((y.1,(y.2.1,(y.2.2.1,(y.2.2.2.1,(y.2.2.2.2.1,(y.2.2.2.2.2.1,(y.2.2.2.2.2.2.1,(y.2.2.2.2.2.2.2.1,())))))))),(y.2.2.2.2.2.2.2.2.1,(y.2.2.2.2.2.2.2.2.2.1,(y.2.2.2.2.2.2.2.2.2.2.1,()))))) nq (),Pq (Wp (Hb Jc ((y.1,(y.2.1,(y.2.2.1,(y.2.2.2.1,(y.2.2.2.2.1,(y.2.2.2.2.2.1,(y.2.2.2.2.2.2.1,(y.2.2.2.2.2.2.2.1,())))))))),(y.2.2.2.2.2.2.2.2.1,(y.2.2.2.2.2.2.2.2.2.1,(y.2.2.2.2.2.2.2.2.2.2.1,()))))) oq ((),())),Nk (Hb Jc ((y.1,(y.2.1,(y.2.2.1,(y.2.2.2.1,(y.2.2.2.2.1,(y.2.2.2.2.2.1,(y.2.2.2.2.2.2.1,(y.2.2.2.2.2.2.2.1,())))))))),(y.2.2.2.2.2.2.2.2.1,(y.2.2.2.2.2.2.2.2.2.1,(y.2.2.2.2.2.2.2.2.2.2.1,()))))) Jc ((y.1,(y.2.1,(y.2.2.1,(y.2.2.2.1,(y.2.2.2.2.1,(y.2.2.2.2.2.1,(y.2.2.2.2.2.2.1,(y.2.2.2.2.2.2.2.1,())))))))),(y.2.2.2.2.2.2.2.2.1,(y.2.2.2.2.2.2.2.2.2.1,(y.2.2.2.2.2.2.2.2.2.2.1,()))))⟩
theorem Vr (n:Nat):EntryOk Tryz.prog gl ⟨17,Ud,none,some (QL Ui Ti (fun σ ρ=>ab n ρ.1.1 ρ.1.2.1 ρ.1.2.2.1 ρ.1.2.2.2.1 ρ.1.2.2.2.2.1 ρ.1.2.2.2.2.2.1 ρ.1.2.2.2.2.2.2.1 ρ.1.2.2.2.2.2.2.2.1 ρ.2.1 ρ.2.2.1) Ff)⟩:=
 Hc (mq n) fun σ ρ y h=>mD tys_ok (Ic n) mixed (hint:=eh n) (n:=n) Tryz.func17 (Ga (co n)) (pa (φ:=fun y=>some (Ff y)) (by kernel_rfl) (Tt n ρ.1.1 ρ.1.2.1 ρ.1.2.2.1 ρ.1.2.2.2.1 ρ.1.2.2.2.2.1 ρ.1.2.2.2.2.2.1 ρ.1.2.2.2.2.2.2.1 ρ.1.2.2.2.2.2.2.2.1 ρ.2.1 ρ.2.2.1 _) h)
def Qb (n:Nat):List Entry:=⟨17,Ud,none,some (QL Ui Ti (fun σ ρ=>ab n ρ.1.1 ρ.1.2.1 ρ.1.2.2.1 ρ.1.2.2.2.1 ρ.1.2.2.2.2.1 ρ.1.2.2.2.2.2.1 ρ.1.2.2.2.2.2.2.1 ρ.1.2.2.2.2.2.2.2.1 ρ.2.1 ρ.2.2.1) Ff)⟩::Cb n
theorem jg (n:Nat):AllOk Tryz.prog gl (Qb n):=.cons (Vr n) (Ic n)
def Wf (n:Nat) {R:Type} (a1 b1:(Sq BA)) (i:Int) (kn:(Sq BA)→(Sq BA)→Int→Option R) (ko:(Unit)→Option R) (kr:(Bool)→Option R) (kp:Int→Option R):Option R:=
 if (decide (i<(a1.n:Int)))=true then
 if 0≤i∧i<(a1.n:Int) then
  if 0≤i∧i<(b1.n:Int) then
  if (!((a1.at' (Int.toNat i)).toList==(b1.at' (Int.toNat i)).toList))=true then
   kr false
  else
   kn a1 b1 (IntKind.wrap .i64 (i+(1:Int)))
  else
  none
 else
  none
 else
 ko ()
def yb (n:Nat):Nat→(Sq BA)→(Sq BA)→Int→Option (Lx (Unit) (Bool))
 | 0,_,_,_=>none
 | m+1,a1,b1,i=>Wf n a1 b1 i (yb n m) (fun a=>some (.out a)) (fun a=>some (.ret a)) (fun p=>some (.pan p))
theorem Uu (n m:Nat) {S:Type}:∀ a1 b1 i (φ:_→Option S),(yb n (m+1) a1 b1 i).bind φ=Wf n a1 b1 i (fun a1 b1 i=>(yb n m a1 b1 i).bind φ) (fun a=>φ (.out a)) (fun a=>φ (.ret a)) (fun p=>φ (.pan p)):=by
 intros;first | (simp only [yb,Wf,ia,da,iB,bB,oL,oX,nB,Option.bind_some]) | rfl
def Yf:List Sl:=.dat (.sl .str)::.dat (.sl .str)::.top::.top::.top::.dat (.int .i64)::tp 20 []
def Xf:List RS:=[]
def rn:List Sl:=tp 26 []
def qn:List RS:=[]
def tn:List Sl:=tp 4 (.dat .bool::tp 21 [])
def sn:List RS:=[]
def ob (K:XE→List AV→ea→Option Out):Lx (Unit) (Bool)→Option Out:=fun x=>lM x (fun a=>Ky rn qn () () (K (.exit 0))) (fun a=>Ky tn sn (a,()) () (K .ret)) (fun _=>none)
def uk (n:Nat) {R:Type} (a b:(Sq BA)) (k:Bool→Option R):Option R:=
 if ((a.n:Int) !=(b.n:Int))=true then
 k false
 else
 (yb n n a b (0:Int)).bind fun x_1=>lM x_1
  (fun a_2=>
  k true)
  (fun a_3=>
  k a_3)
  (fun _=>none)
def sh (n:Nat) (a b:(Sq BA)):Option Bool:=uk n a b some
theorem pz (n:Nat) {S:Type}:∀ a b (φ:_→Option S),(sh n a b).bind φ=uk n a b φ:=by
 intros;unfold sh uk;first | (simp only [ia,da,iB,bB,oL,oX,nB,Option.bind_some]) | rfl
def Xd (n:Nat):Hint Out:={ live:=fun c=>(cond (Nat.beq c 0) [(0,some (.sl .str)),(1,some (.sl .str)),(5,none)] []),run:=fun c=>(cond (Nat.beq c 0) (some (XA Yf Xf fun σ ρ K=>(yb n n σ.1 σ.2.1 σ.2.2.1).bind (ob K))) none),xm:=fun c q=>(cond (Nat.beq c 0&&Nat.beq (q.getD 1000000) 0&&q.isSome) (some []) (cond (Nat.beq c 1&&q.isNone) (some [(4,none)]) none)) }
def Wd (n:Nat) (K:XE→List AV→ea→Option Out) (m:Nat) (a1:(Sq BA)) (b1:(Sq BA)) (i:Int):Option Out:=lq tys (fa Out (Qb n)) (Xd n) n (La [1,1,0,1,0,0] (ba Tryz.f18)) 0 Yf Xf K m (a1,(b1,(i,()))) ()
theorem dl (n:Nat) (K:XE→List AV→ea→Option Out):∀ (m:Nat) a1 b1 i,Wd n K m a1 b1 i=(yb n m a1 b1 i).bind (ob K)
 | 0,_,_,_=>by kernel_rfl
 | m+1,a1,b1,i=>by
  have h1:Wd n K (m+1) a1 b1 i=Wf n a1 b1 i (Wd n K m) (fun a=>ob K (.out a)) (fun a=>ob K (.ret a)) (fun p=>ob K (.pan p)):=by kernel_rfl
  have h2:Wd n K m=fun a1 b1 i=>(yb n m a1 b1 i).bind (ob K):=by
   repeat (refine funext fun _=>?_)
   exact dl n K m _ _ _
  rw [h1,h2];exact (Uu n m _ _ _ (ob K)).symm
theorem Zt (n:Nat):Im tys (fa Out (Qb n)) (Xd n) n (La [1,1,0,1,0,0] (ba Tryz.f18)) 0:=Mc (sp:=Yf) (rp:=Xf) (by kernel_rfl) fun K σ ρ=>dl n K n σ.1 σ.2.1 σ.2.2.1
theorem Vu (n:Nat):qa tys (fa Out (Qb n)) (Xd n) n (ba Tryz.f18) 0:=⟨trivial,⟨⟨trivial,⟨⟨trivial,trivial⟩,trivial⟩⟩,⟨⟨trivial,⟨Zt n,⟨⟨trivial,⟨trivial,trivial⟩⟩,⟨⟨trivial,⟨⟨trivial,trivial⟩,trivial⟩⟩,trivial⟩⟩⟩⟩,⟨trivial,trivial⟩⟩⟩⟩
theorem lw (n:Nat):Enters Tryz.prog 18:=enters_of (c:=ba Tryz.f18) Tryz.func18 (by kernel_rfl) (by kernel_rfl)
def fp (n:Nat):Entry:=⟨18,qM (.pair (.sl .str) (.pair (.sl .str) .unit)) (.one .bool) (fun xs=>sh n xs.1 xs.2.1),none,none⟩
theorem cy (n:Nat):EntryOk Tryz.prog gl (fp n):=
 Ma (lw n) fun xs y h=>ra tys_ok (jg n) mixed (hint:=Xd n) (n:=n) Tryz.func18 (Ga (Vu n)) (pa (φ:=(fun y=>some (Out.ret (ch (.one .bool) y)))) (by kernel_rfl) (pz n xs.1 xs.2.1 _) h)
def ej (n:Nat):List Entry:=fp n::Qb n
theorem Ej (n:Nat):AllOk Tryz.prog gl (ej n):=.cons (cy n) (jg n)
def Il (n:Nat) {R:Type} (lmtp:Bool) (refuse:(Sq Int)) (k:U0→Option R):Option R:=
 (Iv 8 refuse).bind fun v=>
 k (lmtp,(v.1,((⟨#[]⟩:BA),(false,((⟨#[]⟩:BA),((⟨#[]⟩:BA),(false,((⟨#[]⟩:BA),((⟨0,fun _=>Na .str⟩:Sq BA),((⟨0,fun _=>Na .str⟩:Sq BA),()))))))))))
def Eg (n:Nat) (lmtp:Bool) (refuse:(Sq Int)):Option U0:=Il n lmtp refuse some
theorem MA (n:Nat) {S:Type}:∀ lmtp refuse (φ:_→Option S),(Eg n lmtp refuse).bind φ=Il n lmtp refuse φ:=by
 intros;unfold Eg Il;first | (simp only [ia,da,iB,bB,oL,oX,nB,Option.bind_some]) | rfl
def Am (n:Nat):Hint OutS:={ live:=fun c=>[],run:=fun c=>none,xm:=fun c q=>none,nb:=[(71,1,.frz (.int .i64)),(71,5,.prm 9),(71,8,.prm 9)],na:=true }
theorem kw (n:Nat):qa tys (fa OutS (ej n)).keep (Am n) n (ba Tryz.f9) 0:=ma (fun _=>rfl) _ _ (by kernel_rfl)
theorem Ux (n:Nat):Enters Tryz.prog 9:=enters_of (c:=ba Tryz.f9) Tryz.func9 (by kernel_rfl) (by kernel_rfl)
def mr:List RSp:=[.one (.dat .bool),.one (.dat (.sl (.int .i64)))]
def lr:List RS:=[]
def Vx:List Sl:=[.top,.top]
def Wx:List RSp:=[.one (.ptr 0 0 0)]
def Df:List RS:=[.box 71 10 false [.dat .bool,.dat (.sl (.int .i64)),.dat .str,.dat .bool,.dat .str,.row 1,.dat .str,.dat .bool,.row 2,.dat .str],.row 9 1 .str true true,.row 9 1 .str true true]
def Jl (y:U0):OutS:=⟨false,Bi (Hb Df ((y.1,(y.2.1,(y.2.2.1,(y.2.2.2.1,(y.2.2.2.2.1,(y.2.2.2.2.2.1,(y.2.2.2.2.2.2.1,(y.2.2.2.2.2.2.2.1,())))))))),(y.2.2.2.2.2.2.2.2.1,(y.2.2.2.2.2.2.2.2.2.1,())))) Vx (),Pq (Wp (Hb Df ((y.1,(y.2.1,(y.2.2.1,(y.2.2.2.1,(y.2.2.2.2.1,(y.2.2.2.2.2.1,(y.2.2.2.2.2.2.1,(y.2.2.2.2.2.2.2.1,())))))))),(y.2.2.2.2.2.2.2.2.1,(y.2.2.2.2.2.2.2.2.2.1,())))) Wx ((),())),Nk (Hb Df ((y.1,(y.2.1,(y.2.2.1,(y.2.2.2.1,(y.2.2.2.2.1,(y.2.2.2.2.2.1,(y.2.2.2.2.2.2.1,(y.2.2.2.2.2.2.2.1,())))))))),(y.2.2.2.2.2.2.2.2.1,(y.2.2.2.2.2.2.2.2.2.1,())))) Df ((y.1,(y.2.1,(y.2.2.1,(y.2.2.2.1,(y.2.2.2.2.1,(y.2.2.2.2.2.1,(y.2.2.2.2.2.2.1,(y.2.2.2.2.2.2.2.1,())))))))),(y.2.2.2.2.2.2.2.2.1,(y.2.2.2.2.2.2.2.2.2.1,())))⟩
theorem mz (n:Nat):EntryOk Tryz.prog gl ⟨9,Ud,none,some (QL mr lr (fun σ ρ=>Eg n σ.1.1 σ.2.1.1) Jl)⟩:=
 Hc (Ux n) fun σ ρ y h=>Ja tys_ok (Ej n) mixed (hint:=Am n) (n:=n) Tryz.func9 (Ga (kw n)) (pa (φ:=fun y=>some (Jl y)) (by kernel_rfl) (MA n σ.1.1 σ.2.1.1 _) h)
def rk (n:Nat):List Entry:=⟨9,Ud,none,some (QL mr lr (fun σ ρ=>Eg n σ.1.1 σ.2.1.1) Jl)⟩::ej n
theorem Vk (n:Nat):AllOk Tryz.prog gl (rk n):=.cons (mz n) (Ej n)
def Jd (n:Nat) {R:Type} (b0:Bool) (b01:(Sq Int)) (b02:BA) (b03:Bool) (b04 b05:BA) (b06:Bool) (b07:BA) (r1 r2:(Sq BA)) (k:U2→Option R):Option R:=
 (Ci n (220:Int)).bind fun v=>
 k (v,(b0,(b01,(b02,(b03,(b04,(b05,(b06,(b07,(r1,(r2,())))))))))))
def jb (n:Nat) (b0:Bool) (b01:(Sq Int)) (b02:BA) (b03:Bool) (b04 b05:BA) (b06:Bool) (b07:BA) (r1 r2:(Sq BA)):Option U2:=Jd n b0 b01 b02 b03 b04 b05 b06 b07 r1 r2 some
theorem eo (n:Nat) {S:Type}:∀ b0 b01 b02 b03 b04 b05 b06 b07 r1 r2 (φ:_→Option S),(jb n b0 b01 b02 b03 b04 b05 b06 b07 r1 r2).bind φ=Jd n b0 b01 b02 b03 b04 b05 b06 b07 r1 r2 φ:=by
 intros;unfold jb Jd;first | (simp only [ia,da,iB,bB,oL,oX,nB,Option.bind_some]) | rfl
def lf (n:Nat):Hint OutS:={ live:=fun c=>[],run:=fun c=>none,xm:=fun c q=>none,nb:=[(71,1,.frz (.int .i64)),(71,5,.prm 9),(71,8,.prm 9)] }
theorem Wk (n:Nat):qa tys (fa OutS (rk n)).keep (lf n) n (ba Tryz.f11) 0:=ma (fun _=>rfl) _ _ (by kernel_rfl)
theorem Kl (n:Nat):Enters Tryz.prog 11:=enters_of (c:=ba Tryz.f11) Tryz.func11 (by kernel_rfl) (by kernel_rfl)
def lg:List RSp:=[.one (.ptr 0 0 0)]
def kg:List RS:=[.box 71 10 false [.dat .bool,.dat (.sl (.int .i64)),.dat .str,.dat .bool,.dat .str,.row 1,.dat .str,.dat .bool,.row 2,.dat .str],.row 9 1 .str true true,.row 9 1 .str true true]
def Ll:List Sl:=[.ptr 0 0 0]
def Ml:List RSp:=[.one (.dat .str)]
def Ib:List RS:=[.box 71 10 false [.dat .bool,.dat (.sl (.int .i64)),.dat .str,.dat .bool,.dat .str,.row 1,.dat .str,.dat .bool,.row 2,.dat .str],.row 9 1 .str true true,.row 9 1 .str true true]
def Kd (y:U2):OutS:=⟨false,Bi (Hb Ib ((y.2.1,(y.2.2.1,(y.2.2.2.1,(y.2.2.2.2.1,(y.2.2.2.2.2.1,(y.2.2.2.2.2.2.1,(y.2.2.2.2.2.2.2.1,(y.2.2.2.2.2.2.2.2.1,())))))))),(y.2.2.2.2.2.2.2.2.2.1,(y.2.2.2.2.2.2.2.2.2.2.1,())))) Ll (),Pq (Wp (Hb Ib ((y.2.1,(y.2.2.1,(y.2.2.2.1,(y.2.2.2.2.1,(y.2.2.2.2.2.1,(y.2.2.2.2.2.2.1,(y.2.2.2.2.2.2.2.1,(y.2.2.2.2.2.2.2.2.1,())))))))),(y.2.2.2.2.2.2.2.2.2.1,(y.2.2.2.2.2.2.2.2.2.2.1,())))) Ml ((y.1,()),())),Nk (Hb Ib ((y.2.1,(y.2.2.1,(y.2.2.2.1,(y.2.2.2.2.1,(y.2.2.2.2.2.1,(y.2.2.2.2.2.2.1,(y.2.2.2.2.2.2.2.1,(y.2.2.2.2.2.2.2.2.1,())))))))),(y.2.2.2.2.2.2.2.2.2.1,(y.2.2.2.2.2.2.2.2.2.2.1,())))) Ib ((y.2.1,(y.2.2.1,(y.2.2.2.1,(y.2.2.2.2.1,(y.2.2.2.2.2.1,(y.2.2.2.2.2.2.1,(y.2.2.2.2.2.2.2.1,(y.2.2.2.2.2.2.2.2.1,())))))))),(y.2.2.2.2.2.2.2.2.2.1,(y.2.2.2.2.2.2.2.2.2.2.1,())))⟩
theorem Km (n:Nat):EntryOk Tryz.prog gl ⟨11,Ud,none,some (QL lg kg (fun σ ρ=>jb n ρ.1.1 ρ.1.2.1 ρ.1.2.2.1 ρ.1.2.2.2.1 ρ.1.2.2.2.2.1 ρ.1.2.2.2.2.2.1 ρ.1.2.2.2.2.2.2.1 ρ.1.2.2.2.2.2.2.2.1 ρ.2.1 ρ.2.2.1) Kd)⟩:=
 Hc (Kl n) fun σ ρ y h=>Ja tys_ok (Vk n) mixed (hint:=lf n) (n:=n) Tryz.func11 (Ga (Wk n)) (pa (φ:=fun y=>some (Kd y)) (by kernel_rfl) (eo n ρ.1.1 ρ.1.2.1 ρ.1.2.2.1 ρ.1.2.2.2.1 ρ.1.2.2.2.2.1 ρ.1.2.2.2.2.2.1 ρ.1.2.2.2.2.2.2.1 ρ.1.2.2.2.2.2.2.2.1 ρ.2.1 ρ.2.2.1 _) h)
def wd (n:Nat):List Entry:=⟨11,Ud,none,some (QL lg kg (fun σ ρ=>jb n ρ.1.1 ρ.1.2.1 ρ.1.2.2.1 ρ.1.2.2.2.1 ρ.1.2.2.2.2.1 ρ.1.2.2.2.2.2.1 ρ.1.2.2.2.2.2.2.1 ρ.1.2.2.2.2.2.2.2.1 ρ.2.1 ρ.2.2.1) Kd)⟩::rk n
theorem ze (n:Nat):AllOk Tryz.prog gl (wd n):=.cons (Km n) (Vk n)
def Ac (n:Nat) {R:Type} (k:Bool→Option R):Option R:=
 (Eg n false (⟨0,fun _=>Na (.int .i64)⟩:Sq Int)).bind fun v=>
 (jb n v.1 v.2.1 v.2.2.1 v.2.2.2.1 v.2.2.2.2.1 v.2.2.2.2.2.1 v.2.2.2.2.2.2.1 v.2.2.2.2.2.2.2.1 v.2.2.2.2.2.2.2.2.1 v.2.2.2.2.2.2.2.2.2.1).bind fun v1=>
 if (v1.1.toList==(⟨#[50,50,48,32,104,101,114,101,13,10]⟩:BA).toList)=true then
 (Pa n v1.2.1 v1.2.2.1 v1.2.2.2.1 v1.2.2.2.2.1 v1.2.2.2.2.2.1 v1.2.2.2.2.2.2.1 v1.2.2.2.2.2.2.2.1 v1.2.2.2.2.2.2.2.2.1 (⟨6,fun q=>List.getD (α:=Int) [(81:Int),(85:Int),(73:Int),(84:Int),(13:Int),(10:Int)] q (Na (.int .u8))⟩:Sq Int) v1.2.2.2.2.2.2.2.2.2.1 v1.2.2.2.2.2.2.2.2.2.2.1).bind fun v2=>
 k (v2.1.toList==(⟨#[50,50,49,32,98,121,101,13,10]⟩:BA).toList)
 else
 k false
def zb (n:Nat):Option Bool:=Ac n some
theorem Yt (n:Nat) {S:Type}:∀ (φ:_→Option S),(zb n).bind φ=Ac n φ:=by
 intros;unfold zb Ac;first | (simp only [ia,da,iB,bB,oL,oX,nB,Option.bind_some]) | rfl
def rh (n:Nat):Hint Out:={ live:=fun c=>[],run:=fun c=>none,xm:=fun c q=>none }
theorem ep (n:Nat):qa tys (fa Out (wd n)) (rh n) n (ba Tryz.f21) 0:=ma (fun _=>rfl) _ _ (by kernel_rfl)
theorem Iq (n:Nat):Enters Tryz.prog 21:=enters_of (c:=ba Tryz.f21) Tryz.func21 (by kernel_rfl) (by kernel_rfl)
def dj (n:Nat):Entry:=⟨21,qM .unit (.one .bool) (fun xs=>zb n),none,none⟩
theorem Cs (n:Nat):EntryOk Tryz.prog gl (dj n):=
 Ma (Iq n) fun xs y h=>ra tys_ok (ze n) mixed (hint:=rh n) (n:=n) Tryz.func21 (Ga (ep n)) (pa (φ:=(fun y=>some (Out.ret (ch (.one .bool) y)))) (by kernel_rfl) (Yt n  _) h)
def jd (n:Nat):List Entry:=dj n::wd n
theorem ln (n:Nat):AllOk Tryz.prog gl (jd n):=.cons (Cs n) (ze n)
def Jb (n:Nat) {R:Type} (lines:Int) (text want:BA) (i:Int) (p1:Bool) (p2:(Sq Int)) (p3:(Sq (Sq Int))) (kn:Int→BA→BA→Int→Bool→(Sq Int)→(Sq (Sq Int))→Option R) (ko:(BA×BA×Bool×(Sq Int)×(Sq (Sq Int)))→Option R) (kr:Unit→Option R) (kp:Int→Option R):Option R:=
 if (decide (i<lines))=true then
 if Wa text (⟨#[46,46,120,13,10]⟩:BA)=true then
  if Wa want (⟨#[46,120,13,10]⟩:BA)=true then
  kn lines (text++(⟨#[46,46,120,13,10]⟩:BA)) (want++(⟨#[46,120,13,10]⟩:BA)) (IntKind.wrap .i64 (i+(1:Int))) p1 p2 p3
  else
  none
 else
  none
 else
 ko (text,want,p1,p2,p3)
def ua (n:Nat):Nat→Int→BA→BA→Int→Bool→(Sq Int)→(Sq (Sq Int))→Option (Lx (BA×BA×Bool×(Sq Int)×(Sq (Sq Int))) Unit)
 | 0,_,_,_,_,_,_,_=>none
 | m+1,lines,text,want,i,p1,p2,p3=>Jb n lines text want i p1 p2 p3 (ua n m) (fun a=>some (.out a)) (fun a=>some (.ret a)) (fun p=>some (.pan p))
theorem sk (n m:Nat) {S:Type}:∀ lines text want i p1 p2 p3 (φ:_→Option S),(ua n (m+1) lines text want i p1 p2 p3).bind φ=Jb n lines text want i p1 p2 p3 (fun lines text want i p1 p2 p3=>(ua n m lines text want i p1 p2 p3).bind φ) (fun a=>φ (.out a)) (fun a=>φ (.ret a)) (fun p=>φ (.pan p)):=by
 intros;first | (simp only [ua,Jb,ia,da,iB,bB,oL,oX,nB,Option.bind_some]) | rfl
def fc:List Sl:=.top::.ptr 0 0 0::.top::.dat (.int .i64)::.dat .str::.dat .str::.dat (.int .i64)::tp 53 []
def ec:List RS:=[.box 25 3 true [.dat .bool,.dat (.sl (.int .i64)),.dat (.sl (.sl (.int .u8)))]]
def qh:List Sl:=.top::.ptr 0 0 0::.top::.top::.dat .str::.dat .str::tp 54 []
def ph:List RS:=[.box 25 3 true [.dat .bool,.dat (.sl (.int .i64)),.dat (.sl (.sl (.int .u8)))]]
def za (K:XE→List AV→ea→Option Out):Lx (BA×BA×Bool×(Sq Int)×(Sq (Sq Int))) Unit→Option Out:=fun x=>lM x (fun a=>Ky qh ph (a.1,(a.2.1,())) ((a.2.2.1,(a.2.2.2.1,(a.2.2.2.2,()))),()) (K (.exit 0))) (fun _=>none) (fun _=>none)
def fb (n:Nat) {R:Type} (p:(Bool×((Sq Int)×((Sq (Sq Int))×Unit)))) (k:Bool→Option R):Option R:=
 (ib n (p.2.2.1.n:Int) (5:Int)).bind fun v=>
 (ua n n (IntKind.wrap .i64 ((1:Int)+v)) (⟨#[]⟩:BA) (⟨#[]⟩:BA) (0:Int) p.1 p.2.1 p.2.2.1).bind fun x_1=>lM x_1
 (fun a_2=>
  (Dg n a_2.2.2.1 (⟨5,fun q=>List.getD (α:=Int) [(250:Int),(550:Int),(250:Int),(250:Int),(451:Int)] q (Na (.int .i64))⟩:Sq Int)).bind fun v1=>
  if Wa (⟨#[69,72,76,79,32,104,13,10,77,65,73,76,32,70,82,79,77,58,60,97,64,98,62,13,10,82,67,80,84,32,84,79,58,60,99,64,100,62,13,10,82,67,80,84,32,84,79,58,60,101,64,100,62,13,10,82,67,80,84,32,84,79,58,60,102,64,100,62,13,10,68,65,84,65,13,10]⟩:BA) a_2.1=true then
  if Wa ((⟨#[69,72,76,79,32,104,13,10,77,65,73,76,32,70,82,79,77,58,60,97,64,98,62,13,10,82,67,80,84,32,84,79,58,60,99,64,100,62,13,10,82,67,80,84,32,84,79,58,60,101,64,100,62,13,10,82,67,80,84,32,84,79,58,60,102,64,100,62,13,10,68,65,84,65,13,10]⟩:BA)++a_2.1) (⟨#[46,13,10,81,85,73,84,13,10]⟩:BA)=true then
   (Pa n v1.1 v1.2.1 v1.2.2.1 v1.2.2.2.1 v1.2.2.2.2.1 v1.2.2.2.2.2.1 v1.2.2.2.2.2.2.1 v1.2.2.2.2.2.2.2.1 (⟨(((⟨#[69,72,76,79,32,104,13,10,77,65,73,76,32,70,82,79,77,58,60,97,64,98,62,13,10,82,67,80,84,32,84,79,58,60,99,64,100,62,13,10,82,67,80,84,32,84,79,58,60,101,64,100,62,13,10,82,67,80,84,32,84,79,58,60,102,64,100,62,13,10,68,65,84,65,13,10]⟩:BA)++a_2.1)++(⟨#[46,13,10,81,85,73,84,13,10]⟩:BA)).size,fun q=>bt (((⟨#[69,72,76,79,32,104,13,10,77,65,73,76,32,70,82,79,77,58,60,97,64,98,62,13,10,82,67,80,84,32,84,79,58,60,99,64,100,62,13,10,82,67,80,84,32,84,79,58,60,101,64,100,62,13,10,82,67,80,84,32,84,79,58,60,102,64,100,62,13,10,68,65,84,65,13,10]⟩:BA)++a_2.1)++(⟨#[46,13,10,81,85,73,84,13,10]⟩:BA)) q⟩:Sq Int) v1.2.2.2.2.2.2.2.2.1 v1.2.2.2.2.2.2.2.2.2.1).bind fun v2=>
   if a_2.2.2.1=true then
   if (v2.1.toList==(⟨#[50,53,48,32,111,107,13,10,50,53,48,32,111,107,13,10,53,53,48,32,110,111,13,10,50,53,48,32,111,107,13,10,50,53,48,32,111,107,13,10,51,53,52,32,103,111,32,111,110,13,10,52,53,49,32,110,111,13,10,50,53,48,32,111,107,13,10,50,50,49,32,98,121,101,13,10]⟩:BA).toList)=true then
    (ab n v2.2.1 v2.2.2.1 v2.2.2.2.1 v2.2.2.2.2.1 v2.2.2.2.2.2.1 v2.2.2.2.2.2.2.1 v2.2.2.2.2.2.2.2.1 v2.2.2.2.2.2.2.2.2.1 v2.2.2.2.2.2.2.2.2.2.1 v2.2.2.2.2.2.2.2.2.2.2.1).bind fun v3=>
    (sh n v3.2.2.2.2.2.2.2.2.1 (⟨3,fun q=>List.getD (α:=BA) [(⟨#[97,64,98]⟩:BA),(⟨#[102,64,100]⟩:BA),a_2.2.1] q (Na .str)⟩:Sq BA)).bind fun v4=>
    if v4=true then
    (zb n).bind fun v5=>
    k v5
    else
    k false
   else
    k false
   else
   if (v2.1.toList==(⟨#[50,53,48,32,111,107,13,10,50,53,48,32,111,107,13,10,53,53,48,32,110,111,13,10,50,53,48,32,111,107,13,10,50,53,48,32,111,107,13,10,51,53,52,32,103,111,32,111,110,13,10,52,53,49,32,110,111,13,10,50,50,49,32,98,121,101,13,10]⟩:BA).toList)=true then
    (ab n v2.2.1 v2.2.2.1 v2.2.2.2.1 v2.2.2.2.2.1 v2.2.2.2.2.2.1 v2.2.2.2.2.2.2.1 v2.2.2.2.2.2.2.2.1 v2.2.2.2.2.2.2.2.2.1 v2.2.2.2.2.2.2.2.2.2.1 v2.2.2.2.2.2.2.2.2.2.2.1).bind fun v6=>
    if ((v6.2.2.2.2.2.2.2.2.1.n:Int)==(0:Int))=true then
    (zb n).bind fun v7=>
    k v7
    else
    k false
   else
    k false
  else
   none
  else
  none)
 (fun _=>none)
 (fun _=>none)
def pouchlaw27_PeerTakes (n:Nat) (p:(Bool×((Sq Int)×((Sq (Sq Int))×Unit)))):Option Bool:=fb n p some
theorem dn (n:Nat) {S:Type}:∀ p (φ:_→Option S),(pouchlaw27_PeerTakes n p).bind φ=fb n p φ:=by
 intros;unfold pouchlaw27_PeerTakes fb;first | (simp only [ia,da,iB,bB,oL,oX,nB,Option.bind_some]) | rfl
def qb (n:Nat):Hint Out:={ live:=fun c=>(cond (Nat.beq c 0) (lv [1,3,4,5,6]) []),run:=fun c=>(cond (Nat.beq c 0) (some (XA fc ec fun σ ρ K=>(ua n n σ.1 σ.2.1 σ.2.2.1 σ.2.2.2.1 ρ.1.1 ρ.1.2.1 ρ.1.2.2.1).bind (za K))) none),xm:=fun c q=>(cond (Nat.beq c 0&&Nat.beq (q.getD 1000000) 0&&q.isSome) (some (lv [1,4,5])) none) }
def pb (n:Nat) (K:XE→List AV→ea→Option Out) (m:Nat) (lines:Int) (text:BA) (want:BA) (i:Int) (p1:Bool) (p2:(Sq Int)) (p3:(Sq (Sq Int))):Option Out:=lq tys (fa Out (jd n)) (qb n) n (La [1,1,1,0,1,0,0] (ba Tryz.f4)) 0 fc ec K m (lines,(text,(want,(i,())))) ((p1,(p2,(p3,()))),())
theorem Ae (n:Nat) (K:XE→List AV→ea→Option Out):∀ (m:Nat) lines text want i p1 p2 p3,pb n K m lines text want i p1 p2 p3=(ua n m lines text want i p1 p2 p3).bind (za K)
 | 0,_,_,_,_,_,_,_=>by kernel_rfl
 | m+1,lines,text,want,i,p1,p2,p3=>by
  have h1:pb n K (m+1) lines text want i p1 p2 p3=Jb n lines text want i p1 p2 p3 (pb n K m) (fun a=>za K (.out a)) (fun a=>za K (.ret a)) (fun p=>za K (.pan p)):=by kernel_rfl
  have h2:pb n K m=fun lines text want i p1 p2 p3=>(ua n m lines text want i p1 p2 p3).bind (za K):=by
   repeat (refine funext fun _=>?_)
   exact Ae n K m _ _ _ _ _ _ _
  rw [h1,h2];exact (sk n m _ _ _ _ _ _ _ (za K)).symm
theorem sj (n:Nat):Im tys (fa Out (jd n)) (qb n) n (La [1,1,1,0,1,0,0] (ba Tryz.f4)) 0:=Mc (sp:=fc) (rp:=ec) (by kernel_rfl) fun K σ ρ=>Ae n K n σ.1 σ.2.1 σ.2.2.1 σ.2.2.2.1 ρ.1.1 ρ.1.2.1 ρ.1.2.2.1
theorem tk (n:Nat):qa tys (fa Out (jd n)) (qb n) n (ba Tryz.f4) 0:=⟨trivial,⟨trivial,⟨trivial,⟨⟨trivial,⟨sj n,⟨⟨trivial,⟨trivial,trivial⟩⟩,⟨⟨trivial,trivial⟩,trivial⟩⟩⟩⟩,⟨trivial,⟨⟨trivial,⟨⟨trivial,trivial⟩,trivial⟩⟩,⟨trivial,⟨⟨trivial,⟨⟨trivial,trivial⟩,trivial⟩⟩,⟨trivial,trivial⟩⟩⟩⟩⟩⟩⟩⟩⟩
theorem bl (n:Nat):Enters Tryz.prog 4:=enters_of (c:=ba Tryz.f4) Tryz.func4 (by kernel_rfl) (by kernel_rfl)
def Zl (n:Nat):Entry:=⟨4,qM K5 (.one .bool) (fun xs=>pouchlaw27_PeerTakes n xs.1),none,none⟩
theorem pouchlaw27_PeerTakes_ok (n:Nat):EntryOk Tryz.prog gl (Zl n):=
 Ma (bl n) fun xs y h=>ra tys_ok (ln n) mixed (hint:=qb n) (n:=n) Tryz.func4 (Ga (tk n)) (pa (φ:=(fun y=>some (Out.ret (ch (.one .bool) y)))) (by kernel_rfl) (dn n xs.1 _) h)
end
end Go.Proofs.YtddefjokgaajfaaGreatDoor.AM
