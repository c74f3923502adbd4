/- Typed functions that tell what the Go functions of this seat answer, and proofs of it, by program (gen.py). -/
import Derived.Test.YtdohilmgblkppaaGreatDoorSF3
set_option linter.all false
set_option linter.unusedVariables false
set_option linter.unusedSimpArgs false
set_option maxRecDepth 1000000
set_option maxHeartbeats 0
namespace Go.Proofs.YtdohilmgblkppaaGreatDoor.AM
open Go Go.RowKit
noncomputable section
def GS (n:Nat) {R:Type} (code:Int) (k:BA→Option R):Option R:=if (code==(220:Int))=true then k (⟨#[114,101,97,100,121]⟩:BA) else if (code==(221:Int))=true then k (⟨#[98,121,101]⟩:BA) else if (code==(250:Int))=true then k (⟨#[111,107]⟩:BA) else if (code==(252:Int))=true then k (⟨#[116,114,121,32,105,116]⟩:BA) else if (code==(354:Int))=true then k (⟨#[103,111,32,111,110]⟩:BA) else if (code==(421:Int))=true then k (⟨#[110,111,116,32,110,111,119]⟩:BA) else if (code==(450:Int))=true then k (⟨#[108,97,116,101,114]⟩:BA) else if (code==(451:Int))=true then k (⟨#[102,97,105,108,101,100]⟩:BA) else if (code==(452:Int))=true then k (⟨#[110,111,32,114,111,111,109]⟩:BA) else if (code==(500:Int))=true then k (⟨#[119,104,97,116,63]⟩:BA) else if (code==(501:Int))=true then k (⟨#[104,111,119,63]⟩:BA) else if (code==(503:Int))=true then k (⟨#[110,111,116,32,121,101,116]⟩:BA) else if (code==(550:Int))=true then k (⟨#[110,111]⟩:BA) else if (code==(552:Int))=true then k (⟨#[116,111,111,32,108,111,110,103]⟩:BA) else k (⟨#[]⟩:BA)
def nZ (n:Nat) (code:Int):Option BA:=GS n code some
theorem Xjb (n:Nat) {S:Type}:∀ code (φ:_→Option S),(nZ n code).bind φ=GS n code φ:=by
  intros;unfold nZ GS;first | (simp only [ja,fa,iB,bB,oL,oX,nB,Option.bind_some]) | rfl
def UT (n:Nat):Hint Out:={ live:=fun c=>[],run:=fun c=>none,xm:=fun c q=>none }
theorem tbb (n:Nat):qa tys (ia Out (Ik n)) (UT n) n (ba Tryz.f53) 0:=na (fun _=>rfl) _ _ (by kernel_rfl)
theorem lfb (n:Nat):Enters Tryz.prog 53:=enters_of (c:=ba Tryz.f53) Tryz.func53 (by kernel_rfl) (by kernel_rfl)
def r7 (n:Nat):Entry:=⟨53,pcT (.pair (.int .i64) .unit) (.one .str) (fun xs=>nZ n xs.1),none,none⟩
theorem mhb (n:Nat):EntryOk Tryz.prog gl (r7 n):=wa (lfb n) fun xs y h=>ma tys_ok (bn n) mixed (hint:=UT n) (n:=n) Tryz.func53 (ya (tbb n)) (la (φ:=(fun y=>some (Out.ret (Ya (.one .str) y)))) (by kernel_rfl) (Xjb n xs.1 _) h)
def DA (n:Nat):List Entry:=r7 n::Ik n
theorem SP (n:Nat):AllOk Tryz.prog gl (DA n):=.cons (mhb n) (bn n)
def wl (n:Nat) {R:Type} (s1:BA) (t5 t6:Int) (kn:BA→Int→Int→Option R) (ko:(BA)→Option R) (kr:(Bool)→Option R) (kp:Int→Option R):Option R:=if (decide (t6<t5))=true then if 0≤t6∧t6<(s1.size:Int) then if (decide ((bt s1 t6)<(32:Int)))=false then if 0≤t6∧t6<(s1.size:Int) then if (decide ((bt s1 t6)>(126:Int)))=true then kr false else kn s1 t5 (IntKind.wrap .i64 (t6+(1:Int))) else none else kr false else none else ko s1
def Jc (n:Nat):Nat→BA→Int→Int→Option (Lx (BA) (Bool))
 | 0,_,_,_=>none
 | m+1,s1,t5,t6=>wl n s1 t5 t6 (Jc n m) (fun a=>some (.out a)) (fun a=>some (.ret a)) (fun p=>some (.pan p))
theorem AR (n m:Nat) {S:Type}:∀ s1 t5 t6 (φ:_→Option S),(Jc n (m+1) s1 t5 t6).bind φ=wl n s1 t5 t6 (fun s1 t5 t6=>(Jc n m s1 t5 t6).bind φ) (fun a=>φ (.out a)) (fun a=>φ (.ret a)) (fun p=>φ (.pan p)):=by
  intros;first | (simp only [Jc,wl,ja,fa,iB,bB,oL,oX,nB,Option.bind_some]) | rfl
def wk:List Sl:=.dat .str::tp 4 (.dat (.int .i64)::.dat (.int .i64)::tp 16 [])
def vk:List RS:=[]
def fC:List Sl:=.dat .str::tp 22 []
def eC:List RS:=[]
def iC:List Sl:=.top::.top::.dat .bool::tp 20 []
def gC:List RS:=[]
def yc (K:XE→List AV→oa→Option Out):Lx (BA) (Bool)→Option Out:=fun x=>onL x (fun a=>yb fC eC (a,()) () (K (.exit 0))) (fun a=>yb iC gC (a,()) () (K .ret)) (fun _=>none)
def Ux (n:Nat) {R:Type} (s:BA) (k:Bool→Option R):Option R:=(Jc n n s (s.size:Int) (0:Int)).bind fun x_1=>onL x_1 (fun a_2=>k (decide ((a_2.size:Int)≤(506:Int)))) (fun a_3=>k a_3) (fun _=>none)
def Tx (n:Nat) (s:BA):Option Bool:=Ux n s some
theorem X4 (n:Nat) {S:Type}:∀ s (φ:_→Option S),(Tx n s).bind φ=Ux n s φ:=by
  intros;unfold Tx Ux;first | (simp only [ja,fa,iB,bB,oL,oX,nB,Option.bind_some]) | rfl
def th (n:Nat):Hint Out:={ live:=fun c=>(cond (Nat.beq c 0) (lv [0,5,6]) []),run:=fun c=>(cond (Nat.beq c 0) (some (ef wk vk fun σ ρ K=>(Jc n n σ.1 σ.2.1 σ.2.2.1).bind (yc K))) none),xm:=fun c q=>(cond (Nat.beq c 0&&Nat.beq (q.getD 1000000) 0&&q.isSome) (some [(0,none)]) (cond (Nat.beq c 1&&q.isNone) (some [(2,none)]) none)) }
def sh (n:Nat) (K:XE→List AV→oa→Option Out) (m:Nat) (s1:BA) (t5:Int) (t6:Int):Option Out:=Kb tys (ia Out (DA n)) (th n) n (ra [1,0,1,0,0] (ba Tryz.f112)) 0 wk vk K m (s1,(t5,(t6,()))) ()
theorem az (n:Nat) (K:XE→List AV→oa→Option Out):∀ (m:Nat) s1 t5 t6,sh n K m s1 t5 t6=(Jc n m s1 t5 t6).bind (yc K)
  | 0,_,_,_=>by kernel_rfl
  | m+1,s1,t5,t6=>by
    have h1:sh n K (m+1) s1 t5 t6=wl n s1 t5 t6 (sh n K m) (fun a=>yc K (.out a)) (fun a=>yc K (.ret a)) (fun p=>yc K (.pan p)):=by kernel_rfl
    have h2:sh n K m=fun s1 t5 t6=>(Jc n m s1 t5 t6).bind (yc K):=by
      repeat (refine funext fun _=>?_)
      exact az n K m _ _ _
    rw [h1,h2];exact (AR n m _ _ _ (yc K)).symm
theorem BO (n:Nat):ub tys (ia Out (DA n)) (th n) n (ra [1,0,1,0,0] (ba Tryz.f112)) 0:=Aa (sp:=wk) (rp:=vk) (by kernel_rfl) fun K σ ρ=>az n K n σ.1 σ.2.1 σ.2.2.1
theorem BR (n:Nat):qa tys (ia Out (DA n)) (th n) n (ba Tryz.f112) 0:=⟨aa,⟨⟨aa,⟨BO n,⟨aa,⟨⟨aa,aa⟩,⟨⟨aa,⟨aa,⟨⟨aa,aa⟩,aa⟩⟩⟩,aa⟩⟩⟩⟩⟩,⟨aa,aa⟩⟩⟩
theorem SV (n:Nat):Enters Tryz.prog 112:=enters_of (c:=ba Tryz.f112) Tryz.func112 (by kernel_rfl) (by kernel_rfl)
def mG (n:Nat):Entry:=⟨112,pcT (.pair .str .unit) (.one .bool) (fun xs=>Tx n xs.1),none,none⟩
theorem GY (n:Nat):EntryOk Tryz.prog gl (mG n):=wa (SV n) fun xs y h=>ma tys_ok (SP n) mixed (hint:=th n) (n:=n) Tryz.func112 (ya (BR n)) (la (φ:=(fun y=>some (Out.ret (Ya (.one .bool) y)))) (by kernel_rfl) (X4 n xs.1 _) h)
def Du (n:Nat):List Entry:=mG n::DA n
theorem aw (n:Nat):AllOk Tryz.prog gl (Du n):=.cons (GY n) (SP n)
def Sx (n:Nat) {R:Type} (s:BA) (k:Bool→Option R):Option R:=(Tx n s).bind fun v=>k (!v)
def Rx (n:Nat) (s:BA):Option Bool:=Sx n s some
theorem V4 (n:Nat) {S:Type}:∀ s (φ:_→Option S),(Rx n s).bind φ=Sx n s φ:=by
  intros;unfold Rx Sx;first | (simp only [ja,fa,iB,bB,oL,oX,nB,Option.bind_some]) | rfl
def Zy (n:Nat):Hint Out:={ live:=fun c=>[],run:=fun c=>none,xm:=fun c q=>none }
theorem zR (n:Nat):qa tys (ia Out (Du n)) (Zy n) n (ba Tryz.f111) 0:=na (fun _=>rfl) _ _ (by kernel_rfl)
theorem RV (n:Nat):Enters Tryz.prog 111:=enters_of (c:=ba Tryz.f111) Tryz.func111 (by kernel_rfl) (by kernel_rfl)
def kG (n:Nat):Entry:=⟨111,pcT (.pair .str .unit) (.one .bool) (fun xs=>Rx n xs.1),none,none⟩
theorem EY (n:Nat):EntryOk Tryz.prog gl (kG n):=wa (RV n) fun xs y h=>ma tys_ok (aw n) mixed (hint:=Zy n) (n:=n) Tryz.func111 (ya (zR n)) (la (φ:=(fun y=>some (Out.ret (Ya (.one .bool) y)))) (by kernel_rfl) (V4 n xs.1 _) h)
def jh (n:Nat):List Entry:=kG n::Du n
theorem Zv (n:Nat):AllOk Tryz.prog gl (jh n):=.cons (EY n) (aw n)
def rM (n:Nat) {R:Type} (s1:(Sq BA)) (t7 t8:Int) (kn:(Sq BA)→Int→Int→Option R) (ko:(Unit)→Option R) (kr:(Int)→Option R) (kp:Int→Option R):Option R:=if (decide (t8<t7))=true then if 0≤t8∧t8<(s1.n:Int) then (Rx n (s1.at' (Int.toNat t8))).bind fun v=>if v=true then kr t8 else kn s1 t7 (IntKind.wrap .i64 (t8+(1:Int))) else none else ko ()
def Xl (n:Nat):Nat→(Sq BA)→Int→Int→Option (Lx (Unit) (Int))
 | 0,_,_,_=>none
 | m+1,s1,t7,t8=>rM n s1 t7 t8 (Xl n m) (fun a=>some (.out a)) (fun a=>some (.ret a)) (fun p=>some (.pan p))
theorem Pcb (n m:Nat) {S:Type}:∀ s1 t7 t8 (φ:_→Option S),(Xl n (m+1) s1 t7 t8).bind φ=rM n s1 t7 t8 (fun s1 t7 t8=>(Xl n m s1 t7 t8).bind φ) (fun a=>φ (.out a)) (fun a=>φ (.ret a)) (fun p=>φ (.pan p)):=by
  intros;first | (simp only [Xl,rM,ja,fa,iB,bB,oL,oX,nB,Option.bind_some]) | rfl
def CC:List Sl:=.dat (.sl .str)::.fnc 111::tp 5 (.dat (.int .i64)::.dat (.int .i64)::tp 10 [])
def BC:List RS:=[.ghost [.top,.top]]
def PR:List Sl:=tp 19 []
def OR:List RS:=[.ghost [.top,.top]]
def RR:List Sl:=tp 4 (.dat (.int .i64)::tp 14 [])
def QR:List RS:=[.ghost [.top,.top]]
def Ph (K:XE→List AV→oa→Option OutS):Lx (Unit) (Int)→Option OutS:=fun x=>onL x (fun a=>yb PR OR () ((),()) (K (.exit 0))) (fun a=>yb RR QR (a,()) ((),()) (K .ret)) (fun _=>none)
def q5 (n:Nat) {R:Type} (s:(Sq BA)) (k:(Int×Unit)→Option R):Option R:=(Xl n n s (s.n:Int) (0:Int)).bind fun x_1=>onL x_1 (fun a_2=>k ((-1:Int),())) (fun a_3=>k (a_3,())) (fun _=>none)
def N9 (n:Nat) (s:(Sq BA)):Option (Int×Unit):=q5 n s some
theorem Lkb (n:Nat) {S:Type}:∀ s (φ:_→Option S),(N9 n s).bind φ=q5 n s φ:=by
  intros;unfold N9 q5;first | (simp only [ja,fa,iB,bB,oL,oX,nB,Option.bind_some]) | rfl
def Zx (n:Nat):Hint OutS:={ live:=fun c=>(cond (Nat.beq c 0) [(0,some (.sl .str)),(1,none),(7,none),(8,none)] []),run:=fun c=>(cond (Nat.beq c 0) (some (ef CC BC fun σ ρ K=>(Xl n n σ.1 σ.2.1 σ.2.2.1).bind (Ph K))) none),xm:=fun c q=>(cond (Nat.beq c 0&&Nat.beq (q.getD 1000000) 0&&q.isSome) (some []) (cond (Nat.beq c 1&&q.isNone) (some [(4,none)]) none)) }
def Yx (n:Nat) (K:XE→List AV→oa→Option OutS) (m:Nat) (s1:(Sq BA)) (t7:Int) (t8:Int):Option OutS:=Kb tys (ia OutS (jh n)) (Zx n) n (ra [1,0,1,0,0] (ba Tryz.f125)) 0 CC BC K m (s1,(t7,(t8,()))) ((),())
theorem dW (n:Nat) (K:XE→List AV→oa→Option OutS):∀ (m:Nat) s1 t7 t8,Yx n K m s1 t7 t8=(Xl n m s1 t7 t8).bind (Ph K)
  | 0,_,_,_=>by kernel_rfl
  | m+1,s1,t7,t8=>by
    have h1:Yx n K (m+1) s1 t7 t8=rM n s1 t7 t8 (Yx n K m) (fun a=>Ph K (.out a)) (fun a=>Ph K (.ret a)) (fun p=>Ph K (.pan p)):=by kernel_rfl
    have h2:Yx n K m=fun s1 t7 t8=>(Xl n m s1 t7 t8).bind (Ph K):=by
      repeat (refine funext fun _=>?_)
      exact dW n K m _ _ _
    rw [h1,h2];exact (Pcb n m _ _ _ (Ph K)).symm
theorem O9 (n:Nat):ub tys (ia OutS (jh n)) (Zx n) n (ra [1,0,1,0,0] (ba Tryz.f125)) 0:=Aa (sp:=CC) (rp:=BC) (by kernel_rfl) fun K σ ρ=>dW n K n σ.1 σ.2.1 σ.2.2.1
theorem Qcb (n:Nat):qa tys (ia OutS (jh n)) (Zx n) n (ba Tryz.f125) 0:=⟨aa,⟨⟨aa,⟨O9 n,⟨aa,⟨⟨aa,aa⟩,⟨⟨aa,⟨aa,⟨⟨aa,aa⟩,aa⟩⟩⟩,aa⟩⟩⟩⟩⟩,⟨aa,aa⟩⟩⟩
theorem pgb (n:Nat):Enters Tryz.prog 125:=enters_of (c:=ba Tryz.f125) Tryz.func125 (by kernel_rfl) (by kernel_rfl)
def Q9:List RSp:=[.one (.dat (.sl .str)),.one (.fnc 111)]
def P9:List RS:=[]
def qgb:List Sl:=[.top,.top]
def rgb:List RSp:=[.one (.dat (.int .i64))]
def fE:List RS:=[]
def r5 (y:(Int×Unit)):OutS:=⟨false,km (cc fE ()) qgb (),OC (Vz (cc fE ()) rgb ((y.1,()),())),ir (cc fE ()) fE ()⟩
theorem Oib (n:Nat):EntryOk Tryz.prog gl ⟨125,vd,none,some (csT Q9 P9 (fun σ ρ=>N9 n σ.1.1) r5)⟩:=pd (pgb n) fun σ ρ y h=>Ta tys_ok (Zv n) mixed (hint:=Zx n) (n:=n) Tryz.func125 (ya (Qcb n)) (la (φ:=fun y=>some (r5 y)) (by kernel_rfl) (Lkb n σ.1.1 _) h)
def eW (n:Nat):List Entry:=⟨125,vd,none,some (csT Q9 P9 (fun σ ρ=>N9 n σ.1.1) r5)⟩::jh n
theorem BQ (n:Nat):AllOk Tryz.prog gl (eW n):=.cons (Oib n) (Zv n)
def m5 (n:Nat) {R:Type} (s:(Sq BA)) (k:(Bool×Unit)→Option R):Option R:=(N9 n s).bind fun v=>k ((decide (v.1≥(0:Int))),())
def E9 (n:Nat) (s:(Sq BA)):Option (Bool×Unit):=m5 n s some
theorem Hkb (n:Nat) {S:Type}:∀ s (φ:_→Option S),(E9 n s).bind φ=m5 n s φ:=by
  intros;unfold E9 m5;first | (simp only [ja,fa,iB,bB,oL,oX,nB,Option.bind_some]) | rfl
def aW (n:Nat):Hint OutS:={ live:=fun c=>[],run:=fun c=>none,xm:=fun c q=>none }
theorem Mcb (n:Nat):qa tys (ia OutS (eW n)) (aW n) n (ba Tryz.f93) 0:=na (fun _=>rfl) _ _ (by kernel_rfl)
theorem jgb (n:Nat):Enters Tryz.prog 93:=enters_of (c:=ba Tryz.f93) Tryz.func93 (by kernel_rfl) (by kernel_rfl)
def G9:List RSp:=[.one (.dat (.sl .str)),.one (.fnc 111)]
def F9:List RS:=[]
def kgb:List Sl:=[.top,.top]
def lgb:List RSp:=[.one (.dat .bool)]
def dE:List RS:=[]
def n5 (y:(Bool×Unit)):OutS:=⟨false,km (cc dE ()) kgb (),OC (Vz (cc dE ()) lgb ((y.1,()),())),ir (cc dE ()) dE ()⟩
theorem Mib (n:Nat):EntryOk Tryz.prog gl ⟨93,vd,none,some (csT G9 F9 (fun σ ρ=>E9 n σ.1.1) n5)⟩:=pd (jgb n) fun σ ρ y h=>Ta tys_ok (BQ n) mixed (hint:=aW n) (n:=n) Tryz.func93 (ya (Mcb n)) (la (φ:=fun y=>some (n5 y)) (by kernel_rfl) (Hkb n σ.1.1 _) h)
def ZV (n:Nat):List Entry:=⟨93,vd,none,some (csT G9 F9 (fun σ ρ=>E9 n σ.1.1) n5)⟩::eW n
theorem zQ (n:Nat):AllOk Tryz.prog gl (ZV n):=.cons (Mib n) (BQ n)
def CI (n:Nat) {R:Type} (r:U20) (k:Bool→Option R):Option R:=if (decide (r.1≥(200:Int)))=true then if (decide (r.1≤(599:Int)))=true then if (decide ((r.2.1.n:Int)≥(1:Int)))=true then if (decide ((r.2.1.n:Int)≤(16:Int)))=true then (E9 n r.2.1).bind fun v=>k (!v.1) else k false else k false else k false else k false
def kM (n:Nat) (r:U20):Option Bool:=CI n r some
theorem Icb (n:Nat) {S:Type}:∀ r (φ:_→Option S),(kM n r).bind φ=CI n r φ:=by
  intros;unfold kM CI;first | (simp only [ja,fa,iB,bB,oL,oX,nB,Option.bind_some]) | rfl
def lG (n:Nat):Hint Out:={ live:=fun c=>[],run:=fun c=>none,xm:=fun c q=>none }
theorem FY (n:Nat):qa tys (ia Out (ZV n)) (lG n) n (ba Tryz.f80) 0:=na (fun _=>rfl) _ _ (by kernel_rfl)
theorem W4 (n:Nat):Enters Tryz.prog 80:=enters_of (c:=ba Tryz.f80) Tryz.func80 (by kernel_rfl) (by kernel_rfl)
def vQ (n:Nat):Entry:=⟨80,pcT (.pair (.pair (.int .i64) (.pair (.sl .str) .unit)) .unit) (.one .bool) (fun xs=>kM n xs.1),none,none⟩
theorem x9 (n:Nat):EntryOk Tryz.prog gl (vQ n):=wa (W4 n) fun xs y h=>ma tys_ok (zQ n) mixed (hint:=lG n) (n:=n) Tryz.func80 (ya (FY n)) (la (φ:=(fun y=>some (Out.ret (Ya (.one .bool) y)))) (by kernel_rfl) (Icb n xs.1 _) h)
def cC (n:Nat):List Entry:=vQ n::ZV n
theorem dC (n:Nat):AllOk Tryz.prog gl (cC n):=.cons (x9 n) (zQ n)
def Kh (n:Nat) {R:Type} (s:BA) (k:U21→Option R):Option R:=(ge n).bind fun v=>if ib (0+s.size) 1=true then k ((s.size:Int),((⟨(0+s.size),fun q=>if q<0 then (fun _=>ta (.int .u8)) q else (fun (q:Nat)=>bt s q) (q - 0)⟩:Sq Int),())) else none
def Nc (n:Nat) (s:BA):Option U21:=Kh n s some
theorem JI (n:Nat) {S:Type}:∀ s (φ:_→Option S),(Nc n s).bind φ=Kh n s φ:=by
  intros;unfold Nc Kh;first | (simp only [ja,fa,iB,bB,oL,oX,nB,Option.bind_some]) | rfl
def Lj (n:Nat):Hint OutS:={ live:=fun c=>[],run:=fun c=>none,xm:=fun c q=>none }
theorem Qz (n:Nat):qa tys (ia OutS (cC n)) (Lj n) n (ba Tryz.f81) 0:=na (fun _=>rfl) _ _ (by kernel_rfl)
theorem rC (n:Nat):Enters Tryz.prog 81:=enters_of (c:=ba Tryz.f81) Tryz.func81 (by kernel_rfl) (by kernel_rfl)
def Tm:List RSp:=[.one (.ptr 0 0 0),.one (.dat .str)]
def Sm:List RS:=[.box 108 2 true [.cn .nilp,.cn .nils]]
def sC:List Sl:=[.ptr 0 0 0,.top]
def tC:List RSp:=[.one (.dat (.int .i64)),.one (.cn .nili)]
def Ed:List RS:=[.box 108 2 false [.ptr 0 0 0,.row 1],.row 5 1 (.int .u8) true false]
def Lh (y:U21):OutS:=⟨false,km (cc Ed ((),(y.2.1,()))) sC (),OC (Vz (cc Ed ((),(y.2.1,()))) tC ((y.1,()),((),()))),ir (cc Ed ((),(y.2.1,()))) Ed ((),(y.2.1,()))⟩
theorem UE (n:Nat):EntryOk Tryz.prog gl ⟨81,vd,none,some (csT Tm Sm (fun σ ρ=>Nc n σ.2.1.1) Lh)⟩:=pd (rC n) fun σ ρ y h=>Ta tys_ok (dC n) mixed (hint:=Lj n) (n:=n) Tryz.func81 (ya (Qz n)) (la (φ:=fun y=>some (Lh y)) (by kernel_rfl) (JI n σ.2.1.1 _) h)
def Vg (n:Nat):List Entry:=⟨81,vd,none,some (csT Tm Sm (fun σ ρ=>Nc n σ.2.1.1) Lh)⟩::cC n
theorem ij (n:Nat):AllOk Tryz.prog gl (Vg n):=.cons (UE n) (dC n)
def Mh (n:Nat) {R:Type} (s:BA) (r1:(Sq Int)) (k:U21→Option R):Option R:=(ed n r1).bind fun v=>if ib (v.1.n+s.size) 1=true then k ((s.size:Int),((⟨(v.1.n+s.size),fun q=>if q<v.1.n then v.1.at' q else (fun (q:Nat)=>bt s q) (q - v.1.n)⟩:Sq Int),())) else none
def Oc (n:Nat) (s:BA) (r1:(Sq Int)):Option U21:=Mh n s r1 some
theorem KI (n:Nat) {S:Type}:∀ s r1 (φ:_→Option S),(Oc n s r1).bind φ=Mh n s r1 φ:=by
  intros;unfold Oc Mh;first | (simp only [ja,fa,iB,bB,oL,oX,nB,Option.bind_some]) | rfl
def Mj (n:Nat):Hint OutS:={ live:=fun c=>[],run:=fun c=>none,xm:=fun c q=>none }
theorem Rz (n:Nat):qa tys (ia OutS (Vg n)) (Mj n) n (ba Tryz.f81) 0:=na (fun _=>rfl) _ _ (by kernel_rfl)
theorem uC (n:Nat):Enters Tryz.prog 81:=enters_of (c:=ba Tryz.f81) Tryz.func81 (by kernel_rfl) (by kernel_rfl)
def Vm:List RSp:=[.one (.ptr 0 0 0),.one (.dat .str)]
def Um:List RS:=[.box 108 2 false [.ptr 0 0 0,.row 1],.row 5 1 (.int .u8) true false]
def vC:List Sl:=[.ptr 0 0 0,.top]
def wC:List RSp:=[.one (.dat (.int .i64)),.one (.cn .nili)]
def Fd:List RS:=[.box 108 2 false [.ptr 0 0 0,.row 1],.row 5 1 (.int .u8) true false]
def Nh (y:U21):OutS:=⟨false,km (cc Fd ((),(y.2.1,()))) vC (),OC (Vz (cc Fd ((),(y.2.1,()))) wC ((y.1,()),((),()))),ir (cc Fd ((),(y.2.1,()))) Fd ((),(y.2.1,()))⟩
theorem VE (n:Nat):EntryOk Tryz.prog gl ⟨81,vd,none,some (csT Vm Um (fun σ ρ=>Oc n σ.2.1.1 ρ.2.1) Nh)⟩:=pd (uC n) fun σ ρ y h=>Ta tys_ok (ij n) mixed (hint:=Mj n) (n:=n) Tryz.func81 (ya (Rz n)) (la (φ:=fun y=>some (Nh y)) (by kernel_rfl) (KI n σ.2.1.1 ρ.2.1 _) h)
def Ec (n:Nat):List Entry:=⟨81,vd,none,some (csT Vm Um (fun σ ρ=>Oc n σ.2.1.1 ρ.2.1) Nh)⟩::Vg n
theorem jj (n:Nat):AllOk Tryz.prog gl (Ec n):=.cons (VE n) (ij n)
def vl (n:Nat) {R:Type} (t12:(Sq BA)) (t13 t14 r1:Int) (r2:(Sq BA)) (r21:(Sq Int)) (kn:(Sq BA)→Int→Int→Int→(Sq BA)→(Sq Int)→Option R) (ko:((Sq Int))→Option R) (kr:Unit→Option R) (kp:Int→Option R):Option R:=if (decide (t14<t13))=true then if 0≤t14∧t14<(t12.n:Int) then if (t14==(IntKind.wrap .i64 ((r2.n:Int) - (1:Int))))=true then (P2 r1).bind fun v3=>if Sa v3 (⟨#[32]⟩:BA)=true then if Sa (v3++(⟨#[32]⟩:BA)) (t12.at' (Int.toNat t14))=true then if Sa ((v3++(⟨#[32]⟩:BA))++(t12.at' (Int.toNat t14))) (⟨#[13,10]⟩:BA)=true then (Oc n (((v3++(⟨#[32]⟩:BA))++(t12.at' (Int.toNat t14)))++(⟨#[13,10]⟩:BA)) r21).bind fun v4=>kn t12 t13 (IntKind.wrap .i64 (t14+(1:Int))) r1 r2 v4.2.1 else none else none else none else (P2 r1).bind fun v5=>if Sa v5 (⟨#[45]⟩:BA)=true then if Sa (v5++(⟨#[45]⟩:BA)) (t12.at' (Int.toNat t14))=true then if Sa ((v5++(⟨#[45]⟩:BA))++(t12.at' (Int.toNat t14))) (⟨#[13,10]⟩:BA)=true then (Oc n (((v5++(⟨#[45]⟩:BA))++(t12.at' (Int.toNat t14)))++(⟨#[13,10]⟩:BA)) r21).bind fun v6=>kn t12 t13 (IntKind.wrap .i64 (t14+(1:Int))) r1 r2 v6.2.1 else none else none else none else none else ko r21
def bc (n:Nat):Nat→(Sq BA)→Int→Int→Int→(Sq BA)→(Sq Int)→Option (Lx ((Sq Int)) Unit)
 | 0,_,_,_,_,_,_=>none
 | m+1,t12,t13,t14,r1,r2,r21=>vl n t12 t13 t14 r1 r2 r21 (bc n m) (fun a=>some (.out a)) (fun a=>some (.ret a)) (fun p=>some (.pan p))
theorem xR (n m:Nat) {S:Type}:∀ t12 t13 t14 r1 r2 r21 (φ:_→Option S),(bc n (m+1) t12 t13 t14 r1 r2 r21).bind φ=vl n t12 t13 t14 r1 r2 r21 (fun t12 t13 t14 r1 r2 r21=>(bc n m t12 t13 t14 r1 r2 r21).bind φ) (fun a=>φ (.out a)) (fun a=>φ (.ret a)) (fun p=>φ (.pan p)):=by
  intros;first | (simp only [bc,vl,ja,fa,iB,bB,oL,oX,nB,Option.bind_some]) | rfl
def uk:List Sl:=.top::.ptr 0 0 0::.top::.top::.ptr 1 0 0::tp 7 (.dat (.sl .str)::.dat (.int .i64)::.dat (.int .i64)::tp 21 [])
def tk:List RS:=[.box 87 2 true [.dat (.int .i64),.dat (.sl .str)],.box 108 2 false [.ptr 1 0 0,.row 2],.row 5 1 (.int .u8) true false]
def bC:List Sl:=tp 4 (.ptr 0 0 0::tp 31 [])
def aC:List RS:=[.box 108 2 false [.ptr 0 0 0,.row 1],.row 5 1 (.int .u8) true false]
def wc (K:XE→List AV→oa→Option Out):Lx ((Sq Int)) Unit→Option Out:=fun x=>onL x (fun a=>yb bC aC () ((),(a,())) (K (.exit 0))) (fun _=>none) (fun _=>none)
def Qx (n:Nat) {R:Type} (r:U20) (k:(BA×Int×Unit)→Option R):Option R:=(kM n (r.1,(r.2.1,()))).bind fun v=>if (!v)=true then k ((⟨#[]⟩:BA),((1:Int),())) else if (decide ((0:Int)<(r.2.1.n:Int)))=true then if 0≤(0:Int)∧(0:Int)<(r.2.1.n:Int) then if ((0:Int)==(IntKind.wrap .i64 ((r.2.1.n:Int) - (1:Int))))=true then (P2 r.1).bind fun v1=>if Sa v1 (⟨#[32]⟩:BA)=true then if Sa (v1++(⟨#[32]⟩:BA)) (r.2.1.at' (Int.toNat (0:Int)))=true then if Sa ((v1++(⟨#[32]⟩:BA))++(r.2.1.at' (Int.toNat (0:Int)))) (⟨#[13,10]⟩:BA)=true then (Nc n (((v1++(⟨#[32]⟩:BA))++(r.2.1.at' (Int.toNat (0:Int))))++(⟨#[13,10]⟩:BA))).bind fun v2=>(bc n n r.2.1 (r.2.1.n:Int) (IntKind.wrap .i64 ((0:Int)+(1:Int))) r.1 r.2.1 v2.2.1).bind fun x_1=>onL x_1 (fun a_2=>(Kc n a_2).bind fun v7=>k (v7.1,((0:Int),()))) (fun _=>none) (fun _=>none) else none else none else none else (P2 r.1).bind fun v8=>if Sa v8 (⟨#[45]⟩:BA)=true then if Sa (v8++(⟨#[45]⟩:BA)) (r.2.1.at' (Int.toNat (0:Int)))=true then if Sa ((v8++(⟨#[45]⟩:BA))++(r.2.1.at' (Int.toNat (0:Int)))) (⟨#[13,10]⟩:BA)=true then (Nc n (((v8++(⟨#[45]⟩:BA))++(r.2.1.at' (Int.toNat (0:Int))))++(⟨#[13,10]⟩:BA))).bind fun v9=>
 (bc n n r.2.1 (r.2.1.n:Int) (IntKind.wrap .i64 ((0:Int)+(1:Int))) r.1 r.2.1 v9.2.1).bind fun x_3=>onL x_3 (fun a_4=>(Kc n a_4).bind fun v10=>k (v10.1,((0:Int),()))) (fun _=>none) (fun _=>none) else none else none else none else none else (gg n).bind fun v11=>k (v11.1,((0:Int),()))
def Px (n:Nat) (r:U20):Option (BA×Int×Unit):=Qx n r some
theorem T4 (n:Nat) {S:Type}:∀ r (φ:_→Option S),(Px n r).bind φ=Qx n r φ:=by
  intros;unfold Px Qx;first | (simp only [ja,fa,iB,bB,oL,oX,nB,Option.bind_some]) | rfl
def rh (n:Nat):Hint Out:={ live:=fun c=>(cond (Nat.beq c 0) [(1,none),(4,none),(12,some (.sl .str)),(13,none),(14,none)] []),run:=fun c=>(cond (Nat.beq c 0) (some (ef uk tk fun σ ρ K=>(bc n n σ.1 σ.2.1 σ.2.2.1 ρ.1.1 ρ.1.2.1 ρ.2.2.1).bind (wc K))) none),xm:=fun c q=>(cond (Nat.beq c 0&&Nat.beq (q.getD 1000000) 0&&q.isSome) (some [(4,none)]) none),pl:=fun c=>Nat.beq c 0 }
def qh (n:Nat) (K:XE→List AV→oa→Option Out) (m:Nat) (t12:(Sq BA)) (t13:Int) (t14:Int) (r1:Int) (r2:(Sq BA)) (r21:(Sq Int)):Option Out:=Kb tys (ia Out (Ec n)) (rh n) n (ra [1,1,1,0,1,0,0] (ba Tryz.f54)) 0 uk tk K m (t12,(t13,(t14,()))) ((r1,(r2,())),((),(r21,())))
theorem Yy (n:Nat) (K:XE→List AV→oa→Option Out):∀ (m:Nat) t12 t13 t14 r1 r2 r21,qh n K m t12 t13 t14 r1 r2 r21=(bc n m t12 t13 t14 r1 r2 r21).bind (wc K)
  | 0,_,_,_,_,_,_=>by kernel_rfl
  | m+1,t12,t13,t14,r1,r2,r21=>by
    have h1:qh n K (m+1) t12 t13 t14 r1 r2 r21=vl n t12 t13 t14 r1 r2 r21 (qh n K m) (fun a=>wc K (.out a)) (fun a=>wc K (.ret a)) (fun p=>wc K (.pan p)):=by kernel_rfl
    have h2:qh n K m=fun t12 t13 t14 r1 r2 r21=>(bc n m t12 t13 t14 r1 r2 r21).bind (wc K):=by
      repeat (refine funext fun _=>?_)
      exact Yy n K m _ _ _ _ _ _
    rw [h1,h2];exact (xR n m _ _ _ _ _ _ (wc K)).symm
theorem AO (n:Nat):ub tys (ia Out (Ec n)) (rh n) n (ra [1,1,1,0,1,0,0] (ba Tryz.f54)) 0:=Aa (sp:=uk) (rp:=tk) (by kernel_rfl) fun K σ ρ=>Yy n K n σ.1 σ.2.1 σ.2.2.1 ρ.1.1 ρ.1.2.1 ρ.2.2.1
theorem yR (n:Nat):qa tys (ia Out (Ec n)) (rh n) n (ba Tryz.f54) 0:=⟨aa,⟨⟨aa,⟨⟨aa,aa⟩,aa⟩⟩,⟨aa,⟨⟨aa,⟨AO n,⟨aa,⟨⟨aa,aa⟩,⟨⟨aa,⟨aa,⟨⟨aa,⟨aa,aa⟩⟩,aa⟩⟩⟩,aa⟩⟩⟩⟩⟩,⟨aa,aa⟩⟩⟩⟩⟩
theorem QV (n:Nat):Enters Tryz.prog 54:=enters_of (c:=ba Tryz.f54) Tryz.func54 (by kernel_rfl) (by kernel_rfl)
def jG (n:Nat):Entry:=⟨54,pcT (.pair (.pair (.int .i64) (.pair (.sl .str) .unit)) .unit) (.many (.pair .str (.pair (.int .i64) .unit))) (fun xs=>Px n xs.1),none,none⟩
theorem DY (n:Nat):EntryOk Tryz.prog gl (jG n):=wa (QV n) fun xs y h=>ma tys_ok (jj n) mixed (hint:=rh n) (n:=n) Tryz.func54 (ya (yR n)) (la (φ:=(fun y=>some (Out.ret (Ya (.many (.pair .str (.pair (.int .i64) .unit))) y)))) (by kernel_rfl) (T4 n xs.1 _) h)
def Cu (n:Nat):List Entry:=jG n::Ec n
theorem Yv (n:Nat):AllOk Tryz.prog gl (Cu n):=.cons (DY n) (jj n)
def FS (n:Nat) {R:Type} (code:Int) (k:(BA×Int×Unit)→Option R):Option R:=(nZ n code).bind fun v=>if (v.toList==(⟨#[]⟩:BA).toList)=true then k ((⟨#[]⟩:BA),((1:Int),())) else (Px n (code,((⟨1,fun q=>List.getD (α:=BA) [v] q (ta .str)⟩:Sq BA),()))).bind fun v1=>k (v1.1,(v1.2.1,()))
def Ng (n:Nat) (code:Int):Option (BA×Int×Unit):=FS n code some
theorem Wjb (n:Nat) {S:Type}:∀ code (φ:_→Option S),(Ng n code).bind φ=FS n code φ:=by
  intros;unfold Ng FS;first | (simp only [ja,fa,iB,bB,oL,oX,nB,Option.bind_some]) | rfl
def OT (n:Nat):Hint Out:={ live:=fun c=>[],run:=fun c=>none,xm:=fun c q=>none }
theorem qbb (n:Nat):qa tys (ia Out (Cu n)) (OT n) n (ba Tryz.f26) 0:=na (fun _=>rfl) _ _ (by kernel_rfl)
theorem hfb (n:Nat):Enters Tryz.prog 26:=enters_of (c:=ba Tryz.f26) Tryz.func26 (by kernel_rfl) (by kernel_rfl)
def g7 (n:Nat):Entry:=⟨26,pcT (.pair (.int .i64) .unit) (.many (.pair .str (.pair (.int .i64) .unit))) (fun xs=>Ng n xs.1),none,none⟩
theorem khb (n:Nat):EntryOk Tryz.prog gl (g7 n):=wa (hfb n) fun xs y h=>ma tys_ok (Yv n) mixed (hint:=OT n) (n:=n) Tryz.func26 (ya (qbb n)) (la (φ:=(fun y=>some (Out.ret (Ya (.many (.pair .str (.pair (.int .i64) .unit))) y)))) (by kernel_rfl) (Wjb n xs.1 _) h)
def xA (n:Nat):List Entry:=g7 n::Cu n
theorem QP (n:Nat):AllOk Tryz.prog gl (xA n):=.cons (khb n) (Yv n)
def DD (n:Nat) {R:Type} (l1:(Sq Int)) (n01 i:Int) (kn:(Sq Int)→Int→Int→Option R) (ko:(Unit)→Option R) (kr:(Int)→Option R) (kp:Int→Option R):Option R:=if (decide (i<(l1.n:Int)))=true then if 0≤i∧i<(l1.n:Int) then if ((l1.at' (Int.toNat i))==n01)=true then kr i else kn l1 n01 (IntKind.wrap .i64 (i+(1:Int))) else none else ko ()
def Pi (n:Nat):Nat→(Sq Int)→Int→Int→Option (Lx (Unit) (Int))
 | 0,_,_,_=>none
 | m+1,l1,n01,i=>DD n l1 n01 i (Pi n m) (fun a=>some (.out a)) (fun a=>some (.ret a)) (fun p=>some (.pan p))
theorem Efb (n m:Nat) {S:Type}:∀ l1 n01 i (φ:_→Option S),(Pi n (m+1) l1 n01 i).bind φ=DD n l1 n01 i (fun l1 n01 i=>(Pi n m l1 n01 i).bind φ) (fun a=>φ (.out a)) (fun a=>φ (.ret a)) (fun p=>φ (.pan p)):=by
  intros;first | (simp only [Pi,DD,ja,fa,iB,bB,oL,oX,nB,Option.bind_some]) | rfl
def dH:List Sl:=.dat (.sl (.int .i64))::.dat (.int .i64)::.top::.top::.top::.dat (.int .i64)::tp 13 []
def cH:List RS:=[]
def JU:List Sl:=tp 19 []
def IU:List RS:=[]
def LU:List Sl:=tp 4 (.dat (.int .i64)::tp 14 [])
def KU:List RS:=[]
def Wj (K:XE→List AV→oa→Option Out):Lx (Unit) (Int)→Option Out:=fun x=>onL x (fun a=>yb JU IU () () (K (.exit 0))) (fun a=>yb LU KU (a,()) () (K .ret)) (fun _=>none)
def y3 (n:Nat) {R:Type} (l:(Sq Int)) (n0:Int) (k:Int→Option R):Option R:=(Pi n n l n0 (0:Int)).bind fun x_1=>onL x_1 (fun a_2=>k (-1:Int)) (fun a_3=>k a_3) (fun _=>none)
def rib (n:Nat) (l:(Sq Int)) (n0:Int):Option Int:=y3 n l n0 some
theorem Rmb (n:Nat) {S:Type}:∀ l n0 (φ:_→Option S),(rib n l n0).bind φ=y3 n l n0 φ:=by
  intros;unfold rib y3;first | (simp only [ja,fa,iB,bB,oL,oX,nB,Option.bind_some]) | rfl
def FD (n:Nat):Hint Out:={ live:=fun c=>(cond (Nat.beq c 0) [(0,some (.sl (.int .i64))),(1,none),(5,none)] []),run:=fun c=>(cond (Nat.beq c 0) (some (ef dH cH fun σ ρ K=>(Pi n n σ.1 σ.2.1 σ.2.2.1).bind (Wj K))) none),xm:=fun c q=>(cond (Nat.beq c 0&&Nat.beq (q.getD 1000000) 0&&q.isSome) (some []) (cond (Nat.beq c 1&&q.isNone) (some [(4,none)]) none)) }
def ED (n:Nat) (K:XE→List AV→oa→Option Out) (m:Nat) (l1:(Sq Int)) (n01:Int) (i:Int):Option Out:=Kb tys (ia Out (xA n)) (FD n) n (ra [1,0,1,0,0] (ba Tryz.f55)) 0 dH cH K m (l1,(n01,(i,()))) ()
theorem BZ (n:Nat) (K:XE→List AV→oa→Option Out):∀ (m:Nat) l1 n01 i,ED n K m l1 n01 i=(Pi n m l1 n01 i).bind (Wj K)
  | 0,_,_,_=>by kernel_rfl
  | m+1,l1,n01,i=>by
    have h1:ED n K (m+1) l1 n01 i=DD n l1 n01 i (ED n K m) (fun a=>Wj K (.out a)) (fun a=>Wj K (.ret a)) (fun p=>Wj K (.pan p)):=by kernel_rfl
    have h2:ED n K m=fun l1 n01 i=>(Pi n m l1 n01 i).bind (Wj K):=by
      repeat (refine funext fun _=>?_)
      exact BZ n K m _ _ _
    rw [h1,h2];exact (Efb n m _ _ _ (Wj K)).symm
theorem bcb (n:Nat):ub tys (ia Out (xA n)) (FD n) n (ra [1,0,1,0,0] (ba Tryz.f55)) 0:=Aa (sp:=dH) (rp:=cH) (by kernel_rfl) fun K σ ρ=>BZ n K n σ.1 σ.2.1 σ.2.2.1
theorem Ffb (n:Nat):qa tys (ia Out (xA n)) (FD n) n (ba Tryz.f55) 0:=⟨aa,⟨⟨aa,⟨bcb n,⟨⟨aa,⟨aa,aa⟩⟩,⟨⟨aa,⟨⟨aa,aa⟩,aa⟩⟩,aa⟩⟩⟩⟩,⟨aa,aa⟩⟩⟩
theorem sib (n:Nat):Enters Tryz.prog 55:=enters_of (c:=ba Tryz.f55) Tryz.func55 (by kernel_rfl) (by kernel_rfl)
def peb (n:Nat):Entry:=⟨55,pcT (.pair (.sl (.int .i64)) (.pair (.int .i64) .unit)) (.one (.int .i64)) (fun xs=>rib n xs.1 xs.2.1),none,none⟩
theorem Akb (n:Nat):EntryOk Tryz.prog gl (peb n):=wa (sib n) fun xs y h=>ma tys_ok (QP n) mixed (hint:=FD n) (n:=n) Tryz.func55 (ya (Ffb n)) (la (φ:=(fun y=>some (Out.ret (Ya (.one (.int .i64)) y)))) (by kernel_rfl) (Rmb n xs.1 xs.2.1 _) h)
def EK (n:Nat):List Entry:=peb n::xA n
theorem MU (n:Nat):AllOk Tryz.prog gl (EK n):=.cons (Akb n) (QP n)
def On (n:Nat) {R:Type} (n01:Int) (s:BA) (kn:Int→BA→Option R) (ko:(Int×BA)→Option R) (kr:Unit→Option R) (kp:Int→Option R):Option R:=if (decide (n01≥(10:Int)))=true then if Sa (nw 1 (fun q=>List.getD (α:=Int) [(IntKind.wrap .u8 (IntKind.wrap .i64 ((48:Int)+(Int.tmod n01 (10:Int)))))] q (ta (.int .u8)))) s=true then kn (IntKind.wrap .i64 (Int.tdiv n01 (10:Int))) ((nw 1 (fun q=>List.getD (α:=Int) [(IntKind.wrap .u8 (IntKind.wrap .i64 ((48:Int)+(Int.tmod n01 (10:Int)))))] q (ta (.int .u8))))++s) else none else ko (n01,s)
def xd (n:Nat):Nat→Int→BA→Option (Lx (Int×BA) Unit)
 | 0,_,_=>none
 | m+1,n01,s=>On n n01 s (xd n m) (fun a=>some (.out a)) (fun a=>some (.ret a)) (fun p=>some (.pan p))
theorem CU (n m:Nat) {S:Type}:∀ n01 s (φ:_→Option S),(xd n (m+1) n01 s).bind φ=On n n01 s (fun n01 s=>(xd n m n01 s).bind φ) (fun a=>φ (.out a)) (fun a=>φ (.ret a)) (fun p=>φ (.pan p)):=by
  intros;first | (simp only [xd,On,ja,fa,iB,bB,oL,oX,nB,Option.bind_some]) | rfl
def sm:List Sl:=.dat (.int .i64)::.top::.top::.dat .str::tp 25 []
def rm:List RS:=[]
def EE:List Sl:=.dat (.int .i64)::.top::.top::.dat .str::tp 25 []
def DE:List RS:=[]
def Vc (K:XE→List AV→oa→Option Out):Lx (Int×BA) Unit→Option Out:=fun x=>onL x (fun a=>yb EE DE (a.1,(a.2,())) () (K (.exit 0))) (fun _=>none) (fun _=>none)
def jB (n:Nat) {R:Type} (n0:Int) (k:BA→Option R):Option R:=if (decide (n0<(0:Int)))=true then none else (xd n n n0 (⟨#[]⟩:BA)).bind fun x_1=>onL x_1 (fun a_2=>if Sa (nw 1 (fun q=>List.getD (α:=Int) [(IntKind.wrap .u8 (IntKind.wrap .i64 ((48:Int)+a_2.1)))] q (ta (.int .u8)))) a_2.2=true then k ((nw 1 (fun q=>List.getD (α:=Int) [(IntKind.wrap .u8 (IntKind.wrap .i64 ((48:Int)+a_2.1)))] q (ta (.int .u8))))++a_2.2) else none) (fun _=>none) (fun _=>none)
def Bv (n:Nat) (n0:Int):Option BA:=jB n n0 some
theorem s8 (n:Nat) {S:Type}:∀ n0 (φ:_→Option S),(Bv n n0).bind φ=jB n n0 φ:=by
  intros;unfold Bv jB;first | (simp only [ja,fa,iB,bB,oL,oX,nB,Option.bind_some]) | rfl
def Ii (n:Nat):Hint Out:={ live:=fun c=>(cond (Nat.beq c 0) [(0,none),(3,none)] []),run:=fun c=>(cond (Nat.beq c 0) (some (ef sm rm fun σ ρ K=>(xd n n σ.1 σ.2.1).bind (Vc K))) none),xm:=fun c q=>(cond (Nat.beq c 0&&Nat.beq (q.getD 1000000) 0&&q.isSome) (some [(0,none),(3,none)]) none) }
def Gi (n:Nat) (K:XE→List AV→oa→Option Out) (m:Nat) (n01:Int) (s:BA):Option Out:=Kb tys (ia Out (EK n)) (Ii n) n (ra [1,1,1,0,0,0] (ba Tryz.f84)) 0 sm rm K m (n01,(s,())) ()
theorem kB (n:Nat) (K:XE→List AV→oa→Option Out):∀ (m:Nat) n01 s,Gi n K m n01 s=(xd n m n01 s).bind (Vc K)
  | 0,_,_=>by kernel_rfl
  | m+1,n01,s=>by
    have h1:Gi n K (m+1) n01 s=On n n01 s (Gi n K m) (fun a=>Vc K (.out a)) (fun a=>Vc K (.ret a)) (fun p=>Vc K (.pan p)):=by kernel_rfl
    have h2:Gi n K m=fun n01 s=>(xd n m n01 s).bind (Vc K):=by
      repeat (refine funext fun _=>?_)
      exact kB n K m _ _
    rw [h1,h2];exact (CU n m _ _ (Vc K)).symm
theorem fR (n:Nat):ub tys (ia Out (EK n)) (Ii n) n (ra [1,1,1,0,0,0] (ba Tryz.f84)) 0:=Aa (sp:=sm) (rp:=rm) (by kernel_rfl) fun K σ ρ=>kB n K n σ.1 σ.2.1
theorem DU (n:Nat):qa tys (ia Out (EK n)) (Ii n) n (ba Tryz.f84) 0:=⟨aa,⟨⟨aa,⟨⟨aa,aa⟩,aa⟩⟩,⟨aa,⟨⟨fR n,⟨⟨aa,⟨aa,aa⟩⟩,⟨aa,aa⟩⟩⟩,⟨aa,aa⟩⟩⟩⟩⟩
theorem VX (n:Nat):Enters Tryz.prog 84:=enters_of (c:=ba Tryz.f84) Tryz.func84 (by kernel_rfl) (by kernel_rfl)
def AK (n:Nat):Entry:=⟨84,pcT (.pair (.int .i64) .unit) (.one .str) (fun xs=>Bv n xs.1),none,none⟩
theorem o3 (n:Nat):EntryOk Tryz.prog gl (AK n):=wa (VX n) fun xs y h=>ma tys_ok (MU n) mixed (hint:=Ii n) (n:=n) Tryz.func84 (ya (DU n)) (la (φ:=(fun y=>some (Out.ret (Ya (.one .str) y)))) (by kernel_rfl) (s8 n xs.1 _) h)
def Hi (n:Nat):List Entry:=AK n::EK n
theorem Py (n:Nat):AllOk Tryz.prog gl (Hi n):=.cons (o3 n) (MU n)
def rx (n:Nat) {R:Type} (s:BA) (i r1:Int) (r2:(Sq BA)) (kn:BA→Int→Int→(Sq BA)→Option R) (ko:(BA)→Option R) (kr:Unit→Option R) (kp:Int→Option R):Option R:=if (decide (i<(r2.n:Int)))=true then if (i==(IntKind.wrap .i64 ((r2.n:Int) - (1:Int))))=true then (Bv n r1).bind fun v=>if Sa s v=true then if Sa (s++v) (⟨#[32]⟩:BA)=true then if 0≤i∧i<(r2.n:Int) then if Sa ((s++v)++(⟨#[32]⟩:BA)) (r2.at' (Int.toNat i))=true then if Sa (((s++v)++(⟨#[32]⟩:BA))++(r2.at' (Int.toNat i))) (⟨#[13,10]⟩:BA)=true then kn ((((s++v)++(⟨#[32]⟩:BA))++(r2.at' (Int.toNat i)))++(⟨#[13,10]⟩:BA)) (IntKind.wrap .i64 (i+(1:Int))) r1 r2 else none else none else none else none else none else (Bv n r1).bind fun v1=>if Sa s v1=true then if Sa (s++v1) (⟨#[45]⟩:BA)=true then if 0≤i∧i<(r2.n:Int) then if Sa ((s++v1)++(⟨#[45]⟩:BA)) (r2.at' (Int.toNat i))=true then if Sa (((s++v1)++(⟨#[45]⟩:BA))++(r2.at' (Int.toNat i))) (⟨#[13,10]⟩:BA)=true then kn ((((s++v1)++(⟨#[45]⟩:BA))++(r2.at' (Int.toNat i)))++(⟨#[13,10]⟩:BA)) (IntKind.wrap .i64 (i+(1:Int))) r1 r2 else none else none else none else none else none else ko s
def Uf (n:Nat):Nat→BA→Int→Int→(Sq BA)→Option (Lx (BA) Unit)
 | 0,_,_,_,_=>none
 | m+1,s,i,r1,r2=>rx n s i r1 r2 (Uf n m) (fun a=>some (.out a)) (fun a=>some (.ret a)) (fun p=>some (.pan p))
theorem M3 (n m:Nat) {S:Type}:∀ s i r1 r2 (φ:_→Option S),(Uf n (m+1) s i r1 r2).bind φ=rx n s i r1 r2 (fun s i r1 r2=>(Uf n m s i r1 r2).bind φ) (fun a=>φ (.out a)) (fun a=>φ (.ret a)) (fun p=>φ (.pan p)):=by
  intros;first | (simp only [Uf,rx,ja,fa,iB,bB,oL,oX,nB,Option.bind_some]) | rfl
def Xt:List Sl:=.top::.ptr 0 0 0::.top::.dat .str::.dat (.int .i64)::tp 29 []
def Wt:List RS:=[.box 87 2 true [.dat (.int .i64),.dat (.sl .str)]]
def YK:List Sl:=.top::.top::.top::.dat .str::tp 30 []
def XK:List RS:=[]
def Me (K:XE→List AV→oa→Option Out):Lx (BA) Unit→Option Out:=fun x=>onL x (fun a=>yb YK XK (a,()) () (K (.exit 0))) (fun _=>none) (fun _=>none)
def YN (n:Nat) {R:Type} (r:U20) (k:BA→Option R):Option R:=(Uf n n (⟨#[]⟩:BA) (0:Int) r.1 r.2.1).bind fun x_1=>onL x_1 (fun a_2=>k a_2) (fun _=>none) (fun _=>none)
def NS (n:Nat) (r:U20):Option BA:=YN n r some
theorem Lfb (n:Nat) {S:Type}:∀ r (φ:_→Option S),(NS n r).bind φ=YN n r φ:=by
  intros;unfold NS YN;first | (simp only [ja,fa,iB,bB,oL,oX,nB,Option.bind_some]) | rfl
def ao (n:Nat):Hint Out:={ live:=fun c=>(cond (Nat.beq c 0) (lv [1,3,4]) []),run:=fun c=>(cond (Nat.beq c 0) (some (ef Xt Wt fun σ ρ K=>(Uf n n σ.1 σ.2.1 ρ.1.1 ρ.1.2.1).bind (Me K))) none),xm:=fun c q=>(cond (Nat.beq c 0&&Nat.beq (q.getD 1000000) 0&&q.isSome) (some [(3,none)]) none) }
def Zn (n:Nat) (K:XE→List AV→oa→Option Out) (m:Nat) (s:BA) (i:Int) (r1:Int) (r2:(Sq BA)):Option Out:=Kb tys (ia Out (Hi n)) (ao n) n (ra [1,1,0,1,0,0] (ba Tryz.f56)) 0 Xt Wt K m (s,(i,())) ((r1,(r2,())),())
theorem WK (n:Nat) (K:XE→List AV→oa→Option Out):∀ (m:Nat) s i r1 r2,Zn n K m s i r1 r2=(Uf n m s i r1 r2).bind (Me K)
  | 0,_,_,_,_=>by kernel_rfl
  | m+1,s,i,r1,r2=>by
    have h1:Zn n K (m+1) s i r1 r2=rx n s i r1 r2 (Zn n K m) (fun a=>Me K (.out a)) (fun a=>Me K (.ret a)) (fun p=>Me K (.pan p)):=by kernel_rfl
    have h2:Zn n K m=fun s i r1 r2=>(Uf n m s i r1 r2).bind (Me K):=by
      repeat (refine funext fun _=>?_)
      exact WK n K m _ _ _ _
    rw [h1,h2];exact (M3 n m _ _ _ _ (Me K)).symm
theorem dY (n:Nat):ub tys (ia Out (Hi n)) (ao n) n (ra [1,1,0,1,0,0] (ba Tryz.f56)) 0:=Aa (sp:=Xt) (rp:=Wt) (by kernel_rfl) fun K σ ρ=>WK n K n σ.1 σ.2.1 ρ.1.1 ρ.1.2.1
theorem N3 (n:Nat):qa tys (ia Out (Hi n)) (ao n) n (ba Tryz.f56) 0:=⟨aa,⟨aa,⟨⟨aa,⟨dY n,⟨⟨aa,⟨aa,aa⟩⟩,⟨⟨aa,⟨⟨aa,⟨aa,aa⟩⟩,aa⟩⟩,aa⟩⟩⟩⟩,⟨aa,aa⟩⟩⟩⟩
theorem C8 (n:Nat):Enters Tryz.prog 56:=enters_of (c:=ba Tryz.f56) Tryz.func56 (by kernel_rfl) (by kernel_rfl)
def TU (n:Nat):Entry:=⟨56,pcT (.pair (.pair (.int .i64) (.pair (.sl .str) .unit)) .unit) (.one .str) (fun xs=>NS n xs.1),none,none⟩
theorem gcb (n:Nat):EntryOk Tryz.prog gl (TU n):=wa (C8 n) fun xs y h=>ma tys_ok (Py n) mixed (hint:=ao n) (n:=n) Tryz.func56 (ya (N3 n)) (la (φ:=(fun y=>some (Out.ret (Ya (.one .str) y)))) (by kernel_rfl) (Lfb n xs.1 _) h)
def gH (n:Nat):List Entry:=TU n::Hi n
theorem IF (n:Nat):AllOk Tryz.prog gl (gH n):=.cons (gcb n) (Py n)
def lL (n:Nat) {R:Type} (code:Int) (k:(BA×Bool×Unit)→Option R):Option R:=(rib n (⟨14,fun q=>List.getD (α:=Int) [(220:Int),(221:Int),(250:Int),(252:Int),(354:Int),(421:Int),(450:Int),(451:Int),(452:Int),(500:Int),(501:Int),(503:Int),(550:Int),(552:Int)] q (ta (.int .i64))⟩:Sq Int) code).bind fun v=>if (decide (v<(0:Int)))=true then k ((⟨#[]⟩:BA),(false,())) else if 0≤v∧v<(14:Int) then (NS n (code,((⟨1,fun q=>List.getD (α:=BA) [((fun q=>List.getD (α:=BA) [(⟨#[114,101,97,100,121]⟩:BA),(⟨#[98,121,101]⟩:BA),(⟨#[111,107]⟩:BA),(⟨#[116,114,121,32,105,116]⟩:BA),(⟨#[103,111,32,111,110]⟩:BA),(⟨#[110,111,116,32,110,111,119]⟩:BA),(⟨#[108,97,116,101,114]⟩:BA),(⟨#[102,97,105,108,101,100]⟩:BA),(⟨#[110,111,32,114,111,111,109]⟩:BA),(⟨#[119,104,97,116,63]⟩:BA),(⟨#[104,111,119,63]⟩:BA),(⟨#[110,111,116,32,121,101,116]⟩:BA),(⟨#[110,111]⟩:BA),(⟨#[116,111,111,32,108,111,110,103]⟩:BA)] q (ta .str)) (Int.toNat v))] q (ta .str)⟩:Sq BA),()))).bind fun v1=>k (v1,(true,())) else none
def sd (n:Nat) (code:Int):Option (BA×Bool×Unit):=lL n code some
theorem yib (n:Nat) {S:Type}:∀ code (φ:_→Option S),(sd n code).bind φ=lL n code φ:=by
  intros;unfold sd lL;first | (simp only [ja,fa,iB,bB,oL,oX,nB,Option.bind_some]) | rfl
def lQ (n:Nat):Hint Out:={ live:=fun c=>[],run:=fun c=>none,xm:=fun c q=>none }
theorem N8 (n:Nat):qa tys (ia Out (gH n)) (lQ n) n (ba Tryz.f27) 0:=na (fun _=>rfl) _ _ (by kernel_rfl)
theorem pcb (n:Nat):Enters Tryz.prog 27:=enters_of (c:=ba Tryz.f27) Tryz.func27 (by kernel_rfl) (by kernel_rfl)
def DZ (n:Nat):Entry:=⟨27,pcT (.pair (.int .i64) .unit) (.many (.pair .str (.pair .bool .unit))) (fun xs=>sd n xs.1),none,none⟩
theorem Pfb (n:Nat):EntryOk Tryz.prog gl (DZ n):=wa (pcb n) fun xs y h=>ma tys_ok (IF n) mixed (hint:=lQ n) (n:=n) Tryz.func27 (ya (N8 n)) (la (φ:=(fun y=>some (Out.ret (Ya (.many (.pair .str (.pair .bool .unit))) y)))) (by kernel_rfl) (yib n xs.1 _) h)
def Po (n:Nat):List Entry:=DZ n::gH n
theorem m4 (n:Nat):AllOk Tryz.prog gl (Po n):=.cons (Pfb n) (IF n)
def Bc (n:Nat) {R:Type} (l1:(Sq Int)) (code:Int) (kn:(Sq Int)→Int→Option R) (ko:((Sq Int))→Option R) (kr:(Bool)→Option R) (kp:Int→Option R):Option R:=if (decide (code<(700:Int)))=true then (Ng n code).bind fun v=>(sd n code).bind fun v1=>(mh n v.2.1).bind fun v2=>if (!(v1.2.1==(v2==(0:Int))))=false then if (!v1.2.1)=true then (mh n v.2.1).bind fun v3=>if (v3 !=(1:Int))=false then if (!(v.1.toList==v1.1.toList))=true then kr false else kn l1 (IntKind.wrap .i64 (code+(1:Int))) else kr false else if (!(v.1.toList==v1.1.toList))=true then kr false else kn l1 (IntKind.wrap .i64 (code+(1:Int))) else kr false else ko l1
def Fa (n:Nat):Nat→(Sq Int)→Int→Option (Lx ((Sq Int)) (Bool))
 | 0,_,_=>none
 | m+1,l1,code=>Bc n l1 code (Fa n m) (fun a=>some (.out a)) (fun a=>some (.ret a)) (fun p=>some (.pan p))
theorem YM (n m:Nat) {S:Type}:∀ l1 code (φ:_→Option S),(Fa n (m+1) l1 code).bind φ=Bc n l1 code (fun l1 code=>(Fa n m l1 code).bind φ) (fun a=>φ (.out a)) (fun a=>φ (.ret a)) (fun p=>φ (.pan p)):=by
  intros;first | (simp only [Fa,Bc,ja,fa,iB,bB,oL,oX,nB,Option.bind_some]) | rfl
def bi:List Sl:=.dat (.sl (.int .i64))::.top::.top::.dat (.int .i64)::tp 74 []
def ai:List RS:=[]
def uy:List Sl:=.dat (.sl (.int .i64))::tp 77 []
def sy:List RS:=[]
def xy:List Sl:=.top::.top::.dat .bool::tp 75 []
def wy:List RS:=[]
def Ib (K:XE→List AV→oa→Option Out):Lx ((Sq Int)) (Bool)→Option Out:=fun x=>onL x (fun a=>yb uy sy (a,()) () (K (.exit 0))) (fun a=>yb xy wy (a,()) () (K .ret)) (fun _=>none)
def Cc (n:Nat) {R:Type} (l3:(Sq Int)) (i:Int) (kn:(Sq Int)→Int→Option R) (ko:(Unit)→Option R) (kr:(Bool)→Option R) (kp:Int→Option R):Option R:=if (decide (i<(l3.n:Int)))=true then if (decide (i<(14:Int)))=true then if 0≤i∧i<(l3.n:Int) then (Ng n (l3.at' (Int.toNat i))).bind fun v4=>if 0≤i∧i<(l3.n:Int) then (sd n (l3.at' (Int.toNat i))).bind fun v5=>(mh n v4.2.1).bind fun v6=>if (!(v5.2.1==(v6==(0:Int))))=true then kr false else kn l3 (IntKind.wrap .i64 (i+(1:Int))) else none else none else ko () else ko ()
def Na (n:Nat):Nat→(Sq Int)→Int→Option (Lx (Unit) (Bool))
 | 0,_,_=>none
 | m+1,l3,i=>Cc n l3 i (Na n m) (fun a=>some (.out a)) (fun a=>some (.ret a)) (fun p=>some (.pan p))
theorem ZM (n m:Nat) {S:Type}:∀ l3 i (φ:_→Option S),(Na n (m+1) l3 i).bind φ=Cc n l3 i (fun l3 i=>(Na n m l3 i).bind φ) (fun a=>φ (.out a)) (fun a=>φ (.ret a)) (fun p=>φ (.pan p)):=by
  intros;first | (simp only [Na,Cc,ja,fa,iB,bB,oL,oX,nB,Option.bind_some]) | rfl
def di:List Sl:=.dat (.sl (.int .i64))::tp 7 (.dat (.int .i64)::tp 69 [])
def ci:List RS:=[]
def zy:List Sl:=tp 78 []
def yy:List RS:=[]
def By:List Sl:=.top::.top::.dat .bool::tp 75 []
def Ay:List RS:=[]
def Jb (K:XE→List AV→oa→Option Out):Lx (Unit) (Bool)→Option Out:=fun x=>onL x (fun a=>yb zy yy () () (K (.exit 2))) (fun a=>yb By Ay (a,()) () (K .ret)) (fun _=>none)
def Aj (n:Nat) {R:Type} (l:(Sq Int)) (k:Bool→Option R):Option R:=(Fa n n l (-1:Int)).bind fun x_1=>onL x_1 (fun a_2=>(Na n n a_2 (0:Int)).bind fun x_3=>onL x_3 (fun a_4=>(Mo n).bind fun v7=>k v7) (fun a_5=>k a_5) (fun _=>none)) (fun a_6=>k a_6) (fun _=>none)
def w2_CallerSaid (n:Nat) (l:(Sq Int)):Option Bool:=Aj n l some
theorem RW (n:Nat) {S:Type}:∀ l (φ:_→Option S),(w2_CallerSaid n l).bind φ=Aj n l φ:=by
  intros;unfold w2_CallerSaid Aj;first | (simp only [ja,fa,iB,bB,oL,oX,nB,Option.bind_some]) | rfl
def uc (n:Nat):Hint Out:={ live:=fun c=>(cond (Nat.beq c 2) [(0,some (.sl (.int .i64))),(8,none)] (cond (Nat.beq c 0) [(0,some (.sl (.int .i64))),(3,none)] [])),run:=fun c=>(cond (Nat.beq c 2) (some (ef di ci fun σ ρ K=>(Na n n σ.1 σ.2.1).bind (Jb K))) (cond (Nat.beq c 0) (some (ef bi ai fun σ ρ K=>(Fa n n σ.1 σ.2.1).bind (Ib K))) none)),xm:=fun c q=>(cond (Nat.beq c 2&&Nat.beq (q.getD 1000000) 2&&q.isSome) (some []) (cond (Nat.beq c 3&&q.isNone) (some [(2,none)]) (cond (Nat.beq c 0&&Nat.beq (q.getD 1000000) 0&&q.isSome) (some [(0,some (.sl (.int .i64)))]) (cond (Nat.beq c 1&&q.isNone) (some [(2,none)]) none)))) }
def Ef (n:Nat) (K:XE→List AV→oa→Option Out) (m:Nat) (l1:(Sq Int)) (code:Int):Option Out:=Kb tys (ia Out (Po n)) (uc n) n (ra [1,0,1,0,0] (ba Tryz.f14)) 0 bi ai K m (l1,(code,())) ()
theorem jt (n:Nat) (K:XE→List AV→oa→Option Out):∀ (m:Nat) l1 code,Ef n K m l1 code=(Fa n m l1 code).bind (Ib K)
  | 0,_,_=>by kernel_rfl
  | m+1,l1,code=>by
    have h1:Ef n K (m+1) l1 code=Bc n l1 code (Ef n K m) (fun a=>Ib K (.out a)) (fun a=>Ib K (.ret a)) (fun p=>Ib K (.pan p)):=by kernel_rfl
    have h2:Ef n K m=fun l1 code=>(Fa n m l1 code).bind (Ib K):=by
      repeat (refine funext fun _=>?_)
      exact jt n K m _ _
    rw [h1,h2];exact (YM n m _ _ (Ib K)).symm
theorem lJ (n:Nat):ub tys (ia Out (Po n)) (uc n) n (ra [1,0,1,0,0] (ba Tryz.f14)) 0:=Aa (sp:=bi) (rp:=ai) (by kernel_rfl) fun K σ ρ=>jt n K n σ.1 σ.2.1
def Ff (n:Nat) (K:XE→List AV→oa→Option Out) (m:Nat) (l3:(Sq Int)) (i:Int):Option Out:=Kb tys (ia Out (Po n)) (uc n) n (ra [1,1,0,1,0,0] (ba Tryz.f14)) 2 di ci K m (l3,(i,())) ()
theorem kt (n:Nat) (K:XE→List AV→oa→Option Out):∀ (m:Nat) l3 i,Ff n K m l3 i=(Na n m l3 i).bind (Jb K)
  | 0,_,_=>by kernel_rfl
  | m+1,l3,i=>by
    have h1:Ff n K (m+1) l3 i=Cc n l3 i (Ff n K m) (fun a=>Jb K (.out a)) (fun a=>Jb K (.ret a)) (fun p=>Jb K (.pan p)):=by kernel_rfl
    have h2:Ff n K m=fun l3 i=>(Na n m l3 i).bind (Jb K):=by
      repeat (refine funext fun _=>?_)
      exact kt n K m _ _
    rw [h1,h2];exact (ZM n m _ _ (Jb K)).symm
theorem mJ (n:Nat):ub tys (ia Out (Po n)) (uc n) n (ra [1,1,0,1,0,0] (ba Tryz.f14)) 2:=Aa (sp:=di) (rp:=ci) (by kernel_rfl) fun K σ ρ=>kt n K n σ.1 σ.2.1
theorem aN (n:Nat):qa tys (ia Out (Po n)) (uc n) n (ba Tryz.f14) 0:=⟨aa,⟨⟨aa,⟨lJ n,⟨⟨aa,⟨aa,aa⟩⟩,⟨⟨aa,⟨aa,⟨aa,⟨⟨aa,aa⟩,aa⟩⟩⟩⟩,aa⟩⟩⟩⟩,⟨⟨aa,⟨mJ n,⟨⟨aa,⟨aa,aa⟩⟩,⟨⟨aa,⟨aa,⟨aa,⟨⟨aa,aa⟩,aa⟩⟩⟩⟩,aa⟩⟩⟩⟩,⟨aa,aa⟩⟩⟩⟩
theorem kP (n:Nat):Enters Tryz.prog 14:=enters_of (c:=ba Tryz.f14) Tryz.func14 (by kernel_rfl) (by kernel_rfl)
def wS (n:Nat):Entry:=⟨14,pcT (.pair (.sl (.int .i64)) .unit) (.one .bool) (fun xs=>w2_CallerSaid n xs.1),none,none⟩
theorem w2_CallerSaid_ok (n:Nat):EntryOk Tryz.prog gl (wS n):=wa (kP n) fun xs y h=>ma tys_ok (m4 n) mixed (hint:=uc n) (n:=n) Tryz.func14 (ya (aN n)) (la (φ:=(fun y=>some (Out.ret (Ya (.one .bool) y)))) (by kernel_rfl) (RW n xs.1 _) h)
end
end Go.Proofs.YtdohilmgblkppaaGreatDoor.AM
