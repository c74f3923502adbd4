/- Typed functions that tell what the Go functions of this seat answer, and proofs of it, by program (gen.py). -/
import Derived.Test.YtdhehcnfkcibiaaGreatDoorKF0
set_option linter.all false
set_option linter.unusedVariables false
set_option linter.unusedSimpArgs false
set_option maxRecDepth 1000000
set_option maxHeartbeats 0
namespace Go.Proofs.YtdhehcnfkcibiaaGreatDoor.AM
open Go Go.RowKit
noncomputable section
def Cj (n:Nat) {R:Type} (s1:BA) (t5 t6:Int) (kn:BA→Int→Int→Option R) (ko:(BA)→Option R) (kr:(Bool)→Option R) (kp:Int→Option R):Option R:=if (decide (t6<t5))=true then if 0≤t6∧t6<(s1.size:Int) then (iy n (bt s1 t6)).bind fun v=>if (!v)=true then if 0≤t6∧t6<(s1.size:Int) then if ((bt s1 t6) !=(45:Int))=false then if (t6==(0:Int))=false then if (t6==(IntKind.wrap .i64 ((s1.size:Int) - (1:Int))))=true then kr false else kn s1 t5 (IntKind.wrap .i64 (t6+(1:Int))) else kr false else kr false else none else kn s1 t5 (IntKind.wrap .i64 (t6+(1:Int))) else none else ko s1
def Nd (n:Nat):Nat→BA→Int→Int→Option (Lx (BA) (Bool))
 | 0,_,_,_=>none
 | m+1,s1,t5,t6=>Cj n s1 t5 t6 (Nd n m) (fun a=>some (.out a)) (fun a=>some (.ret a)) (fun p=>some (.pan p))
theorem UI (n m:Nat) {S:Type}:∀ s1 t5 t6 (φ:_→Option S),(Nd n (m+1) s1 t5 t6).bind φ=Cj n s1 t5 t6 (fun s1 t5 t6=>(Nd n m s1 t5 t6).bind φ) (fun a=>φ (.out a)) (fun a=>φ (.ret a)) (fun p=>φ (.pan p)):=by
  intros;first | (simp only [Nd,Cj,ia,ba,iB,bB,oL,oX,nB,Option.bind_some]) | rfl
def Tp:List Sl:=.dat .str::tp 4 (.dat (.int .i64)::.dat (.int .i64)::tp 33 [])
def Sp:List RS:=[]
def uz:List Sl:=.dat .str::tp 39 []
def tz:List RS:=[]
def xz:List Sl:=.top::.top::.dat .bool::tp 37 []
def vz:List RS:=[]
def uf (K:XE→List AV→ja→Option Out):Lx (BA) (Bool)→Option Out:=fun x=>W7 x (fun a=>tj uz tz (a,()) () (K (.exit 0))) (fun a=>tj xz vz (a,()) () (K .ret)) (fun _=>none)
def Nv (n:Nat) {R:Type} (s:BA) (k:Bool→Option R):Option R:=(Nd n n s (s.size:Int) (0:Int)).bind fun x_1=>W7 x_1 (fun a_2=>if (decide ((a_2.size:Int)≥(1:Int)))=true then k (decide ((a_2.size:Int)≤(63:Int))) else k false) (fun a_3=>k a_3) (fun _=>none)
def No (n:Nat) (s:BA):Option Bool:=Nv n s some
theorem EP (n:Nat) {S:Type}:∀ s (φ:_→Option S),(No n s).bind φ=Nv n s φ:=by
  intros;unfold No Nv;first | (simp only [ia,ba,iB,bB,oL,oX,nB,Option.bind_some]) | rfl
def Rl (n:Nat):Hint Out:={ live:=fun c=>(cond (Nat.beq c 0) (lv [0,5,6]) []),run:=fun c=>(cond (Nat.beq c 0) (some (Ds Tp Sp fun σ ρ K=>(Nd n n σ.1 σ.2.1 σ.2.2.1).bind (uf K))) none),xm:=fun c q=>(cond (Nat.beq c 0&&Nat.beq (q.getD 1000000) 0&&q.isSome) (some [(0,none)]) (cond (Nat.beq c 1&&q.isNone) (some [(2,none)]) none)) }
def Ql (n:Nat) (K:XE→List AV→ja→Option Out) (m:Nat) (s1:BA) (t5:Int) (t6:Int):Option Out:=Jg tys (da Out (vi n)) (Rl n) n (Ba [1,0,1,0,0] (aa Tryz.f154)) 0 Tp Sp K m (s1,(t5,(t6,()))) ()
theorem rz (n:Nat) (K:XE→List AV→ja→Option Out):∀ (m:Nat) s1 t5 t6,Ql n K m s1 t5 t6=(Nd n m s1 t5 t6).bind (uf K)
  | 0,_,_,_=>by kernel_rfl
  | m+1,s1,t5,t6=>by
    have h1:Ql n K (m+1) s1 t5 t6=Cj n s1 t5 t6 (Ql n K m) (fun a=>uf K (.out a)) (fun a=>uf K (.ret a)) (fun p=>uf K (.pan p)):=by kernel_rfl
    have h2:Ql n K m=fun s1 t5 t6=>(Nd n m s1 t5 t6).bind (uf K):=by
      repeat (refine funext fun _=>?_)
      exact rz n K m _ _ _
    rw [h1,h2];exact (UI n m _ _ _ (uf K)).symm
theorem UG (n:Nat):dg tys (da Out (vi n)) (Rl n) n (Ba [1,0,1,0,0] (aa Tryz.f154)) 0:=Wa (sp:=Tp) (rp:=Sp) (by kernel_rfl) fun K σ ρ=>rz n K n σ.1 σ.2.1 σ.2.2.1
theorem VI (n:Nat):ra tys (da Out (vi n)) (Rl n) n (aa Tryz.f154) 0:=⟨trivial,⟨⟨trivial,⟨UG n,⟨trivial,⟨⟨trivial,trivial⟩,⟨⟨trivial,⟨trivial,⟨⟨trivial,trivial⟩,trivial⟩⟩⟩,trivial⟩⟩⟩⟩⟩,⟨trivial,trivial⟩⟩⟩
theorem JK (n:Nat):Enters Tryz.prog 154:=enters_of (c:=aa Tryz.f154) Tryz.func154 (by kernel_rfl) (by kernel_rfl)
def KE (n:Nat):Entry:=⟨154,e8 (.pair .str .unit) (.one .bool) (fun xs=>No n xs.1),none,none⟩
theorem NE (n:Nat):EntryOk Tryz.prog gl (KE n):=Ca (JK n) fun xs y h=>la tys_ok (Us n) mixed (hint:=Rl n) (n:=n) Tryz.func154 (Va (VI n)) (pa (φ:=(fun y=>some (Out.ret (me (.one .bool) y)))) (by kernel_rfl) (EP n xs.1 _) h)
def LE (n:Nat):List Entry:=KE n::vi n
theorem VG (n:Nat):AllOk Tryz.prog gl (LE n):=.cons (NE n) (Us n)
def Lg (n:Nat) (s:BA):Option Bool:=(ue n s).bind fun b=>if b=true then (sf n s ⟨#[93]⟩).bind fun c=>if c=true then (if 2≤(s.size:Int)∧(s.size:Int)≤9223372036854775807 then Dj n (s.extract 1 (s.size - 1)) else none) else some false else Dom.domT (fun x=>zk n x Dom.dot) (No n) n s
theorem QG:Tryz.prog.funcs[103]?=some Tryz.f103:=by kernel_rfl
theorem RG (n:Nat):EntryOk Tryz.prog gl ⟨103,e8 (.pair .str .unit) (.one .bool) (fun xs=>Lg n xs.1),none,none⟩:=Ca (enters_of (c:=aa Tryz.f103) QG (by kernel_rfl) (by kernel_rfl)) fun xs y h=>by
  refine qE (args:=[.string xs.1]) (v:=.bool y) (fun w0 hg hn=>?_)
  have hlit:∀ b,ue n xs.1=some b→∀ (w:World),Below w0.heap.size w0 w→Calls Tryz.prog 150 #[.string xs.1] w fun e w'=>e=.returned (.bool b)∧Below w.heap.size w w':=fun b hb' w hb=>
    eA (Zt n) (args:=[.string xs.1]) (v:=.bool b) (by show (ue n xs.1).bind _=_;rw [hb'];rfl) hg hn hb
  have hsuf:∀ b,sf n xs.1 ⟨#[93]⟩=some b→∀ (w:World),Below w0.heap.size w0 w→Calls Tryz.prog 151 #[.string xs.1,.string ⟨#[93]⟩] w fun e w'=>e=.returned (.bool b)∧Below w.heap.size w w':=fun b hb' w hb=>
    eA (Dv n) (args:=[.string xs.1,.string ⟨#[93]⟩]) (v:=.bool b) (by show (sf n xs.1 ⟨#[93]⟩).bind _=_;rw [hb'];rfl) hg hn hb
  unfold Lg at h
  obtain ⟨b,hb,h⟩:=Option.bind_eq_some_iff.1 h
  cases b with
  | true=>
    rw [if_pos rfl] at h
    obtain ⟨c,hc,h⟩:=Option.bind_eq_some_iff.1 h
    refine Dom.dom2 xs.1 c y w0 (hlit true hb) (hsuf c hc) (fun hc'=>?_) (fun hc'=>?_)
    · rw [if_pos hc'] at h
      split at h
      · rename_i hsz
        exact ⟨hsz,fun w hbw=>eA (zz n) (args:=[.string (xs.1.extract 1 (xs.1.size - 1))]) (v:=.bool y) (by show (Dj n (xs.1.extract 1 (xs.1.size - 1))).bind _=_;rw [h];rfl) hg hn hbw⟩
      · cases h
    · rw [if_neg (by rw [hc'];simp)] at h
      exact (Option.some.inj h).symm
  | false=>
    rw [if_neg (by simp)] at h
    exact Dom.dom1 _ _ n xs.1 y w0 (fun x i w hbw hx=>eA (AG n) (args:=[.string x,.string Dom.dot]) (v:=.int .i64 i) (by show (zk n x Dom.dot).bind _=_;rw [hx];rfl) hg hn hbw)
      (fun x i w hbw hx=>eA (NE n) (args:=[.string x]) (v:=.bool i) (by show (No n x).bind _=_;rw [hx];rfl) hg hn hbw) (hlit false hb) h
def Rp (n:Nat):List Entry:=⟨103,e8 (.pair .str .unit) (.one .bool) (fun xs=>Lg n xs.1),none,none⟩::LE n
theorem Aj (n:Nat):AllOk Tryz.prog gl (Rp n):=.cons (RG n) (VG n)
def Bk (n:Nat) {R:Type} (s:BA) (k:U2→Option R) (kp:Int→Option R):Option R:=(xi n s).bind fun x_1=>X7 x_1 (fun p=>kp p) (fun v=>if (decide ((v.1.size:Int)≤(64:Int)))=true then (jd n v.2.1 (⟨#[64]⟩:BA)).bind fun v1=>(Xb n v1).bind fun x_2=>X7 x_2 (fun p1=>kp p1) (fun v2=>if 0≤(1:Int)∧(1:Int)≤(v.2.1.size:Int) then (Qo n (v.2.1.extract (Int.toNat (1:Int)) (Int.toNat (v.2.1.size:Int)))).bind fun v3=>(Lg n v3).bind fun v4=>(Xb n v4).bind fun x_3=>X7 x_3 (fun p2=>kp p2) (fun v5=>k (v.1,(v3,()))) else none) else (Xb n false).bind fun x_4=>X7 x_4 (fun p3=>kp p3) (fun v6=>if 0≤(1:Int)∧(1:Int)≤(v.2.1.size:Int) then (Qo n (v.2.1.extract (Int.toNat (1:Int)) (Int.toNat (v.2.1.size:Int)))).bind fun v7=>(Lg n v7).bind fun v8=>(Xb n v8).bind fun x_5=>X7 x_5 (fun p4=>kp p4) (fun v9=>k (v.1,(v7,()))) else none))
def Mm (n:Nat) (s:BA):Option (Except Int U2):=Bk n s (fun y=>some (.ok y)) (fun p=>some (.error p))
theorem QK (n:Nat) {S:Type}:∀ s (φ:_→Option S),(Mm n s).bind φ=Bk n s (fun y=>φ (.ok y)) (fun p=>φ (.error p)):=by
  intros;unfold Mm Bk;first | (simp only [ia,ba,iB,bB,oL,oX,nB,Option.bind_some]) | rfl
def eu (n:Nat):Hint Out:={ live:=fun c=>[],run:=fun c=>none,xm:=fun c q=>none }
theorem VC (n:Nat):ra tys (da Out (Rp n)) (eu n) n (aa Tryz.f216) 0:=qa (fun _=>rfl) _ _ (by kernel_rfl)
theorem QM (n:Nat):Enters Tryz.prog 216:=enters_of (c:=aa Tryz.f216) Tryz.func216 (by kernel_rfl) (by kernel_rfl)
def iI (n:Nat):Entry:=⟨216,f8 244 (.pair .str .unit) (.one (.pair .str (.pair .str .unit))) (fun xs=>Mm n xs.1),none,none⟩
theorem JP (n:Nat):EntryOk Tryz.prog gl (iI n):=XO (QM n) (fun xs y h=>la tys_ok (Aj n) mixed (hint:=eu n) (n:=n) Tryz.func216 (Va (VC n)) (pa (φ:=(fun r=>X7 r (fun p=>some (Out.pan (Mv 244 p))) fun y=>some (Out.ret (me (.one (.pair .str (.pair .str .unit))) y)))) (by kernel_rfl) (QK n xs.1 _) h)) (fun xs p h=>la tys_ok (Aj n) mixed (hint:=eu n) (n:=n) Tryz.func216 (Va (VC n)) (pa (φ:=(fun r=>X7 r (fun p=>some (Out.pan (Mv 244 p))) fun y=>some (Out.ret (me (.one (.pair .str (.pair .str .unit))) y)))) (by kernel_rfl) (QK n xs.1 _) h))
def Dm (n:Nat):List Entry:=iI n::Rp n
theorem Lz (n:Nat):AllOk Tryz.prog gl (Dm n):=.cons (JP n) (Aj n)
def Cm (n:Nat) {R:Type} (s:BA) (k:(U2×Int×Unit)→Option R):Option R:=(Mm n s).bind fun x_1=>X7 x_1 (fun p=>k (((⟨#[]⟩:BA),((⟨#[]⟩:BA),())),(p,()))) (fun v=>k ((v.1,(v.2.1,())),((0:Int),())))
def Mo (n:Nat) (s:BA):Option (U2×Int×Unit):=Cm n s some
theorem CP (n:Nat) {S:Type}:∀ s (φ:_→Option S),(Mo n s).bind φ=Cm n s φ:=by
  intros;unfold Mo Cm;first | (simp only [ia,ba,iB,bB,oL,oX,nB,Option.bind_some]) | rfl
def Pl (n:Nat):Hint Out:={ live:=fun c=>[],run:=fun c=>none,xm:=fun c q=>none,pm:=some [(2,none),(3,none)] }
theorem TI (n:Nat):ra tys (da Out (Dm n)) (Pl n) n (Ba [0] (aa Tryz.f174)) 0∧ra tys (da Out (Dm n)) (Pl n) n (Ba [1,1] (aa Tryz.f174)) 0:=⟨trivial,⟨trivial,trivial⟩⟩
theorem GK (n:Nat):Enters Tryz.prog 174:=enters_of (c:=aa Tryz.f174) Tryz.func174 (by kernel_rfl) (by kernel_rfl)
theorem RC:Tryz.prog.funcs[215]?=some Tryz.f215:=by kernel_rfl
theorem SI:Enters Tryz.prog 215:=enters_of (c:=aa Tryz.f215) RC (by kernel_rfl) (by kernel_rfl)
theorem TG (n:Nat):ra tys (da Out (Dm n)) tL n (Ba [1] (aa Tryz.f215)) 0:=⟨⟨trivial,⟨trivial,trivial⟩⟩,⟨trivial,⟨⟨trivial,⟨trivial,trivial⟩⟩,trivial⟩⟩⟩
theorem BP (n:Nat) (s:BA):d7 tys (da Out (Dm n)) (Pl n) n 215 Tryz.f215 Tryz.f174 (EQ (.pair .str .unit) (s,())) (tQ fun v=>some (.ret v))=Cm n s (fun y=>some (.ret (me (.many (.pair (.pair .str (.pair .str .unit)) (.pair (.int .i64) .unit))) y))):=by kernel_rfl
def JE (n:Nat):Entry:=⟨174,e8 (.pair .str .unit) (.many (.pair (.pair .str (.pair .str .unit)) (.pair (.int .i64) .unit))) (fun xs=>Mo n xs.1),none,none⟩
theorem KM (n:Nat):EntryOk Tryz.prog gl (JE n):=Ca (GK n) fun xs y h=>NP tys_ok (Lz n) mixed (hint:=Pl n) (n:=n) (fn:=Tryz.f174) (f2:=Tryz.f215) Tryz.func174 RC SI (C3 (TI n)) (fZ (TG n)) (pa (φ:=(fun y=>some (Out.ret (me (.many (.pair (.pair .str (.pair .str .unit)) (.pair (.int .i64) .unit))) y)))) (BP n xs.1) (CP n xs.1 _) h)
def cy (n:Nat):List Entry:=JE n::Dm n
theorem kx (n:Nat):AllOk Tryz.prog gl (cy n):=.cons (KM n) (Lz n)
def pE (n:Nat) {R:Type} (m0:U2) (k:Bool→Option R):Option R:=(dI n (m0.1,(m0.2.1,()))).bind fun v=>(Mo n v).bind fun v1=>if (v1.2.1==(0:Int))=true then k ((v1.1.1.toList==m0.1.toList)&&((v1.1.2.1.toList==m0.2.1.toList)&&true)) else k false
def GE (n:Nat) (m0:U2):Option Bool:=pE n m0 some
theorem YS (n:Nat) {S:Type}:∀ m0 (φ:_→Option S),(GE n m0).bind φ=pE n m0 φ:=by
  intros;unfold GE pE;first | (simp only [ia,ba,iB,bB,oL,oX,nB,Option.bind_some]) | rfl
def IE (n:Nat):Hint Out:={ live:=fun c=>[],run:=fun c=>none,xm:=fun c q=>none }
theorem JM (n:Nat):ra tys (da Out (cy n)) (IE n) n (aa Tryz.f130) 0:=qa (fun _=>rfl) _ _ (by kernel_rfl)
theorem AP (n:Nat):Enters Tryz.prog 130:=enters_of (c:=aa Tryz.f130) Tryz.func130 (by kernel_rfl) (by kernel_rfl)
def FK (n:Nat):Entry:=⟨130,e8 (.pair (.pair .str (.pair .str .unit)) .unit) (.one .bool) (fun xs=>GE n xs.1),none,none⟩
theorem VQ (n:Nat):EntryOk Tryz.prog gl (FK n):=Ca (AP n) fun xs y h=>la tys_ok (kx n) mixed (hint:=IE n) (n:=n) Tryz.func130 (Va (JM n)) (pa (φ:=(fun y=>some (Out.ret (me (.one .bool) y)))) (by kernel_rfl) (YS n xs.1 _) h)
def HE (n:Nat):List Entry:=FK n::cy n
theorem QC (n:Nat):AllOk Tryz.prog gl (HE n):=.cons (VQ n) (kx n)
def Tr (n:Nat) {R:Type} (r:T0) (k:Bool→Option R):Option R:=(GE n (r.1.1,(r.1.2.1,()))).bind fun v=>if v=true then (Nc n r.2.1 (0:Int) (4:Int)).bind fun v1=>if v1=true then (Nc n r.2.2.1 (0:Int) (1048576:Int)).bind fun v2=>if v2=true then (Nc n r.2.2.2.1 (0:Int) (2199023255552:Int)).bind fun v3=>if v3=true then (Nc n r.2.2.2.2.1 (0:Int) (599:Int)).bind fun v4=>k v4 else k false else k false else k false else k false
def ar (n:Nat) (r:T0):Option Bool:=Tr n r some
theorem rN (n:Nat) {S:Type}:∀ r (φ:_→Option S),(ar n r).bind φ=Tr n r φ:=by
  intros;unfold ar Tr;first | (simp only [ia,ba,iB,bB,oL,oX,nB,Option.bind_some]) | rfl
def Fx (n:Nat):Hint Out:={ live:=fun c=>[],run:=fun c=>none,xm:=fun c q=>none }
theorem tH (n:Nat):ra tys (da Out (HE n)) (Fx n) n (aa Tryz.f171) 0:=qa (fun _=>rfl) _ _ (by kernel_rfl)
theorem CJ (n:Nat):Enters Tryz.prog 171:=enters_of (c:=aa Tryz.f171) Tryz.func171 (by kernel_rfl) (by kernel_rfl)
def eD (n:Nat):Entry:=⟨171,e8 o6 (.one .bool) (fun xs=>ar n xs.1),none,none⟩
theorem IL (n:Nat):EntryOk Tryz.prog gl (eD n):=Ca (CJ n) fun xs y h=>la tys_ok (QC n) mixed (hint:=Fx n) (n:=n) Tryz.func171 (Va (tH n)) (pa (φ:=(fun y=>some (Out.ret (me (.one .bool) y)))) (by kernel_rfl) (rN n xs.1 _) h)
def Ik (n:Nat):List Entry:=eD n::HE n
theorem Bu (n:Nat):AllOk Tryz.prog gl (Ik n):=.cons (IL n) (QC n)
def th (n:Nat) {R:Type} (l1 t7:(Sq T0)) (t8 t9:Int) (seen:(Sq U2)) (kn:(Sq T0)→(Sq T0)→Int→Int→(Sq U2)→Option R) (ko:((Sq T0))→Option R) (kr:(Bool)→Option R) (kp:Int→Option R):Option R:=if (decide (t9<t8))=true then if 0≤t9∧t9<(t7.n:Int) then (ar n (((((t7.at' (Int.toNat t9))).1).1,(((((t7.at' (Int.toNat t9))).1).2).1,())),((((t7.at' (Int.toNat t9))).2).1,(((((t7.at' (Int.toNat t9))).2).2).1,((((((t7.at' (Int.toNat t9))).2).2).2).1,(((((((t7.at' (Int.toNat t9))).2).2).2).2).1,())))))).bind fun v=>if (!v)=false then if Xe (.pair .str (.pair .str .unit)) ((((t7.at' (Int.toNat t9))).1).1,(((((t7.at' (Int.toNat t9))).1).2).1,()))=true then if (sI (.pair .str (.pair .str .unit)) seen ((((t7.at' (Int.toNat t9))).1).1,(((((t7.at' (Int.toNat t9))).1).2).1,())))=true then kr false else if Xe (.pair .str (.pair .str .unit)) ((((t7.at' (Int.toNat t9))).1).1,(((((t7.at' (Int.toNat t9))).1).2).1,()))=true then kn l1 t7 t8 (IntKind.wrap .i64 (t9+(1:Int))) (AI (.pair .str (.pair .str .unit)) seen ((((t7.at' (Int.toNat t9))).1).1,(((((t7.at' (Int.toNat t9))).1).2).1,()))) else none else none else kr false else none else ko l1
def nc (n:Nat):Nat→(Sq T0)→(Sq T0)→Int→Int→(Sq U2)→Option (Lx ((Sq T0)) (Bool))
 | 0,_,_,_,_,_=>none
 | m+1,l1,t7,t8,t9,seen=>th n l1 t7 t8 t9 seen (nc n m) (fun a=>some (.out a)) (fun a=>some (.ret a)) (fun p=>some (.pan p))
theorem JF (n m:Nat) {S:Type}:∀ l1 t7 t8 t9 seen (φ:_→Option S),(nc n (m+1) l1 t7 t8 t9 seen).bind φ=th n l1 t7 t8 t9 seen (fun l1 t7 t8 t9 seen=>(nc n m l1 t7 t8 t9 seen).bind φ) (fun a=>φ (.out a)) (fun a=>φ (.ret a)) (fun p=>φ (.pan p)):=by
  intros;first | (simp only [nc,th,ia,ba,iB,bB,oL,oX,nB,Option.bind_some]) | rfl
def ql:List Sl:=.dat (.sl K0)::.top::.top::.mp 0::.top::.top::.top::.dat (.sl K0)::.dat (.int .i64)::.dat (.int .i64)::tp 19 []
def ol:List RS:=[.set 195 (.pair .str (.pair .str .unit))]
def Dw:List Sl:=.dat (.sl K0)::tp 28 []
def Cw:List RS:=[]
def Fw:List Sl:=.top::.top::.dat .bool::tp 26 []
def Ew:List RS:=[]
def Sd (K:XE→List AV→ja→Option Out):Lx ((Sq T0)) (Bool)→Option Out:=fun x=>W7 x (fun a=>tj Dw Cw (a,()) () (K (.exit 0))) (fun a=>tj Fw Ew (a,()) () (K .ret)) (fun _=>none)
def gp (n:Nat) {R:Type} (l:(Sq T0)) (k:Bool→Option R):Option R:=(nc n n l l (l.n:Int) (0:Int) (⟨0,fun _=>Ea (.pair .str (.pair .str .unit))⟩:Sq U2)).bind fun x_1=>W7 x_1 (fun a_2=>(Nc n (a_2.n:Int) (1:Int) (8:Int)).bind fun v1=>k v1) (fun a_3=>k a_3) (fun _=>none)
def Fm (n:Nat) (l:(Sq T0)):Option Bool:=gp n l some
theorem JL (n:Nat) {S:Type}:∀ l (φ:_→Option S),(Fm n l).bind φ=gp n l φ:=by
  intros;unfold Fm gp;first | (simp only [ia,ba,iB,bB,oL,oX,nB,Option.bind_some]) | rfl
def Ki (n:Nat):Hint Out:={ live:=fun c=>(cond (Nat.beq c 0) [(0,some (.sl K0)),(3,none),(7,some (.sl K0)),(8,none),(9,none)] []),run:=fun c=>(cond (Nat.beq c 0) (some (Ds ql ol fun σ ρ K=>(nc n n σ.1 σ.2.1 σ.2.2.1 σ.2.2.2.1 ρ.1).bind (Sd K))) none),xm:=fun c q=>(cond (Nat.beq c 0&&Nat.beq (q.getD 1000000) 0&&q.isSome) (some [(0,some (.sl K0))]) (cond (Nat.beq c 1&&q.isNone) (some [(2,none)]) none)) }
def Ji (n:Nat) (K:XE→List AV→ja→Option Out) (m:Nat) (l1:(Sq T0)) (t7:(Sq T0)) (t8:Int) (t9:Int) (seen:(Sq U2)):Option Out:=Jg tys (da Out (Ik n)) (Ki n) n (Ba [1,1,0,1,0,0] (aa Tryz.f128)) 0 ql ol K m (l1,(t7,(t8,(t9,())))) (seen,())
theorem Cu (n:Nat) (K:XE→List AV→ja→Option Out):∀ (m:Nat) l1 t7 t8 t9 seen,Ji n K m l1 t7 t8 t9 seen=(nc n m l1 t7 t8 t9 seen).bind (Sd K)
  | 0,_,_,_,_,_=>by kernel_rfl
  | m+1,l1,t7,t8,t9,seen=>by
    have h1:Ji n K (m+1) l1 t7 t8 t9 seen=th n l1 t7 t8 t9 seen (Ji n K m) (fun a=>Sd K (.out a)) (fun a=>Sd K (.ret a)) (fun p=>Sd K (.pan p)):=by kernel_rfl
    have h2:Ji n K m=fun l1 t7 t8 t9 seen=>(nc n m l1 t7 t8 t9 seen).bind (Sd K):=by
      repeat (refine funext fun _=>?_)
      exact Cu n K m _ _ _ _ _
    rw [h1,h2];exact (JF n m _ _ _ _ _ (Sd K)).symm
theorem LD (n:Nat):dg tys (da Out (Ik n)) (Ki n) n (Ba [1,1,0,1,0,0] (aa Tryz.f128)) 0:=Wa (sp:=ql) (rp:=ol) (by kernel_rfl) fun K σ ρ=>Cu n K n σ.1 σ.2.1 σ.2.2.1 σ.2.2.2.1 ρ.1
theorem KF (n:Nat):ra tys (da Out (Ik n)) (Ki n) n (aa Tryz.f128) 0:=⟨trivial,⟨trivial,⟨⟨trivial,⟨LD n,⟨trivial,⟨⟨trivial,trivial⟩,⟨⟨trivial,⟨⟨trivial,⟨⟨trivial,trivial⟩,trivial⟩⟩,trivial⟩⟩,trivial⟩⟩⟩⟩⟩,⟨trivial,trivial⟩⟩⟩⟩
theorem uH (n:Nat):Enters Tryz.prog 128:=enters_of (c:=aa Tryz.f128) Tryz.func128 (by kernel_rfl) (by kernel_rfl)
def sA (n:Nat):Entry:=⟨128,e8 q6 (.one .bool) (fun xs=>Fm n xs.1),none,none⟩
theorem DJ (n:Nat):EntryOk Tryz.prog gl (sA n):=Ca (uH n) fun xs y h=>la tys_ok (Bu n) mixed (hint:=Ki n) (n:=n) Tryz.func128 (Va (KF n)) (pa (φ:=(fun y=>some (Out.ret (me (.one .bool) y)))) (by kernel_rfl) (JL n xs.1 _) h)
def Ur (n:Nat):List Entry:=sA n::Ik n
theorem zt (n:Nat):AllOk Tryz.prog gl (Ur n):=.cons (DJ n) (Bu n)
def jA (n:Nat) {R:Type} (s sep:BA) (k:(BA×BA×Bool×Unit)→Option R):Option R:=(Bx s sep).bind fun v=>if (decide (v≥(0:Int)))=true then if 0≤v∧v≤(s.size:Int) then if 0≤(IntKind.wrap .i64 (v+(sep.size:Int)))∧(IntKind.wrap .i64 (v+(sep.size:Int)))≤(s.size:Int) then k ((s.extract (Int.toNat (0:Int)) (Int.toNat v)),((s.extract (Int.toNat (IntKind.wrap .i64 (v+(sep.size:Int)))) (Int.toNat (s.size:Int))),(true,()))) else none else none else k (s,((⟨#[]⟩:BA),(false,())))
def tI (n:Nat) (s sep:BA):Option (BA×BA×Bool×Unit):=jA n s sep some
theorem qT (n:Nat) {S:Type}:∀ s sep (φ:_→Option S),(tI n s sep).bind φ=jA n s sep φ:=by
  intros;unfold tI jA;first | (simp only [ia,ba,iB,bB,oL,oX,nB,Option.bind_some]) | rfl
def xF (n:Nat):Hint Out:={ live:=fun c=>[],run:=fun c=>none,xm:=fun c q=>none }
theorem lN (n:Nat):ra tys (da Out (Ur n)) (xF n) n (aa Tryz.f213) 0:=qa (fun _=>rfl) _ _ (by kernel_rfl)
theorem WP (n:Nat):Enters Tryz.prog 213:=enters_of (c:=aa Tryz.f213) Tryz.func213 (by kernel_rfl) (by kernel_rfl)
def vL (n:Nat):Entry:=⟨213,e8 (.pair .str (.pair .str .unit)) (.many (.pair .str (.pair .str (.pair .bool .unit)))) (fun xs=>tI n xs.1 xs.2.1),none,none⟩
theorem GR (n:Nat):EntryOk Tryz.prog gl (vL n):=Ca (WP n) fun xs y h=>la tys_ok (zt n) mixed (hint:=xF n) (n:=n) Tryz.func213 (Va (lN n)) (pa (φ:=(fun y=>some (Out.ret (me (.many (.pair .str (.pair .str (.pair .bool .unit)))) y)))) (by kernel_rfl) (qT n xs.1 xs.2.1 _) h)
def wF (n:Nat):List Entry:=vL n::Ur n
theorem cD (n:Nat):AllOk Tryz.prog gl (wF n):=.cons (GR n) (zt n)
def pB (n:Nat) {R:Type} (s sep:BA) (k:(BA×BA×Bool×Unit)→Option R):Option R:=(tI n s sep).bind fun v=>k (v.1,(v.2.1,(v.2.2.1,())))
def pD (n:Nat) (s sep:BA):Option (BA×BA×Bool×Unit):=pB n s sep some
theorem aU (n:Nat) {S:Type}:∀ s sep (φ:_→Option S),(pD n s sep).bind φ=pB n s sep φ:=by
  intros;unfold pD pB;first | (simp only [ia,ba,iB,bB,oL,oX,nB,Option.bind_some]) | rfl
def wG (n:Nat):Hint Out:={ live:=fun c=>[],run:=fun c=>none,xm:=fun c q=>none }
theorem TN (n:Nat):ra tys (da Out (wF n)) (wG n) n (aa Tryz.f172) 0:=qa (fun _=>rfl) _ _ (by kernel_rfl)
theorem vQ (n:Nat):Enters Tryz.prog 172:=enters_of (c:=aa Tryz.f172) Tryz.func172 (by kernel_rfl) (by kernel_rfl)
def kM (n:Nat):Entry:=⟨172,e8 (.pair .str (.pair .str .unit)) (.many (.pair .str (.pair .str (.pair .bool .unit)))) (fun xs=>pD n xs.1 xs.2.1),none,none⟩
theorem xS (n:Nat):EntryOk Tryz.prog gl (kM n):=Ca (vQ n) fun xs y h=>la tys_ok (cD n) mixed (hint:=wG n) (n:=n) Tryz.func172 (Va (TN n)) (pa (φ:=(fun y=>some (Out.ret (me (.many (.pair .str (.pair .str (.pair .bool .unit)))) y)))) (by kernel_rfl) (aU n xs.1 xs.2.1 _) h)
def lM (n:Nat):List Entry:=kM n::wF n
theorem mM (n:Nat):AllOk Tryz.prog gl (lM n):=.cons (xS n) (cD n)
def Zj (n:Nat):List Entry:=⟨214,e8 (.pair .str (.pair .str .unit)) (.one .bool) (fun xs=>RP xs.1 xs.2.1),none,none⟩::lM n
theorem Kl (n:Nat):AllOk Tryz.prog gl (Zj n):=.cons gH (mM n)
def Pr (n:Nat) {R:Type} (s:BA) (k:Bool→Option R):Option R:=if (decide ((s.size:Int)≤(509:Int)))=true then (RP s (⟨#[13,10]⟩:BA)).bind fun v=>k (!v) else k false
def Pq (n:Nat) (s:BA):Option Bool:=Pr n s some
theorem fN (n:Nat) {S:Type}:∀ s (φ:_→Option S),(Pq n s).bind φ=Pr n s φ:=by
  intros;unfold Pq Pr;first | (simp only [ia,ba,iB,bB,oL,oX,nB,Option.bind_some]) | rfl
def ux (n:Nat):Hint Out:={ live:=fun c=>[],run:=fun c=>none,xm:=fun c q=>none }
theorem iH (n:Nat):ra tys (da Out (Zj n)) (ux n) n (aa Tryz.f173) 0:=qa (fun _=>rfl) _ _ (by kernel_rfl)
theorem nJ (n:Nat):Enters Tryz.prog 173:=enters_of (c:=aa Tryz.f173) Tryz.func173 (by kernel_rfl) (by kernel_rfl)
def YC (n:Nat):Entry:=⟨173,e8 (.pair .str .unit) (.one .bool) (fun xs=>Pq n xs.1),none,none⟩
theorem eL (n:Nat):EntryOk Tryz.prog gl (YC n):=Ca (nJ n) fun xs y h=>la tys_ok (Kl n) mixed (hint:=ux n) (n:=n) Tryz.func173 (Va (iH n)) (pa (φ:=(fun y=>some (Out.ret (me (.one .bool) y)))) (by kernel_rfl) (fN n xs.1 _) h)
def Dk (n:Nat):List Entry:=YC n::Zj n
theorem qu (n:Nat):AllOk Tryz.prog gl (Dk n):=.cons (eL n) (Kl n)
def Sm (n:Nat) {R:Type} (s1:BA) (kn:BA→Option R) (ko:(Unit)→Option R) (kr:(Bool)→Option R) (kp:Int→Option R):Option R:=if (!(s1.toList==(⟨#[]⟩:BA).toList))=true then (pD n s1 (⟨#[13,10]⟩:BA)).bind fun v=>if (!v.2.2.1)=false then (Pq n v.1).bind fun v1=>if (!v1)=true then kr false else kn v.2.1 else kr false else ko ()
def Ge (n:Nat):Nat→BA→Option (Lx (Unit) (Bool))
 | 0,_=>none
 | m+1,s1=>Sm n s1 (Ge n m) (fun a=>some (.out a)) (fun a=>some (.ret a)) (fun p=>some (.pan p))
theorem oJ (n m:Nat) {S:Type}:∀ s1 (φ:_→Option S),(Ge n (m+1) s1).bind φ=Sm n s1 (fun s1=>(Ge n m s1).bind φ) (fun a=>φ (.out a)) (fun a=>φ (.ret a)) (fun p=>φ (.pan p)):=by
  intros;first | (simp only [Ge,Sm,ia,ba,iB,bB,oL,oX,nB,Option.bind_some]) | rfl
def dq:List Sl:=.dat .str::tp 24 []
def cq:List RS:=[]
def bA:List Sl:=tp 25 []
def aA:List RS:=[]
def dA:List Sl:=.top::.top::.dat .bool::tp 22 []
def cA:List RS:=[]
def Af (K:XE→List AV→ja→Option Out):Lx (Unit) (Bool)→Option Out:=fun x=>W7 x (fun a=>tj bA aA () () (K (.exit 0))) (fun a=>tj dA cA (a,()) () (K .ret)) (fun _=>none)
def Tv (n:Nat) {R:Type} (s:BA) (k:Bool→Option R):Option R:=if (decide ((s.size:Int)>(8192:Int)))=true then k false else (Ge n n s).bind fun x_1=>W7 x_1 (fun a_2=>k true) (fun a_3=>k a_3) (fun _=>none)
def Qr (n:Nat) (s:BA):Option Bool:=Tv n s some
theorem TP (n:Nat) {S:Type}:∀ s (φ:_→Option S),(Qr n s).bind φ=Tv n s φ:=by
  intros;unfold Qr Tv;first | (simp only [ia,ba,iB,bB,oL,oX,nB,Option.bind_some]) | rfl
def cm (n:Nat):Hint Out:={ live:=fun c=>(cond (Nat.beq c 0) [(0,none)] []),run:=fun c=>(cond (Nat.beq c 0) (some (Ds dq cq fun σ ρ K=>(Ge n n σ.1).bind (Af K))) none),xm:=fun c q=>(cond (Nat.beq c 0&&Nat.beq (q.getD 1000000) 0&&q.isSome) (some []) (cond (Nat.beq c 1&&q.isNone) (some [(2,none)]) none)) }
def bm (n:Nat) (K:XE→List AV→ja→Option Out) (m:Nat) (s1:BA):Option Out:=Jg tys (da Out (Dk n)) (cm n) n (Ba [1,1,0,0,0] (aa Tryz.f129)) 0 dq cq K m (s1,()) ()
theorem Zz (n:Nat) (K:XE→List AV→ja→Option Out):∀ (m:Nat) s1,bm n K m s1=(Ge n m s1).bind (Af K)
  | 0,_=>by kernel_rfl
  | m+1,s1=>by
    have h1:bm n K (m+1) s1=Sm n s1 (bm n K m) (fun a=>Af K (.out a)) (fun a=>Af K (.ret a)) (fun p=>Af K (.pan p)):=by kernel_rfl
    have h2:bm n K m=fun s1=>(Ge n m s1).bind (Af K):=by
      repeat (refine funext fun _=>?_)
      exact Zz n K m _
    rw [h1,h2];exact (oJ n m _ (Af K)).symm
theorem jH (n:Nat):dg tys (da Out (Dk n)) (cm n) n (Ba [1,1,0,0,0] (aa Tryz.f129)) 0:=Wa (sp:=dq) (rp:=cq) (by kernel_rfl) fun K σ ρ=>Zz n K n σ.1
theorem pJ (n:Nat):ra tys (da Out (Dk n)) (cm n) n (aa Tryz.f129) 0:=⟨trivial,⟨⟨trivial,⟨⟨trivial,trivial⟩,trivial⟩⟩,⟨⟨jH n,⟨⟨trivial,⟨trivial,trivial⟩⟩,⟨trivial,⟨⟨trivial,⟨⟨trivial,trivial⟩,trivial⟩⟩,trivial⟩⟩⟩⟩,⟨trivial,trivial⟩⟩⟩⟩
theorem fL (n:Nat):Enters Tryz.prog 129:=enters_of (c:=aa Tryz.f129) Tryz.func129 (by kernel_rfl) (by kernel_rfl)
def oF (n:Nat):Entry:=⟨129,e8 (.pair .str .unit) (.one .bool) (fun xs=>Qr n xs.1),none,none⟩
theorem gN (n:Nat):EntryOk Tryz.prog gl (oF n):=Ca (fL n) fun xs y h=>la tys_ok (qu n) mixed (hint:=cm n) (n:=n) Tryz.func129 (Va (pJ n)) (pa (φ:=(fun y=>some (Out.ret (me (.one .bool) y)))) (by kernel_rfl) (TP n xs.1 _) h)
def oy (n:Nat):List Entry:=oF n::Dk n
theorem xx (n:Nat):AllOk Tryz.prog gl (oy n):=.cons (gN n) (qu n)
def Yv (n:Nat) {R:Type} (m0:T1) (k:Bool→Option R):Option R:=(Nc n m0.1 (1:Int) (1099511627776:Int)).bind fun v=>if (!v)=false then (Nc n m0.2.1 (0:Int) (3:Int)).bind fun v1=>if (!v1)=false then (Nc n m0.2.2.2.2.2.2.1 (0:Int) (1099511627776:Int)).bind fun v2=>if (!v2)=false then (Fm n m0.2.2.2.2.1).bind fun v3=>if (!v3)=true then k false else if m0.2.2.1=true then if ((m0.2.2.2.1.1.toList==(⟨#[]⟩:BA).toList)&&((m0.2.2.2.1.2.1.toList==(⟨#[]⟩:BA).toList)&&true))=true then (Qr n m0.2.2.2.2.2.1).bind fun v4=>k v4 else k false else (GE n (m0.2.2.2.1.1,(m0.2.2.2.1.2.1,()))).bind fun v5=>if v5=true then (Qr n m0.2.2.2.2.2.1).bind fun v6=>k v6 else k false else k false else k false else k false
def fm (n:Nat) (m0:T1):Option Bool:=Yv n m0 some
theorem eQ (n:Nat) {S:Type}:∀ m0 (φ:_→Option S),(fm n m0).bind φ=Yv n m0 φ:=by
  intros;unfold fm Yv;first | (simp only [ia,ba,iB,bB,oL,oX,nB,Option.bind_some]) | rfl
def pA (n:Nat):Hint Out:={ live:=fun c=>[],run:=fun c=>none,xm:=fun c q=>none }
theorem zJ (n:Nat):ra tys (da Out (oy n)) (pA n) n (aa Tryz.f91) 0:=qa (fun _=>rfl) _ _ (by kernel_rfl)
theorem FL (n:Nat):Enters Tryz.prog 91:=enters_of (c:=aa Tryz.f91) Tryz.func91 (by kernel_rfl) (by kernel_rfl)
def FF (n:Nat):Entry:=⟨91,e8 K2 (.one .bool) (fun xs=>fm n xs.1),none,none⟩
theorem pN (n:Nat):EntryOk Tryz.prog gl (FF n):=Ca (FL n) fun xs y h=>la tys_ok (xx n) mixed (hint:=pA n) (n:=n) Tryz.func91 (Va (zJ n)) (pa (φ:=(fun y=>some (Out.ret (me (.one .bool) y)))) (by kernel_rfl) (eQ n xs.1 _) h)
def dn (n:Nat):List Entry:=FF n::oy n
theorem Ex (n:Nat):AllOk Tryz.prog gl (dn n):=.cons (pN n) (xx n)
def re (n:Nat) {R:Type} (n0:Int) (t6:(Sq T1)) (t7 t8:Int) (kn:Int→(Sq T1)→Int→Int→Option R) (ko:(Int)→Option R) (kr:Unit→Option R) (kp:Int→Option R):Option R:=if (decide (t8<t7))=true then if 0≤t8∧t8<(t6.n:Int) then if (!(((((t6.at' (Int.toNat t8))).2).2).1))=true then kn (IntKind.wrap .i64 (n0+(1:Int))) t6 t7 (IntKind.wrap .i64 (t8+(1:Int))) else kn n0 t6 t7 (IntKind.wrap .i64 (t8+(1:Int))) else none else ko n0
def zb (n:Nat):Nat→Int→(Sq T1)→Int→Int→Option (Lx (Int) Unit)
 | 0,_,_,_,_=>none
 | m+1,n0,t6,t7,t8=>re n n0 t6 t7 t8 (zb n m) (fun a=>some (.out a)) (fun a=>some (.ret a)) (fun p=>some (.pan p))
theorem jB (n m:Nat) {S:Type}:∀ n0 t6 t7 t8 (φ:_→Option S),(zb n (m+1) n0 t6 t7 t8).bind φ=re n n0 t6 t7 t8 (fun n0 t6 t7 t8=>(zb n m n0 t6 t7 t8).bind φ) (fun a=>φ (.out a)) (fun a=>φ (.ret a)) (fun p=>φ (.pan p)):=by
  intros;first | (simp only [zb,re,ia,ba,iB,bB,oL,oX,nB,Option.bind_some]) | rfl
def ci:List Sl:=.top::.top::.dat (.int .i64)::.top::.top::.top::.dat (.sl K1)::.dat (.int .i64)::.dat (.int .i64)::tp 10 []
def bi:List RS:=[]
def Ps:List Sl:=.top::.top::.dat (.int .i64)::tp 16 []
def Ns:List RS:=[]
def Ec (K:XE→List AV→ja→Option Out):Lx (Int) Unit→Option Out:=fun x=>W7 x (fun a=>tj Ps Ns (a,()) () (K (.exit 0))) (fun _=>none) (fun _=>none)
def fj (n:Nat) {R:Type} (s:U1) (k:Int→Option R):Option R:=(zb n n (0:Int) s.2.1 (s.2.1.n:Int) (0:Int)).bind fun x_1=>W7 x_1 (fun a_2=>k a_2) (fun _=>none) (fun _=>none)
def Wf (n:Nat) (s:U1):Option Int:=fj n s some
theorem tG (n:Nat) {S:Type}:∀ s (φ:_→Option S),(Wf n s).bind φ=fj n s φ:=by
  intros;unfold Wf fj;first | (simp only [ia,ba,iB,bB,oL,oX,nB,Option.bind_some]) | rfl
def Gg (n:Nat):Hint Out:={ live:=fun c=>(cond (Nat.beq c 0) [(2,none),(6,some (.sl K1)),(7,none),(8,none)] []),run:=fun c=>(cond (Nat.beq c 0) (some (Ds ci bi fun σ ρ K=>(zb n n σ.1 σ.2.1 σ.2.2.1 σ.2.2.2.1).bind (Ec K))) none),xm:=fun c q=>(cond (Nat.beq c 0&&Nat.beq (q.getD 1000000) 0&&q.isSome) (some [(2,none)]) none) }
def Fg (n:Nat) (K:XE→List AV→ja→Option Out) (m:Nat) (n0:Int) (t6:(Sq T1)) (t7:Int) (t8:Int):Option Out:=Jg tys (da Out (dn n)) (Gg n) n (Ba [1,0,1,0,0] (aa Tryz.f102)) 0 ci bi K m (n0,(t6,(t7,(t8,())))) ()
theorem Kp (n:Nat) (K:XE→List AV→ja→Option Out):∀ (m:Nat) n0 t6 t7 t8,Fg n K m n0 t6 t7 t8=(zb n m n0 t6 t7 t8).bind (Ec K)
  | 0,_,_,_,_=>by kernel_rfl
  | m+1,n0,t6,t7,t8=>by
    have h1:Fg n K (m+1) n0 t6 t7 t8=re n n0 t6 t7 t8 (Fg n K m) (fun a=>Ec K (.out a)) (fun a=>Ec K (.ret a)) (fun p=>Ec K (.pan p)):=by kernel_rfl
    have h2:Fg n K m=fun n0 t6 t7 t8=>(zb n m n0 t6 t7 t8).bind (Ec K):=by
      repeat (refine funext fun _=>?_)
      exact Kp n K m _ _ _ _
    rw [h1,h2];exact (jB n m _ _ _ _ (Ec K)).symm
theorem iz (n:Nat):dg tys (da Out (dn n)) (Gg n) n (Ba [1,0,1,0,0] (aa Tryz.f102)) 0:=Wa (sp:=ci) (rp:=bi) (by kernel_rfl) fun K σ ρ=>Kp n K n σ.1 σ.2.1 σ.2.2.1 σ.2.2.2.1
theorem kB (n:Nat):ra tys (da Out (dn n)) (Gg n) n (aa Tryz.f102) 0:=⟨trivial,⟨⟨trivial,⟨iz n,⟨trivial,⟨⟨trivial,trivial⟩,⟨⟨trivial,⟨trivial,⟨trivial,trivial⟩⟩⟩,trivial⟩⟩⟩⟩⟩,⟨trivial,trivial⟩⟩⟩
theorem DC (n:Nat):Enters Tryz.prog 102:=enters_of (c:=aa Tryz.f102) Tryz.func102 (by kernel_rfl) (by kernel_rfl)
def Gt (n:Nat):Entry:=⟨102,e8 K4 (.one (.int .i64)) (fun xs=>Wf n xs.1),none,none⟩
theorem eE (n:Nat):EntryOk Tryz.prog gl (Gt n):=Ca (DC n) fun xs y h=>la tys_ok (Ex n) mixed (hint:=Gg n) (n:=n) Tryz.func102 (Va (kB n)) (pa (φ:=(fun y=>some (Out.ret (me (.one (.int .i64)) y)))) (by kernel_rfl) (tG n xs.1 _) h)
def og (n:Nat):List Entry:=Gt n::dn n
theorem po (n:Nat):AllOk Tryz.prog gl (og n):=.cons (eE n) (Ex n)
def ri (n:Nat) {R:Type} (last:Int) (t7:(Sq T1)) (t8 t9 s1:Int) (s2:(Sq T1)) (kn:Int→(Sq T1)→Int→Int→Int→(Sq T1)→Option R) (ko:(Int×(Sq T1))→Option R) (kr:(Bool)→Option R) (kp:Int→Option R):Option R:=if (decide (t9<t8))=true then if 0≤t9∧t9<(t7.n:Int) then (fm n (((t7.at' (Int.toNat t9))).1,((((t7.at' (Int.toNat t9))).2).1,(((((t7.at' (Int.toNat t9))).2).2).1,((((((((t7.at' (Int.toNat t9))).2).2).2).1).1,((((((((t7.at' (Int.toNat t9))).2).2).2).1).2).1,())),((((((((t7.at' (Int.toNat t9))).2).2).2).2).1),((((((((t7.at' (Int.toNat t9))).2).2).2).2).2).1,(((((((((t7.at' (Int.toNat t9))).2).2).2).2).2).2).1,((((((((((t7.at' (Int.toNat t9))).2).2).2).2).2).2).2).1,(((((((((((t7.at' (Int.toNat t9))).2).2).2).2).2).2).2).2).1,())))))))))).bind fun v=>if (!v)=false then if (decide ((((t7.at' (Int.toNat t9))).1)≤last))=false then if (decide ((((t7.at' (Int.toNat t9))).1)≥s1))=true then kr false else kn (((t7.at' (Int.toNat t9))).1) t7 t8 (IntKind.wrap .i64 (t9+(1:Int))) s1 s2 else kr false else kr false else none else ko (s1,s2)
def cd (n:Nat):Nat→Int→(Sq T1)→Int→Int→Int→(Sq T1)→Option (Lx (Int×(Sq T1)) (Bool))
 | 0,_,_,_,_,_,_=>none
 | m+1,last,t7,t8,t9,s1,s2=>ri n last t7 t8 t9 s1 s2 (cd n m) (fun a=>some (.out a)) (fun a=>some (.ret a)) (fun p=>some (.pan p))
theorem MH (n m:Nat) {S:Type}:∀ last t7 t8 t9 s1 s2 (φ:_→Option S),(cd n (m+1) last t7 t8 t9 s1 s2).bind φ=ri n last t7 t8 t9 s1 s2 (fun last t7 t8 t9 s1 s2=>(cd n m last t7 t8 t9 s1 s2).bind φ) (fun a=>φ (.out a)) (fun a=>φ (.ret a)) (fun p=>φ (.pan p)):=by
  intros;first | (simp only [cd,ri,ia,ba,iB,bB,oL,oX,nB,Option.bind_some]) | rfl
def go:List Sl:=.top::.ptr 0 0 0::.top::.dat (.int .i64)::.top::.top::.top::.dat (.sl K1)::.dat (.int .i64)::.dat (.int .i64)::tp 41 []
def eo:List RS:=[.box 24 2 true [.dat (.int .i64),.dat (.sl K1)]]
def cz:List Sl:=.top::.ptr 0 0 0::tp 49 []
def bz:List RS:=[.box 24 2 true [.dat (.int .i64),.dat (.sl K1)]]
def ez:List Sl:=.top::.top::.dat .bool::tp 48 []
def dz:List RS:=[]
def Ne (K:XE→List AV→ja→Option Out):Lx (Int×(Sq T1)) (Bool)→Option Out:=fun x=>W7 x (fun a=>tj cz bz () ((a.1,(a.2,())),()) (K (.exit 0))) (fun a=>tj ez dz (a,()) () (K .ret)) (fun _=>none)
def Ks (n:Nat) {R:Type} (s:U1) (k:Bool→Option R):Option R:=(cd n n (0:Int) s.2.1 (s.2.1.n:Int) (0:Int) s.1 s.2.1).bind fun x_1=>W7 x_1 (fun a_2=>if (decide (a_2.1≥(1:Int)))=true then if (decide (a_2.1≤(1099511627776:Int)))=true then if (decide ((a_2.2.n:Int)≤(128:Int)))=true then (Wf n (a_2.1,(a_2.2,()))).bind fun v1=>k (decide (v1≤(64:Int))) else k false else k false else k false) (fun a_3=>k a_3) (fun _=>none)
def aj (n:Nat) (s:U1):Option Bool:=Ks n s some
theorem PN (n:Nat) {S:Type}:∀ s (φ:_→Option S),(aj n s).bind φ=Ks n s φ:=by
  intros;unfold aj Ks;first | (simp only [ia,ba,iB,bB,oL,oX,nB,Option.bind_some]) | rfl
def uk (n:Nat):Hint Out:={ live:=fun c=>(cond (Nat.beq c 0) [(1,none),(3,none),(7,some (.sl K1)),(8,none),(9,none)] []),run:=fun c=>(cond (Nat.beq c 0) (some (Ds go eo fun σ ρ K=>(cd n n σ.1 σ.2.1 σ.2.2.1 σ.2.2.2.1 ρ.1.1 ρ.1.2.1).bind (Ne K))) none),xm:=fun c q=>(cond (Nat.beq c 0&&Nat.beq (q.getD 1000000) 0&&q.isSome) (some [(1,none)]) (cond (Nat.beq c 1&&q.isNone) (some [(2,none)]) none)) }
def tk (n:Nat) (K:XE→List AV→ja→Option Out) (m:Nat) (last:Int) (t7:(Sq T1)) (t8:Int) (t9:Int) (s1:Int) (s2:(Sq T1)):Option Out:=Jg tys (da Out (og n)) (uk n) n (Ba [1,1,0,1,0,0] (aa Tryz.f61)) 0 go eo K m (last,(t7,(t8,(t9,())))) ((s1,(s2,())),())
theorem Tx (n:Nat) (K:XE→List AV→ja→Option Out):∀ (m:Nat) last t7 t8 t9 s1 s2,tk n K m last t7 t8 t9 s1 s2=(cd n m last t7 t8 t9 s1 s2).bind (Ne K)
  | 0,_,_,_,_,_,_=>by kernel_rfl
  | m+1,last,t7,t8,t9,s1,s2=>by
    have h1:tk n K (m+1) last t7 t8 t9 s1 s2=ri n last t7 t8 t9 s1 s2 (tk n K m) (fun a=>Ne K (.out a)) (fun a=>Ne K (.ret a)) (fun p=>Ne K (.pan p)):=by kernel_rfl
    have h2:tk n K m=fun last t7 t8 t9 s1 s2=>(cd n m last t7 t8 t9 s1 s2).bind (Ne K):=by
      repeat (refine funext fun _=>?_)
      exact Tx n K m _ _ _ _ _ _
    rw [h1,h2];exact (MH n m _ _ _ _ _ _ (Ne K)).symm
theorem mG (n:Nat):dg tys (da Out (og n)) (uk n) n (Ba [1,1,0,1,0,0] (aa Tryz.f61)) 0:=Wa (sp:=go) (rp:=eo) (by kernel_rfl) fun K σ ρ=>Tx n K n σ.1 σ.2.1 σ.2.2.1 σ.2.2.2.1 ρ.1.1 ρ.1.2.1
theorem NH (n:Nat):ra tys (da Out (og n)) (uk n) n (aa Tryz.f61) 0:=⟨trivial,⟨trivial,⟨⟨trivial,⟨mG n,⟨trivial,⟨⟨trivial,trivial⟩,⟨⟨trivial,⟨⟨trivial,⟨⟨trivial,trivial⟩,trivial⟩⟩,trivial⟩⟩,trivial⟩⟩⟩⟩⟩,⟨trivial,trivial⟩⟩⟩⟩
theorem dK (n:Nat):Enters Tryz.prog 61:=enters_of (c:=aa Tryz.f61) Tryz.func61 (by kernel_rfl) (by kernel_rfl)
def nD (n:Nat):Entry:=⟨61,e8 K4 (.one .bool) (fun xs=>aj n xs.1),none,none⟩
theorem dM (n:Nat):EntryOk Tryz.prog gl (nD n):=Ca (dK n) fun xs y h=>la tys_ok (po n) mixed (hint:=uk n) (n:=n) Tryz.func61 (Va (NH n)) (pa (φ:=(fun y=>some (Out.ret (me (.one .bool) y)))) (by kernel_rfl) (PN n xs.1 _) h)
def pv (n:Nat):List Entry:=nD n::og n
theorem qv (n:Nat):AllOk Tryz.prog gl (pv n):=.cons (dM n) (po n)
def Gi (n:Nat) {R:Type} (n0 least most:Int) (k:Bool→Option R):Option R:=if (decide (n0≥least))=true then k (decide (n0≤most)) else k false
def Hb (n:Nat) (n0 least most:Int):Option Bool:=Gi n n0 least most some
theorem lF (n:Nat) {S:Type}:∀ n0 least most (φ:_→Option S),(Hb n n0 least most).bind φ=Gi n n0 least most φ:=by
  intros;unfold Hb Gi;first | (simp only [ia,ba,iB,bB,oL,oX,nB,Option.bind_some]) | rfl
def Yo (n:Nat):Hint Out:={ live:=fun c=>[],run:=fun c=>none,xm:=fun c q=>none }
theorem Xz (n:Nat):ra tys (da Out (pv n)) (Yo n) n (aa Tryz.f118) 0:=qa (fun _=>rfl) _ _ (by kernel_rfl)
theorem OB (n:Nat):Enters Tryz.prog 118:=enters_of (c:=aa Tryz.f118) Tryz.func118 (by kernel_rfl) (by kernel_rfl)
def ot (n:Nat):Entry:=⟨118,e8 (.pair (.int .i64) (.pair (.int .i64) (.pair (.int .i64) .unit))) (.one .bool) (fun xs=>Hb n xs.1 xs.2.1 xs.2.2.1),none,none⟩
theorem BD (n:Nat):EntryOk Tryz.prog gl (ot n):=Ca (OB n) fun xs y h=>la tys_ok (qv n) mixed (hint:=Yo n) (n:=n) Tryz.func118 (Va (Xz n)) (pa (φ:=(fun y=>some (Out.ret (me (.one .bool) y)))) (by kernel_rfl) (lF n xs.1 xs.2.1 xs.2.2.1 _) h)
def gg (n:Nat):List Entry:=ot n::pv n
theorem Rm (n:Nat):AllOk Tryz.prog gl (gg n):=.cons (BD n) (qv n)
def qg (n:Nat) {R:Type} (s1:BA) (t5 t6:Int) (kn:BA→Int→Int→Option R) (ko:(BA)→Option R) (kr:(Bool)→Option R) (kp:Int→Option R):Option R:=if (decide (t6<t5))=true then if 0≤t6∧t6<(s1.size:Int) then if (decide ((bt s1 t6)<(97:Int)))=false then if 0≤t6∧t6<(s1.size:Int) then if (decide ((bt s1 t6)>(122:Int)))=true then kr false else kn s1 t5 (IntKind.wrap .i64 (t6+(1:Int))) else none else kr false else none else ko s1
def Tb (n:Nat):Nat→BA→Int→Int→Option (Lx (BA) (Bool))
 | 0,_,_,_=>none
 | m+1,s1,t5,t6=>qg n s1 t5 t6 (Tb n m) (fun a=>some (.out a)) (fun a=>some (.ret a)) (fun p=>some (.pan p))
theorem yD (n m:Nat) {S:Type}:∀ s1 t5 t6 (φ:_→Option S),(Tb n (m+1) s1 t5 t6).bind φ=qg n s1 t5 t6 (fun s1 t5 t6=>(Tb n m s1 t5 t6).bind φ) (fun a=>φ (.out a)) (fun a=>φ (.ret a)) (fun p=>φ (.pan p)):=by
  intros;first | (simp only [Tb,qg,ia,ba,iB,bB,oL,oX,nB,Option.bind_some]) | rfl
def Ij:List Sl:=.dat .str::tp 4 (.dat (.int .i64)::.dat (.int .i64)::tp 16 [])
def Hj:List RS:=[]
def lu:List Sl:=.dat .str::tp 22 []
def ku:List RS:=[]
def nu:List Sl:=.top::.top::.dat .bool::tp 20 []
def mu:List RS:=[]
def rd (K:XE→List AV→ja→Option Out):Lx (BA) (Bool)→Option Out:=fun x=>W7 x (fun a=>tj lu ku (a,()) () (K (.exit 0))) (fun a=>tj nu mu (a,()) () (K .ret)) (fun _=>none)
def am (n:Nat) {R:Type} (s:BA) (k:Bool→Option R):Option R:=(Tb n n s (s.size:Int) (0:Int)).bind fun x_1=>W7 x_1 (fun a_2=>(Hb n (a_2.size:Int) (1:Int) (32:Int)).bind fun v=>k v) (fun a_3=>k a_3) (fun _=>none)
def Gj (n:Nat) (s:BA):Option Bool:=am n s some
theorem lJ (n:Nat) {S:Type}:∀ s (φ:_→Option S),(Gj n s).bind φ=am n s φ:=by
  intros;unfold Gj am;first | (simp only [ia,ba,iB,bB,oL,oX,nB,Option.bind_some]) | rfl
def Qh (n:Nat):Hint Out:={ live:=fun c=>(cond (Nat.beq c 0) (lv [0,5,6]) []),run:=fun c=>(cond (Nat.beq c 0) (some (Ds Ij Hj fun σ ρ K=>(Tb n n σ.1 σ.2.1 σ.2.2.1).bind (rd K))) none),xm:=fun c q=>(cond (Nat.beq c 0&&Nat.beq (q.getD 1000000) 0&&q.isSome) (some [(0,none)]) (cond (Nat.beq c 1&&q.isNone) (some [(2,none)]) none)) }
def Ph (n:Nat) (K:XE→List AV→ja→Option Out) (m:Nat) (s1:BA) (t5:Int) (t6:Int):Option Out:=Jg tys (da Out (gg n)) (Qh n) n (Ba [1,0,1,0,0] (aa Tryz.f165)) 0 Ij Hj K m (s1,(t5,(t6,()))) ()
theorem mt (n:Nat) (K:XE→List AV→ja→Option Out):∀ (m:Nat) s1 t5 t6,Ph n K m s1 t5 t6=(Tb n m s1 t5 t6).bind (rd K)
  | 0,_,_,_=>by kernel_rfl
  | m+1,s1,t5,t6=>by
    have h1:Ph n K (m+1) s1 t5 t6=qg n s1 t5 t6 (Ph n K m) (fun a=>rd K (.out a)) (fun a=>rd K (.ret a)) (fun p=>rd K (.pan p)):=by kernel_rfl
    have h2:Ph n K m=fun s1 t5 t6=>(Tb n m s1 t5 t6).bind (rd K):=by
      repeat (refine funext fun _=>?_)
      exact mt n K m _ _ _
    rw [h1,h2];exact (yD n m _ _ _ (rd K)).symm
theorem MB (n:Nat):dg tys (da Out (gg n)) (Qh n) n (Ba [1,0,1,0,0] (aa Tryz.f165)) 0:=Wa (sp:=Ij) (rp:=Hj) (by kernel_rfl) fun K σ ρ=>mt n K n σ.1 σ.2.1 σ.2.2.1
theorem zD (n:Nat):ra tys (da Out (gg n)) (Qh n) n (aa Tryz.f165) 0:=⟨trivial,⟨⟨trivial,⟨MB n,⟨trivial,⟨⟨trivial,trivial⟩,⟨⟨trivial,⟨trivial,⟨⟨trivial,trivial⟩,trivial⟩⟩⟩,trivial⟩⟩⟩⟩⟩,⟨trivial,trivial⟩⟩⟩
theorem jF (n:Nat):Enters Tryz.prog 165:=enters_of (c:=aa Tryz.f165) Tryz.func165 (by kernel_rfl) (by kernel_rfl)
def tx (n:Nat):Entry:=⟨165,e8 (.pair .str .unit) (.one .bool) (fun xs=>Gj n xs.1),none,none⟩
theorem eH (n:Nat):EntryOk Tryz.prog gl (tx n):=Ca (jF n) fun xs y h=>la tys_ok (Rm n) mixed (hint:=Qh n) (n:=n) Tryz.func165 (Va (zD n)) (pa (φ:=(fun y=>some (Out.ret (me (.one .bool) y)))) (by kernel_rfl) (lJ n xs.1 _) h)
def bq (n:Nat):List Entry:=tx n::gg n
theorem Oq (n:Nat):AllOk Tryz.prog gl (bq n):=.cons (eH n) (Rm n)
def Ei (n:Nat) {R:Type} (bytes count:Int) (k:Bool→Option R):Option R:=(Hb n bytes (0:Int) (1073741824:Int)).bind fun v=>if v=true then (Hb n count (0:Int) (64:Int)).bind fun v1=>k v1 else k false
def Di (n:Nat) (bytes count:Int):Option Bool:=Ei n bytes count some
theorem iF (n:Nat) {S:Type}:∀ bytes count (φ:_→Option S),(Di n bytes count).bind φ=Ei n bytes count φ:=by
  intros;unfold Di Ei;first | (simp only [ia,ba,iB,bB,oL,oX,nB,Option.bind_some]) | rfl
def Wo (n:Nat):Hint Out:={ live:=fun c=>[],run:=fun c=>none,xm:=fun c q=>none }
theorem Vz (n:Nat):ra tys (da Out (bq n)) (Wo n) n (aa Tryz.f166) 0:=qa (fun _=>rfl) _ _ (by kernel_rfl)
theorem KB (n:Nat):Enters Tryz.prog 166:=enters_of (c:=aa Tryz.f166) Tryz.func166 (by kernel_rfl) (by kernel_rfl)
def jt (n:Nat):Entry:=⟨166,e8 (.pair (.int .i64) (.pair (.int .i64) .unit)) (.one .bool) (fun xs=>Di n xs.1 xs.2.1),none,none⟩
theorem xD (n:Nat):EntryOk Tryz.prog gl (jt n):=Ca (KB n) fun xs y h=>la tys_ok (Oq n) mixed (hint:=Wo n) (n:=n) Tryz.func166 (Va (Vz n)) (pa (φ:=(fun y=>some (Out.ret (me (.one .bool) y)))) (by kernel_rfl) (iF n xs.1 xs.2.1 _) h)
def ml (n:Nat):List Entry:=jt n::bq n
theorem Pm (n:Nat):AllOk Tryz.prog gl (ml n):=.cons (xD n) (Oq n)
def yi (n:Nat) {R:Type} (n0 least most:Int) (k:Bool→Option R):Option R:=if (decide (n0≥least))=true then k (decide (n0≤most)) else k false
def Tc (n:Nat) (n0 least most:Int):Option Bool:=yi n n0 least most some
theorem dF (n:Nat) {S:Type}:∀ n0 least most (φ:_→Option S),(Tc n n0 least most).bind φ=yi n n0 least most φ:=by
  intros;unfold Tc yi;first | (simp only [ia,ba,iB,bB,oL,oX,nB,Option.bind_some]) | rfl
def So (n:Nat):Hint Out:={ live:=fun c=>[],run:=fun c=>none,xm:=fun c q=>none }
theorem Sz (n:Nat):ra tys (da Out (ml n)) (So n) n (aa Tryz.f209) 0:=qa (fun _=>rfl) _ _ (by kernel_rfl)
theorem IB (n:Nat):Enters Tryz.prog 209:=enters_of (c:=aa Tryz.f209) Tryz.func209 (by kernel_rfl) (by kernel_rfl)
def Ys (n:Nat):Entry:=⟨209,e8 (.pair (.int .i64) (.pair (.int .i64) (.pair (.int .i64) .unit))) (.one .bool) (fun xs=>Tc n xs.1 xs.2.1 xs.2.2.1),none,none⟩
theorem uD (n:Nat):EntryOk Tryz.prog gl (Ys n):=Ca (IB n) fun xs y h=>la tys_ok (Pm n) mixed (hint:=So n) (n:=n) Tryz.func209 (Va (Sz n)) (pa (φ:=(fun y=>some (Out.ret (me (.one .bool) y)))) (by kernel_rfl) (dF n xs.1 xs.2.1 xs.2.2.1 _) h)
def el (n:Nat):List Entry:=Ys n::ml n
theorem Nm (n:Nat):AllOk Tryz.prog gl (el n):=.cons (uD n) (Pm n)
def Ro (n:Nat) {R:Type} (b:(Int×U3)) (k:Bool→Option R):Option R:=(Tc n b.2.1 (0:Int) (1048576:Int)).bind fun v=>if v=true then (Tc n b.2.2.1 (0:Int) (1048576:Int)).bind fun v1=>if v1=true then (Tc n b.1 (0:Int) b.2.1).bind fun v2=>if v2=true then (Tc n b.2.2.2.1 (1:Int) (1048576:Int)).bind fun v3=>if v3=true then (Tc n b.2.2.2.2.1 (0:Int) (IntKind.wrap .i64 (b.2.2.2.1 - (1:Int)))).bind fun v4=>k v4 else k false else k false else k false else k false
def Em (n:Nat) (b:(Int×U3)):Option Bool:=Ro n b some
theorem YK (n:Nat) {S:Type}:∀ b (φ:_→Option S),(Em n b).bind φ=Ro n b φ:=by
  intros;unfold Em Ro;first | (simp only [ia,ba,iB,bB,oL,oX,nB,Option.bind_some]) | rfl
def gu (n:Nat):Hint Out:={ live:=fun c=>[],run:=fun c=>none,xm:=fun c q=>none }
theorem cF (n:Nat):ra tys (da Out (el n)) (gu n) n (aa Tryz.f167) 0:=qa (fun _=>rfl) _ _ (by kernel_rfl)
theorem cH (n:Nat):Enters Tryz.prog 167:=enters_of (c:=aa Tryz.f167) Tryz.func167 (by kernel_rfl) (by kernel_rfl)
def Rz (n:Nat):Entry:=⟨167,e8 m6 (.one .bool) (fun xs=>Em n xs.1),none,none⟩
theorem jJ (n:Nat):EntryOk Tryz.prog gl (Rz n):=Ca (cH n) fun xs y h=>la tys_ok (Nm n) mixed (hint:=gu n) (n:=n) Tryz.func167 (Va (cF n)) (pa (φ:=(fun y=>some (Out.ret (me (.one .bool) y)))) (by kernel_rfl) (YK n xs.1 _) h)
def Mr (n:Nat):List Entry:=Rz n::el n
theorem Xs (n:Nat):AllOk Tryz.prog gl (Mr n):=.cons (jJ n) (Nm n)
def Fi (n:Nat) {R:Type} (t:T2) (k:Bool→Option R):Option R:=(Gj n t.1).bind fun v=>if v=true then (Di n t.2.1 t.2.2.1).bind fun v1=>if v1=true then (Hb n t.2.2.2.1 (1:Int) (16384:Int)).bind fun v2=>if v2=true then (Em n (t.2.2.2.2.1.1,(t.2.2.2.2.1.2.1,(t.2.2.2.2.1.2.2.1,(t.2.2.2.2.1.2.2.2.1,(t.2.2.2.2.1.2.2.2.2.1,())))))).bind fun v3=>if v3=true then if (t.2.2.2.2.1.1==t.2.2.2.2.1.2.1)=true then k (t.2.2.2.2.1.2.2.2.2.1==(0:Int)) else k false else k false else k false else k false else k false
def qh (n:Nat) (t:T2):Option Bool:=Fi n t some
theorem kF (n:Nat) {S:Type}:∀ t (φ:_→Option S),(qh n t).bind φ=Fi n t φ:=by
  intros;unfold qh Fi;first | (simp only [ia,ba,iB,bB,oL,oX,nB,Option.bind_some]) | rfl
def Xo (n:Nat):Hint Out:={ live:=fun c=>[],run:=fun c=>none,xm:=fun c q=>none }
theorem Wz (n:Nat):ra tys (da Out (Mr n)) (Xo n) n (aa Tryz.f117) 0:=qa (fun _=>rfl) _ _ (by kernel_rfl)
theorem NB (n:Nat):Enters Tryz.prog 117:=enters_of (c:=aa Tryz.f117) Tryz.func117 (by kernel_rfl) (by kernel_rfl)
def nt (n:Nat):Entry:=⟨117,e8 r6 (.one .bool) (fun xs=>qh n xs.1),none,none⟩
theorem AD (n:Nat):EntryOk Tryz.prog gl (nt n):=Ca (NB n) fun xs y h=>la tys_ok (Xs n) mixed (hint:=Xo n) (n:=n) Tryz.func117 (Va (Wz n)) (pa (φ:=(fun y=>some (Out.ret (me (.one .bool) y)))) (by kernel_rfl) (kF n xs.1 _) h)
def nl (n:Nat):List Entry:=nt n::Mr n
theorem Qm (n:Nat):AllOk Tryz.prog gl (nl n):=.cons (AD n) (Xs n)
def zi (n:Nat) {R:Type} (s:BA) (k:Bool→Option R):Option R:=if (decide ((s.size:Int)≤(200:Int)))=true then (Lg n s).bind fun v=>if v=true then (ue n s).bind fun v1=>k (!v1) else k false else k false
def oh (n:Nat) (s:BA):Option Bool:=zi n s some
theorem eF (n:Nat) {S:Type}:∀ s (φ:_→Option S),(oh n s).bind φ=zi n s φ:=by
  intros;unfold oh zi;first | (simp only [ia,ba,iB,bB,oL,oX,nB,Option.bind_some]) | rfl
def Uo (n:Nat):Hint Out:={ live:=fun c=>[],run:=fun c=>none,xm:=fun c q=>none }
theorem Tz (n:Nat):ra tys (da Out (nl n)) (Uo n) n (aa Tryz.f119) 0:=qa (fun _=>rfl) _ _ (by kernel_rfl)
theorem JB (n:Nat):Enters Tryz.prog 119:=enters_of (c:=aa Tryz.f119) Tryz.func119 (by kernel_rfl) (by kernel_rfl)
def dt (n:Nat):Entry:=⟨119,e8 (.pair .str .unit) (.one .bool) (fun xs=>oh n xs.1),none,none⟩
theorem vD (n:Nat):EntryOk Tryz.prog gl (dt n):=Ca (JB n) fun xs y h=>la tys_ok (Qm n) mixed (hint:=Uo n) (n:=n) Tryz.func119 (Va (Tz n)) (pa (φ:=(fun y=>some (Out.ret (me (.one .bool) y)))) (by kernel_rfl) (eF n xs.1 _) h)
def fg (n:Nat):List Entry:=dt n::nl n
theorem Om (n:Nat):AllOk Tryz.prog gl (fg n):=.cons (vD n) (Qm n)
def ec (n:Nat) {R:Type} (x1:(Sq Int)) (m0 i:Int) (kn:(Sq Int)→Int→Int→Option R) (ko:(Int)→Option R) (kr:Unit→Option R) (kp:Int→Option R):Option R:=if (decide (i<(x1.n:Int)))=true then if 0≤i∧i<(x1.n:Int) then kn x1 (if (x1.at' (Int.toNat i))<m0 then (x1.at' (Int.toNat i)) else m0) (IntKind.wrap .i64 (i+(1:Int))) else none else ko m0
def Ha (n:Nat):Nat→(Sq Int)→Int→Int→Option (Lx (Int) Unit)
 | 0,_,_,_=>none
 | m+1,x1,m0,i=>ec n x1 m0 i (Ha n m) (fun a=>some (.out a)) (fun a=>some (.ret a)) (fun p=>some (.pan p))
theorem Hs (n m:Nat) {S:Type}:∀ x1 m0 i (φ:_→Option S),(Ha n (m+1) x1 m0 i).bind φ=ec n x1 m0 i (fun x1 m0 i=>(Ha n m x1 m0 i).bind φ) (fun a=>φ (.out a)) (fun a=>φ (.ret a)) (fun p=>φ (.pan p)):=by
  intros;first | (simp only [Ha,ec,ia,ba,iB,bB,oL,oX,nB,Option.bind_some]) | rfl
def ff:List Sl:=.dat (.sl (.int .i64))::.top::.top::.dat (.int .i64)::.dat (.int .i64)::tp 20 []
def ef:List RS:=[]
def vm:List Sl:=.top::.top::.top::.dat (.int .i64)::tp 21 []
def um:List RS:=[]
def wb (K:XE→List AV→ja→Option Out):Lx (Int) Unit→Option Out:=fun x=>W7 x (fun a=>tj vm um (a,()) () (K (.exit 0))) (fun _=>none) (fun _=>none)
def Se (n:Nat) {R:Type} (x:(Sq Int)) (k:Int→Option R):Option R:=if (decide ((x.n:Int)<(1:Int)))=true then none else if 0≤(0:Int)∧(0:Int)<(x.n:Int) then (Ha n n x (x.at' (Int.toNat (0:Int))) (1:Int)).bind fun x_1=>W7 x_1 (fun a_2=>k a_2) (fun _=>none) (fun _=>none) else none
def od (n:Nat) (x:(Sq Int)):Option Int:=Se n x some
theorem Yw (n:Nat) {S:Type}:∀ x (φ:_→Option S),(od n x).bind φ=Se n x φ:=by
  intros;unfold od Se;first | (simp only [ia,ba,iB,bB,oL,oX,nB,Option.bind_some]) | rfl
def Gd (n:Nat):Hint Out:={ live:=fun c=>(cond (Nat.beq c 0) [(0,some (.sl (.int .i64))),(3,none),(4,none)] []),run:=fun c=>(cond (Nat.beq c 0) (some (Ds ff ef fun σ ρ K=>(Ha n n σ.1 σ.2.1 σ.2.2.1).bind (wb K))) none),xm:=fun c q=>(cond (Nat.beq c 0&&Nat.beq (q.getD 1000000) 0&&q.isSome) (some [(3,none)]) none) }
def Fd (n:Nat) (K:XE→List AV→ja→Option Out) (m:Nat) (x1:(Sq Int)) (m0:Int) (i:Int):Option Out:=Jg tys (da Out (fg n)) (Gd n) n (Ba [1,1,1,0,1,0,0] (aa Tryz.f168)) 0 ff ef K m (x1,(m0,(i,()))) ()
theorem Zi (n:Nat) (K:XE→List AV→ja→Option Out):∀ (m:Nat) x1 m0 i,Fd n K m x1 m0 i=(Ha n m x1 m0 i).bind (wb K)
  | 0,_,_,_=>by kernel_rfl
  | m+1,x1,m0,i=>by
    have h1:Fd n K (m+1) x1 m0 i=ec n x1 m0 i (Fd n K m) (fun a=>wb K (.out a)) (fun a=>wb K (.ret a)) (fun p=>wb K (.pan p)):=by kernel_rfl
    have h2:Fd n K m=fun x1 m0 i=>(Ha n m x1 m0 i).bind (wb K):=by
      repeat (refine funext fun _=>?_)
      exact Zi n K m _ _ _
    rw [h1,h2];exact (Hs n m _ _ _ (wb K)).symm
theorem zr (n:Nat):dg tys (da Out (fg n)) (Gd n) n (Ba [1,1,1,0,1,0,0] (aa Tryz.f168)) 0:=Wa (sp:=ff) (rp:=ef) (by kernel_rfl) fun K σ ρ=>Zi n K n σ.1 σ.2.1 σ.2.2.1
theorem Is (n:Nat):ra tys (da Out (fg n)) (Gd n) n (aa Tryz.f168) 0:=⟨trivial,⟨⟨trivial,⟨trivial,trivial⟩⟩,⟨trivial,⟨⟨trivial,⟨zr n,⟨⟨trivial,⟨trivial,trivial⟩⟩,⟨trivial,trivial⟩⟩⟩⟩,⟨trivial,trivial⟩⟩⟩⟩⟩
theorem Vt (n:Nat):Enters Tryz.prog 168:=enters_of (c:=aa Tryz.f168) Tryz.func168 (by kernel_rfl) (by kernel_rfl)
def Wk (n:Nat):Entry:=⟨168,e8 (.pair (.sl (.int .i64)) .unit) (.one (.int .i64)) (fun xs=>od n xs.1),none,none⟩
theorem iv (n:Nat):EntryOk Tryz.prog gl (Wk n):=Ca (Vt n) fun xs y h=>la tys_ok (Om n) mixed (hint:=Gd n) (n:=n) Tryz.func168 (Va (Is n)) (pa (φ:=(fun y=>some (Out.ret (me (.one (.int .i64)) y)))) (by kernel_rfl) (Yw n xs.1 _) h)
def Zc (n:Nat):List Entry:=Wk n::fg n
theorem qi (n:Nat):AllOk Tryz.prog gl (Zc n):=.cons (iv n) (Om n)
def dc (n:Nat) {R:Type} (x1:(Sq Int)) (m0 i:Int) (kn:(Sq Int)→Int→Int→Option R) (ko:(Int)→Option R) (kr:Unit→Option R) (kp:Int→Option R):Option R:=if (decide (i<(x1.n:Int)))=true then if 0≤i∧i<(x1.n:Int) then kn x1 (if (x1.at' (Int.toNat i))>m0 then (x1.at' (Int.toNat i)) else m0) (IntKind.wrap .i64 (i+(1:Int))) else none else ko m0
def Ga (n:Nat):Nat→(Sq Int)→Int→Int→Option (Lx (Int) Unit)
 | 0,_,_,_=>none
 | m+1,x1,m0,i=>dc n x1 m0 i (Ga n m) (fun a=>some (.out a)) (fun a=>some (.ret a)) (fun p=>some (.pan p))
theorem Fs (n m:Nat) {S:Type}:∀ x1 m0 i (φ:_→Option S),(Ga n (m+1) x1 m0 i).bind φ=dc n x1 m0 i (fun x1 m0 i=>(Ga n m x1 m0 i).bind φ) (fun a=>φ (.out a)) (fun a=>φ (.ret a)) (fun p=>φ (.pan p)):=by
  intros;first | (simp only [Ga,dc,ia,ba,iB,bB,oL,oX,nB,Option.bind_some]) | rfl
def df:List Sl:=.dat (.sl (.int .i64))::.top::.top::.dat (.int .i64)::.dat (.int .i64)::tp 20 []
def cf:List RS:=[]
def tm:List Sl:=.top::.top::.top::.dat (.int .i64)::tp 21 []
def sm:List RS:=[]
def ub (K:XE→List AV→ja→Option Out):Lx (Int) Unit→Option Out:=fun x=>W7 x (fun a=>tj tm sm (a,()) () (K (.exit 0))) (fun _=>none) (fun _=>none)
def Re (n:Nat) {R:Type} (x:(Sq Int)) (k:Int→Option R):Option R:=if (decide ((x.n:Int)<(1:Int)))=true then none else if 0≤(0:Int)∧(0:Int)<(x.n:Int) then (Ga n n x (x.at' (Int.toNat (0:Int))) (1:Int)).bind fun x_1=>W7 x_1 (fun a_2=>k a_2) (fun _=>none) (fun _=>none) else none
def Cc (n:Nat) (x:(Sq Int)):Option Int:=Re n x some
theorem Xw (n:Nat) {S:Type}:∀ x (φ:_→Option S),(Cc n x).bind φ=Re n x φ:=by
  intros;unfold Cc Re;first | (simp only [ia,ba,iB,bB,oL,oX,nB,Option.bind_some]) | rfl
def Ed (n:Nat):Hint Out:={ live:=fun c=>(cond (Nat.beq c 0) [(0,some (.sl (.int .i64))),(3,none),(4,none)] []),run:=fun c=>(cond (Nat.beq c 0) (some (Ds df cf fun σ ρ K=>(Ga n n σ.1 σ.2.1 σ.2.2.1).bind (ub K))) none),xm:=fun c q=>(cond (Nat.beq c 0&&Nat.beq (q.getD 1000000) 0&&q.isSome) (some [(3,none)]) none) }
def Dd (n:Nat) (K:XE→List AV→ja→Option Out) (m:Nat) (x1:(Sq Int)) (m0:Int) (i:Int):Option Out:=Jg tys (da Out (Zc n)) (Ed n) n (Ba [1,1,1,0,1,0,0] (aa Tryz.f121)) 0 df cf K m (x1,(m0,(i,()))) ()
theorem Yi (n:Nat) (K:XE→List AV→ja→Option Out):∀ (m:Nat) x1 m0 i,Dd n K m x1 m0 i=(Ga n m x1 m0 i).bind (ub K)
  | 0,_,_,_=>by kernel_rfl
  | m+1,x1,m0,i=>by
    have h1:Dd n K (m+1) x1 m0 i=dc n x1 m0 i (Dd n K m) (fun a=>ub K (.out a)) (fun a=>ub K (.ret a)) (fun p=>ub K (.pan p)):=by kernel_rfl
    have h2:Dd n K m=fun x1 m0 i=>(Ga n m x1 m0 i).bind (ub K):=by
      repeat (refine funext fun _=>?_)
      exact Yi n K m _ _ _
    rw [h1,h2];exact (Fs n m _ _ _ (ub K)).symm
theorem yr (n:Nat):dg tys (da Out (Zc n)) (Ed n) n (Ba [1,1,1,0,1,0,0] (aa Tryz.f121)) 0:=Wa (sp:=df) (rp:=cf) (by kernel_rfl) fun K σ ρ=>Yi n K n σ.1 σ.2.1 σ.2.2.1
theorem Gs (n:Nat):ra tys (da Out (Zc n)) (Ed n) n (aa Tryz.f121) 0:=⟨trivial,⟨⟨trivial,⟨trivial,trivial⟩⟩,⟨trivial,⟨⟨trivial,⟨yr n,⟨⟨trivial,⟨trivial,trivial⟩⟩,⟨trivial,trivial⟩⟩⟩⟩,⟨trivial,trivial⟩⟩⟩⟩⟩
theorem Ut (n:Nat):Enters Tryz.prog 121:=enters_of (c:=aa Tryz.f121) Tryz.func121 (by kernel_rfl) (by kernel_rfl)
def Vk (n:Nat):Entry:=⟨121,e8 (.pair (.sl (.int .i64)) .unit) (.one (.int .i64)) (fun xs=>Cc n xs.1),none,none⟩
theorem fv (n:Nat):EntryOk Tryz.prog gl (Vk n):=Ca (Ut n) fun xs y h=>la tys_ok (qi n) mixed (hint:=Ed n) (n:=n) Tryz.func121 (Va (Gs n)) (pa (φ:=(fun y=>some (Out.ret (me (.one (.int .i64)) y)))) (by kernel_rfl) (Xw n xs.1 _) h)
def ch (n:Nat):List Entry:=Vk n::Zc n
theorem pi (n:Nat):AllOk Tryz.prog gl (ch n):=.cons (fv n) (qi n)
def Zl (n:Nat) {R:Type} (l:(Sq Int)) (k:Bool→Option R):Option R:=if (decide ((l.n:Int)≥(1:Int)))=true then if (decide ((l.n:Int)≤(16:Int)))=true then (od n l).bind fun v=>if (decide (v≥(1:Int)))=true then (Cc n l).bind fun v1=>k (decide (v1≤(1099511627776:Int))) else k false else k false else k false
def Fj (n:Nat) (l:(Sq Int)):Option Bool:=Zl n l some
theorem gJ (n:Nat) {S:Type}:∀ l (φ:_→Option S),(Fj n l).bind φ=Zl n l φ:=by
  intros;unfold Fj Zl;first | (simp only [ia,ba,iB,bB,oL,oX,nB,Option.bind_some]) | rfl
def Ws (n:Nat):Hint Out:={ live:=fun c=>[],run:=fun c=>none,xm:=fun c q=>none }
theorem tD (n:Nat):ra tys (da Out (ch n)) (Ws n) n (aa Tryz.f120) 0:=qa (fun _=>rfl) _ _ (by kernel_rfl)
theorem bF (n:Nat):Enters Tryz.prog 120:=enters_of (c:=aa Tryz.f120) Tryz.func120 (by kernel_rfl) (by kernel_rfl)
def sx (n:Nat):Entry:=⟨120,e8 (.pair (.sl (.int .i64)) .unit) (.one .bool) (fun xs=>Fj n xs.1),none,none⟩
theorem bH (n:Nat):EntryOk Tryz.prog gl (sx n):=Ca (bF n) fun xs y h=>la tys_ok (pi n) mixed (hint:=Ws n) (n:=n) Tryz.func120 (Va (tD n)) (pa (φ:=(fun y=>some (Out.ret (me (.one .bool) y)))) (by kernel_rfl) (gJ n xs.1 _) h)
def Nh (n:Nat):List Entry:=sx n::ch n
theorem Nq (n:Nat):AllOk Tryz.prog gl (Nh n):=.cons (bH n) (pi n)
def ph (n:Nat) {R:Type} (t8:(Sq T2)) (t9 t10:Int) (c1:(Sq T2)) (c2:BA) (c3 c4:Int) (c5:(Sq Int)) (c6 c7:Int) (c8:Nat) (seen:(Sq BA)) (kn:(Sq T2)→Int→Int→(Sq T2)→BA→Int→Int→(Sq Int)→Int→Int→Nat→(Sq BA)→Option R) (ko:((Sq T2)×BA×Int×Int×(Sq Int)×Int×Int×Nat)→Option R) (kr:(Bool)→Option R) (kp:Int→Option R):Option R:=if (decide (t10<t9))=true then if 0≤t10∧t10<(t8.n:Int) then (qh n (((t8.at' (Int.toNat t10))).1,((((t8.at' (Int.toNat t10))).2).1,(((((t8.at' (Int.toNat t10))).2).2).1,((((((t8.at' (Int.toNat t10))).2).2).2).1,(((((((((t8.at' (Int.toNat t10))).2).2).2).2).1).1,(((((((((t8.at' (Int.toNat t10))).2).2).2).2).1).2).1,((((((((((t8.at' (Int.toNat t10))).2).2).2).2).1).2).2).1,(((((((((((t8.at' (Int.toNat t10))).2).2).2).2).1).2).2).2).1,((((((((((((t8.at' (Int.toNat t10))).2).2).2).2).1).2).2).2).2).1,()))))),((((((((t8.at' (Int.toNat t10))).2).2).2).2).2).1,()))))))).bind fun v=>if (!v)=false then if Xe .str (((t8.at' (Int.toNat t10))).1)=true then if (sI .str seen (((t8.at' (Int.toNat t10))).1))=true then kr false else if Xe .str (((t8.at' (Int.toNat t10))).1)=true then kn t8 t9 (IntKind.wrap .i64 (t10+(1:Int))) c1 c2 c3 c4 c5 c6 c7 c8 (AI .str seen (((t8.at' (Int.toNat t10))).1)) else none else none else kr false else none else ko (c1,c2,c3,c4,c5,c6,c7,c8)
def mc (n:Nat):Nat→(Sq T2)→Int→Int→(Sq T2)→BA→Int→Int→(Sq Int)→Int→Int→Nat→(Sq BA)→Option (Lx ((Sq T2)×BA×Int×Int×(Sq Int)×Int×Int×Nat) (Bool))
 | 0,_,_,_,_,_,_,_,_,_,_,_,_=>none
 | m+1,t8,t9,t10,c1,c2,c3,c4,c5,c6,c7,c8,seen=>ph n t8 t9 t10 c1 c2 c3 c4 c5 c6 c7 c8 seen (mc n m) (fun a=>some (.out a)) (fun a=>some (.ret a)) (fun p=>some (.pan p))
theorem fF (n m:Nat) {S:Type}:∀ t8 t9 t10 c1 c2 c3 c4 c5 c6 c7 c8 seen (φ:_→Option S),(mc n (m+1) t8 t9 t10 c1 c2 c3 c4 c5 c6 c7 c8 seen).bind φ=ph n t8 t9 t10 c1 c2 c3 c4 c5 c6 c7 c8 seen (fun t8 t9 t10 c1 c2 c3 c4 c5 c6 c7 c8 seen=>(mc n m t8 t9 t10 c1 c2 c3 c4 c5 c6 c7 c8 seen).bind φ) (fun a=>φ (.out a)) (fun a=>φ (.ret a)) (fun p=>φ (.pan p)):=by
  intros;first | (simp only [mc,ph,ia,ba,iB,bB,oL,oX,nB,Option.bind_some]) | rfl
def ll:List Sl:=.top::.ptr 0 0 0::.top::.mp 1::tp 4 (.dat (.sl K6)::.dat (.int .i64)::.dat (.int .i64)::tp 57 [])
def il:List RS:=[.box 29 8 true [.dat (.sl K6),.dat .str,.dat (.int .i64),.dat (.int .i64),.dat (.sl (.int .i64)),.dat (.int .i64),.dat (.int .i64),.dat (.flt .f64)],.set 148 .str]
def yw:List Sl:=.top::.ptr 0 0 0::tp 66 []
def xw:List RS:=[.box 29 8 true [.dat (.sl K6),.dat .str,.dat (.int .i64),.dat (.int .i64),.dat (.sl (.int .i64)),.dat (.int .i64),.dat (.int .i64),.dat (.flt .f64)]]
def Aw:List Sl:=.top::.top::.dat .bool::tp 65 []
def zw:List RS:=[]
def Rd (K:XE→List AV→ja→Option Out):Lx ((Sq T2)×BA×Int×Int×(Sq Int)×Int×Int×Nat) (Bool)→Option Out:=fun x=>W7 x (fun a=>tj yw xw () ((a.1,(a.2.1,(a.2.2.1,(a.2.2.2.1,(a.2.2.2.2.1,(a.2.2.2.2.2.1,(a.2.2.2.2.2.2.1,(a.2.2.2.2.2.2.2,())))))))),()) (K (.exit 0))) (fun a=>tj Aw zw (a,()) () (K .ret)) (fun _=>none)
def Vo (n:Nat) {R:Type} (c:T3) (k:Bool→Option R):Option R:=(mc n n c.1 (c.1.n:Int) (0:Int) c.1 c.2.1 c.2.2.1 c.2.2.2.1 c.2.2.2.2.1 c.2.2.2.2.2.1 c.2.2.2.2.2.2.1 c.2.2.2.2.2.2.2.1 (⟨0,fun _=>Ea .str⟩:Sq BA)).bind fun x_1=>W7 x_1 (fun a_2=>(Hb n (a_2.1.n:Int) (1:Int) (4:Int)).bind fun v1=>if (!v1)=false then (oh n a_2.2.1).bind fun v2=>if (!v2)=false then (Fj n a_2.2.2.2.2.1).bind fun v3=>if (!v3)=false then (Cc n a_2.2.2.2.2.1).bind fun v4=>if (decide (v4>(1073741824:Int)))=true then k false else (Hb n a_2.2.2.1 (0:Int) (1099511627776:Int)).bind fun v5=>if v5=true then (Hb n a_2.2.2.2.1 (1:Int) (1099511627776:Int)).bind fun v6=>if v6=true then (Hb n a_2.2.2.2.2.2.1 (1:Int) (1048576:Int)).bind fun v7=>if v7=true then (Hb n a_2.2.2.2.2.2.2.1 (0:Int) (1073741824:Int)).bind fun v8=>k v8 else k false else k false else k false else k false else k false else k false) (fun a_3=>k a_3) (fun _=>none)
def ii (n:Nat) (c:T3):Option Bool:=Vo n c some
theorem cL (n:Nat) {S:Type}:∀ c (φ:_→Option S),(ii n c).bind φ=Vo n c φ:=by
  intros;unfold ii Vo;first | (simp only [ia,ba,iB,bB,oL,oX,nB,Option.bind_some]) | rfl
def Ci (n:Nat):Hint Out:={ live:=fun c=>(cond (Nat.beq c 0) [(1,none),(3,none),(8,some (.sl K6)),(9,none),(10,none)] []),run:=fun c=>(cond (Nat.beq c 0) (some (Ds ll il fun σ ρ K=>(mc n n σ.1 σ.2.1 σ.2.2.1 ρ.1.1 ρ.1.2.1 ρ.1.2.2.1 ρ.1.2.2.2.1 ρ.1.2.2.2.2.1 ρ.1.2.2.2.2.2.1 ρ.1.2.2.2.2.2.2.1 ρ.1.2.2.2.2.2.2.2.1 ρ.2.1).bind (Rd K))) none),xm:=fun c q=>(cond (Nat.beq c 0&&Nat.beq (q.getD 1000000) 0&&q.isSome) (some [(1,none)]) (cond (Nat.beq c 1&&q.isNone) (some [(2,none)]) none)) }
def Ai (n:Nat) (K:XE→List AV→ja→Option Out) (m:Nat) (t8:(Sq T2)) (t9:Int) (t10:Int) (c1:(Sq T2)) (c2:BA) (c3:Int) (c4:Int) (c5:(Sq Int)) (c6:Int) (c7:Int) (c8:Nat) (seen:(Sq BA)):Option Out:=Jg tys (da Out (Nh n)) (Ci n) n (Ba [1,1,0,1,0,0] (aa Tryz.f85)) 0 ll il K m (t8,(t9,(t10,()))) ((c1,(c2,(c3,(c4,(c5,(c6,(c7,(c8,())))))))),(seen,()))
theorem ju (n:Nat) (K:XE→List AV→ja→Option Out):∀ (m:Nat) t8 t9 t10 c1 c2 c3 c4 c5 c6 c7 c8 seen,Ai n K m t8 t9 t10 c1 c2 c3 c4 c5 c6 c7 c8 seen=(mc n m t8 t9 t10 c1 c2 c3 c4 c5 c6 c7 c8 seen).bind (Rd K)
  | 0,_,_,_,_,_,_,_,_,_,_,_,_=>by kernel_rfl
  | m+1,t8,t9,t10,c1,c2,c3,c4,c5,c6,c7,c8,seen=>by
    have h1:Ai n K (m+1) t8 t9 t10 c1 c2 c3 c4 c5 c6 c7 c8 seen=ph n t8 t9 t10 c1 c2 c3 c4 c5 c6 c7 c8 seen (Ai n K m) (fun a=>Rd K (.out a)) (fun a=>Rd K (.ret a)) (fun p=>Rd K (.pan p)):=by kernel_rfl
    have h2:Ai n K m=fun t8 t9 t10 c1 c2 c3 c4 c5 c6 c7 c8 seen=>(mc n m t8 t9 t10 c1 c2 c3 c4 c5 c6 c7 c8 seen).bind (Rd K):=by
      repeat (refine funext fun _=>?_)
      exact ju n K m _ _ _ _ _ _ _ _ _ _ _ _
    rw [h1,h2];exact (fF n m _ _ _ _ _ _ _ _ _ _ _ _ (Rd K)).symm
theorem wD (n:Nat):dg tys (da Out (Nh n)) (Ci n) n (Ba [1,1,0,1,0,0] (aa Tryz.f85)) 0:=Wa (sp:=ll) (rp:=il) (by kernel_rfl) fun K σ ρ=>ju n K n σ.1 σ.2.1 σ.2.2.1 ρ.1.1 ρ.1.2.1 ρ.1.2.2.1 ρ.1.2.2.2.1 ρ.1.2.2.2.2.1 ρ.1.2.2.2.2.2.1 ρ.1.2.2.2.2.2.2.1 ρ.1.2.2.2.2.2.2.2.1 ρ.2.1
theorem gF (n:Nat):ra tys (da Out (Nh n)) (Ci n) n (aa Tryz.f85) 0:=⟨trivial,⟨trivial,⟨⟨trivial,⟨wD n,⟨trivial,⟨⟨trivial,trivial⟩,⟨⟨trivial,⟨⟨trivial,⟨⟨trivial,trivial⟩,trivial⟩⟩,trivial⟩⟩,trivial⟩⟩⟩⟩⟩,⟨⟨trivial,⟨⟨trivial,trivial⟩,trivial⟩⟩,⟨trivial,trivial⟩⟩⟩⟩⟩
theorem dH (n:Nat):Enters Tryz.prog 85:=enters_of (c:=aa Tryz.f85) Tryz.func85 (by kernel_rfl) (by kernel_rfl)
def Uz (n:Nat):Entry:=⟨85,e8 K8 (.one .bool) (fun xs=>ii n xs.1),none,none⟩
theorem kJ (n:Nat):EntryOk Tryz.prog gl (Uz n):=Ca (dH n) fun xs y h=>la tys_ok (Nq n) mixed (hint:=Ci n) (n:=n) Tryz.func85 (Va (gF n)) (pa (φ:=(fun y=>some (Out.ret (me (.one .bool) y)))) (by kernel_rfl) (cL n xs.1 _) h)
def Bi (n:Nat):List Entry:=Uz n::Nh n
theorem ft (n:Nat):AllOk Tryz.prog gl (Bi n):=.cons (kJ n) (Nq n)
def Pb (n:Nat) {R:Type} (s1:(Sq Int)) (v1 t7 t8:Int) (kn:(Sq Int)→Int→Int→Int→Option R) (ko:(Unit)→Option R) (kr:(Int)→Option R) (kp:Int→Option R):Option R:=if (decide (t8<t7))=true then if 0≤t8∧t8<(s1.n:Int) then if (v1==(s1.at' (Int.toNat t8)))=true then kr t8 else kn s1 v1 t7 (IntKind.wrap .i64 (t8+(1:Int))) else none else ko ()
def ya (n:Nat):Nat→(Sq Int)→Int→Int→Int→Option (Lx (Unit) (Int))
 | 0,_,_,_,_=>none
 | m+1,s1,v1,t7,t8=>Pb n s1 v1 t7 t8 (ya n m) (fun a=>some (.out a)) (fun a=>some (.ret a)) (fun p=>some (.pan p))
theorem zq (n m:Nat) {S:Type}:∀ s1 v1 t7 t8 (φ:_→Option S),(ya n (m+1) s1 v1 t7 t8).bind φ=Pb n s1 v1 t7 t8 (fun s1 v1 t7 t8=>(ya n m s1 v1 t7 t8).bind φ) (fun a=>φ (.out a)) (fun a=>φ (.ret a)) (fun p=>φ (.pan p)):=by
  intros;first | (simp only [ya,Pb,ia,ba,iB,bB,oL,oX,nB,Option.bind_some]) | rfl
def ke:List Sl:=.dat (.sl (.int .i64))::.dat (.int .i64)::tp 5 (.dat (.int .i64)::.dat (.int .i64)::tp 10 [])
def je:List RS:=[]
def Sk:List Sl:=tp 19 []
def Rk:List RS:=[]
def Uk:List Sl:=tp 4 (.dat (.int .i64)::tp 14 [])
def Tk:List RS:=[]
def fb (K:XE→List AV→ja→Option Out):Lx (Unit) (Int)→Option Out:=fun x=>W7 x (fun a=>tj Sk Rk () () (K (.exit 0))) (fun a=>tj Uk Tk (a,()) () (K .ret)) (fun _=>none)
def ce (n:Nat) {R:Type} (s:(Sq Int)) (v:Int) (k:Int→Option R):Option R:=(ya n n s v (s.n:Int) (0:Int)).bind fun x_1=>W7 x_1 (fun a_2=>k (-1:Int)) (fun a_3=>k a_3) (fun _=>none)
def wd (n:Nat) (s:(Sq Int)) (v:Int):Option Int:=ce n s v some
theorem Tt (n:Nat) {S:Type}:∀ s v (φ:_→Option S),(wd n s v).bind φ=ce n s v φ:=by
  intros;unfold wd ce;first | (simp only [ia,ba,iB,bB,oL,oX,nB,Option.bind_some]) | rfl
def Wc (n:Nat):Hint Out:={ live:=fun c=>(cond (Nat.beq c 0) [(0,some (.sl (.int .i64))),(1,none),(7,none),(8,none)] []),run:=fun c=>(cond (Nat.beq c 0) (some (Ds ke je fun σ ρ K=>(ya n n σ.1 σ.2.1 σ.2.2.1 σ.2.2.2.1).bind (fb K))) none),xm:=fun c q=>(cond (Nat.beq c 0&&Nat.beq (q.getD 1000000) 0&&q.isSome) (some []) (cond (Nat.beq c 1&&q.isNone) (some [(4,none)]) none)) }
def Vc (n:Nat) (K:XE→List AV→ja→Option Out) (m:Nat) (s1:(Sq Int)) (v1:Int) (t7:Int) (t8:Int):Option Out:=Jg tys (da Out (Bi n)) (Wc n) n (Ba [1,0,1,0,0] (aa Tryz.f237)) 0 ke je K m (s1,(v1,(t7,(t8,())))) ()
theorem Oh (n:Nat) (K:XE→List AV→ja→Option Out):∀ (m:Nat) s1 v1 t7 t8,Vc n K m s1 v1 t7 t8=(ya n m s1 v1 t7 t8).bind (fb K)
  | 0,_,_,_,_=>by kernel_rfl
  | m+1,s1,v1,t7,t8=>by
    have h1:Vc n K (m+1) s1 v1 t7 t8=Pb n s1 v1 t7 t8 (Vc n K m) (fun a=>fb K (.out a)) (fun a=>fb K (.ret a)) (fun p=>fb K (.pan p)):=by kernel_rfl
    have h2:Vc n K m=fun s1 v1 t7 t8=>(ya n m s1 v1 t7 t8).bind (fb K):=by
      repeat (refine funext fun _=>?_)
      exact Oh n K m _ _ _ _
    rw [h1,h2];exact (zq n m _ _ _ _ (fb K)).symm
theorem Jo (n:Nat):dg tys (da Out (Bi n)) (Wc n) n (Ba [1,0,1,0,0] (aa Tryz.f237)) 0:=Wa (sp:=ke) (rp:=je) (by kernel_rfl) fun K σ ρ=>Oh n K n σ.1 σ.2.1 σ.2.2.1 σ.2.2.2.1
theorem Aq (n:Nat):ra tys (da Out (Bi n)) (Wc n) n (aa Tryz.f237) 0:=⟨trivial,⟨⟨trivial,⟨Jo n,⟨trivial,⟨⟨trivial,trivial⟩,⟨⟨trivial,⟨trivial,⟨⟨trivial,trivial⟩,trivial⟩⟩⟩,trivial⟩⟩⟩⟩⟩,⟨trivial,trivial⟩⟩⟩
theorem xr (n:Nat):Enters Tryz.prog 237:=enters_of (c:=aa Tryz.f237) Tryz.func237 (by kernel_rfl) (by kernel_rfl)
def Xi (n:Nat):Entry:=⟨237,e8 (.pair (.sl (.int .i64)) (.pair (.int .i64) .unit)) (.one (.int .i64)) (fun xs=>wd n xs.1 xs.2.1),none,none⟩
theorem Es (n:Nat):EntryOk Tryz.prog gl (Xi n):=Ca (xr n) fun xs y h=>la tys_ok (ft n) mixed (hint:=Wc n) (n:=n) Tryz.func237 (Va (Aq n)) (pa (φ:=(fun y=>some (Out.ret (me (.one (.int .i64)) y)))) (by kernel_rfl) (Tt n xs.1 xs.2.1 _) h)
def Vf (n:Nat):List Entry:=Xi n::Bi n
theorem Gh (n:Nat):AllOk Tryz.prog gl (Vf n):=.cons (Es n) (ft n)
def Uc (n:Nat) {R:Type} (s:(Sq Int)) (v:Int) (k:Bool→Option R):Option R:=(wd n s v).bind fun v1=>k (decide (v1≥(0:Int)))
def Ob (n:Nat) (s:(Sq Int)) (v:Int):Option Bool:=Uc n s v some
theorem yq (n:Nat) {S:Type}:∀ s v (φ:_→Option S),(Ob n s v).bind φ=Uc n s v φ:=by
  intros;unfold Ob Uc;first | (simp only [ia,ba,iB,bB,oL,oX,nB,Option.bind_some]) | rfl
def Eg (n:Nat):Hint Out:={ live:=fun c=>[],run:=fun c=>none,xm:=fun c q=>none }
theorem rm (n:Nat):ra tys (da Out (Vf n)) (Eg n) n (aa Tryz.f212) 0:=qa (fun _=>rfl) _ _ (by kernel_rfl)
theorem co (n:Nat):Enters Tryz.prog 212:=enters_of (c:=aa Tryz.f212) Tryz.func212 (by kernel_rfl) (by kernel_rfl)
def Fh (n:Nat):Entry:=⟨212,e8 (.pair (.sl (.int .i64)) (.pair (.int .i64) .unit)) (.one .bool) (fun xs=>Ob n xs.1 xs.2.1),none,none⟩
theorem Io (n:Nat):EntryOk Tryz.prog gl (Fh n):=Ca (co n) fun xs y h=>la tys_ok (Gh n) mixed (hint:=Eg n) (n:=n) Tryz.func212 (Va (rm n)) (pa (φ:=(fun y=>some (Out.ret (me (.one .bool) y)))) (by kernel_rfl) (yq n xs.1 xs.2.1 _) h)
def ie (n:Nat):List Entry:=Fh n::Vf n
theorem kg (n:Nat):AllOk Tryz.prog gl (ie n):=.cons (Io n) (Gh n)
def Hi (n:Nat) {R:Type} (r:T0) (b0:(Sq Int)) (k:(Bool×(Sq Int)×Unit)→Option R):Option R:=(Ob n b0 r.2.1).bind fun v=>k (v,(b0,()))
def rh (n:Nat) (r:T0) (b0:(Sq Int)):Option (Bool×(Sq Int)×Unit):=Hi n r b0 some
theorem CF (n:Nat) {S:Type}:∀ r b0 (φ:_→Option S),(rh n r b0).bind φ=Hi n r b0 φ:=by
  intros;unfold rh Hi;first | (simp only [ia,ba,iB,bB,oL,oX,nB,Option.bind_some]) | rfl
def fp (n:Nat):Hint OutS:={ live:=fun c=>[],run:=fun c=>none,xm:=fun c q=>none }
theorem nA (n:Nat):ra tys (da OutS (ie n)) (fp n) n (aa Tryz.f211) 0:=qa (fun _=>rfl) _ _ (by kernel_rfl)
theorem bC (n:Nat):Enters Tryz.prog 211:=enters_of (c:=aa Tryz.f211) Tryz.func211 (by kernel_rfl) (by kernel_rfl)
def ut:List RSp:=[.one (.dat K0),.one (.ptr 0 0 0)]
def tt:List RS:=[.box 26 1 true [.dat (.sl (.int .i64))]]
def cC:List Sl:=[.top,.ptr 0 0 0]
def dC:List RSp:=[.one (.dat .bool)]
def sh:List RS:=[.box 26 1 true [.dat (.sl (.int .i64))]]
def Zm (y:(Bool×(Sq Int)×Unit)):OutS:=⟨false,ru (Al sh ((y.2.1,()),())) cC (),BM (kL (Al sh ((y.2.1,()),())) dC ((y.1,()),())),aD (Al sh ((y.2.1,()),())) sh ((y.2.1,()),())⟩
theorem JD (n:Nat):EntryOk Tryz.prog gl ⟨211,Bt,none,some (R6 ut tt (fun σ ρ=>rh n σ.1.1 ρ.1.1) Zm)⟩:=ou (bC n) fun σ ρ y h=>mh tys_ok (kg n) mixed (hint:=fp n) (n:=n) Tryz.func211 (Va (nA n)) (pa (φ:=fun y=>some (Zm y)) (by kernel_rfl) (CF n σ.1.1 ρ.1.1 _) h)
def ig (n:Nat):List Entry:=⟨211,Bt,none,some (R6 ut tt (fun σ ρ=>rh n σ.1.1 ρ.1.1) Zm)⟩::ie n
theorem an (n:Nat):AllOk Tryz.prog gl (ig n):=.cons (JD n) (kg n)
def Aa (n:Nat) {R:Type} (s1:(Sq T0)) (t7 t8:Int) (b01:(Sq Int)) (kn:(Sq T0)→Int→Int→(Sq Int)→Option R) (ko:(Unit)→Option R) (kr:(Int)→Option R) (kp:Int→Option R):Option R:=if (decide (t8<t7))=true then if 0≤t8∧t8<(s1.n:Int) then (rh n (((((s1.at' (Int.toNat t8))).1).1,(((((s1.at' (Int.toNat t8))).1).2).1,())),((((s1.at' (Int.toNat t8))).2).1,(((((s1.at' (Int.toNat t8))).2).2).1,((((((s1.at' (Int.toNat t8))).2).2).2).1,(((((((s1.at' (Int.toNat t8))).2).2).2).2).1,()))))) b01).bind fun v=>if v.1=true then kr t8 else kn s1 t7 (IntKind.wrap .i64 (t8+(1:Int))) v.2.1 else none else ko ()
def oa (n:Nat):Nat→(Sq T0)→Int→Int→(Sq Int)→Option (Lx (Unit) (Int))
 | 0,_,_,_,_=>none
 | m+1,s1,t7,t8,b01=>Aa n s1 t7 t8 b01 (oa n m) (fun a=>some (.out a)) (fun a=>some (.ret a)) (fun p=>some (.pan p))
theorem lg (n m:Nat) {S:Type}:∀ s1 t7 t8 b01 (φ:_→Option S),(oa n (m+1) s1 t7 t8 b01).bind φ=Aa n s1 t7 t8 b01 (fun s1 t7 t8 b01=>(oa n m s1 t7 t8 b01).bind φ) (fun a=>φ (.out a)) (fun a=>φ (.ret a)) (fun p=>φ (.pan p)):=by
  intros;first | (simp only [oa,Aa,ia,ba,iB,bB,oL,oX,nB,Option.bind_some]) | rfl
def tb:List Sl:=.dat (.sl K0)::.fnp 211 0 0 0::tp 5 (.dat (.int .i64)::.dat (.int .i64)::tp 10 [])
def rb:List RS:=[.box 26 1 true [.dat (.sl (.int .i64))],.ghost [.top,.top]]
def Ke:List Sl:=tp 19 []
def Je:List RS:=[.ghost [.top,.top]]
def Me:List Sl:=tp 4 (.dat (.int .i64)::tp 14 [])
def Le:List RS:=[.ghost [.top,.top]]
def sa (K:XE→List AV→ja→Option OutS):Lx (Unit) (Int)→Option OutS:=fun x=>W7 x (fun a=>tj Ke Je () ((),()) (K (.exit 0))) (fun a=>tj Me Le (a,()) ((),()) (K .ret)) (fun _=>none)
def Za (n:Nat) {R:Type} (s:(Sq T0)) (b0:(Sq Int)) (k:(Int×Unit)→Option R):Option R:=(oa n n s (s.n:Int) (0:Int) b0).bind fun x_1=>W7 x_1 (fun a_2=>k ((-1:Int),())) (fun a_3=>k (a_3,())) (fun _=>none)
def Da (n:Nat) (s:(Sq T0)) (b0:(Sq Int)):Option (Int×Unit):=Za n s b0 some
theorem bh (n:Nat) {S:Type}:∀ s b0 (φ:_→Option S),(Da n s b0).bind φ=Za n s b0 φ:=by
  intros;unfold Da Za;first | (simp only [ia,ba,iB,bB,oL,oX,nB,Option.bind_some]) | rfl
def Pa (n:Nat):Hint OutS:={ live:=fun c=>(cond (Nat.beq c 0) [(0,some (.sl K0)),(1,none),(7,none),(8,none)] []),run:=fun c=>(cond (Nat.beq c 0) (some (Ds tb rb fun σ ρ K=>(oa n n σ.1 σ.2.1 σ.2.2.1 ρ.1.1).bind (sa K))) none),xm:=fun c q=>(cond (Nat.beq c 0&&Nat.beq (q.getD 1000000) 0&&q.isSome) (some []) (cond (Nat.beq c 1&&q.isNone) (some [(4,none)]) none)) }
def Oa (n:Nat) (K:XE→List AV→ja→Option OutS) (m:Nat) (s1:(Sq T0)) (t7:Int) (t8:Int) (b01:(Sq Int)):Option OutS:=Jg tys (da OutS (ig n)) (Pa n) n (Ba [1,0,1,0,0] (aa Tryz.f236)) 0 tb rb K m (s1,(t7,(t8,()))) ((b01,()),((),()))
theorem Kc (n:Nat) (K:XE→List AV→ja→Option OutS):∀ (m:Nat) s1 t7 t8 b01,Oa n K m s1 t7 t8 b01=(oa n m s1 t7 t8 b01).bind (sa K)
  | 0,_,_,_,_=>by kernel_rfl
  | m+1,s1,t7,t8,b01=>by
    have h1:Oa n K (m+1) s1 t7 t8 b01=Aa n s1 t7 t8 b01 (Oa n K m) (fun a=>sa K (.out a)) (fun a=>sa K (.ret a)) (fun p=>sa K (.pan p)):=by kernel_rfl
    have h2:Oa n K m=fun s1 t7 t8 b01=>(oa n m s1 t7 t8 b01).bind (sa K):=by
      repeat (refine funext fun _=>?_)
      exact Kc n K m _ _ _ _
    rw [h1,h2];exact (lg n m _ _ _ _ (sa K)).symm
theorem Uf (n:Nat):dg tys (da OutS (ig n)) (Pa n) n (Ba [1,0,1,0,0] (aa Tryz.f236)) 0:=Wa (sp:=tb) (rp:=rb) (by kernel_rfl) fun K σ ρ=>Kc n K n σ.1 σ.2.1 σ.2.2.1 ρ.1.1
theorem mg (n:Nat):ra tys (da OutS (ig n)) (Pa n) n (aa Tryz.f236) 0:=⟨trivial,⟨⟨trivial,⟨Uf n,⟨trivial,⟨⟨trivial,trivial⟩,⟨⟨trivial,⟨trivial,⟨⟨trivial,trivial⟩,trivial⟩⟩⟩,trivial⟩⟩⟩⟩⟩,⟨trivial,trivial⟩⟩⟩
theorem xg (n:Nat):Enters Tryz.prog 236:=enters_of (c:=aa Tryz.f236) Tryz.func236 (by kernel_rfl) (by kernel_rfl)
def Sc:List RSp:=[.one (.dat (.sl K0)),.one (.fnp 211 0 0 0)]
def Rc:List RS:=[.box 26 1 true [.dat (.sl (.int .i64))]]
def yg:List Sl:=[.top,.top]
def zg:List RSp:=[.one (.dat (.int .i64))]
def Ua:List RS:=[]
def Lb (y:(Int×Unit)):OutS:=⟨false,ru (Al Ua ()) yg (),BM (kL (Al Ua ()) zg ((y.1,()),())),aD (Al Ua ()) Ua ()⟩
theorem Kg (n:Nat):EntryOk Tryz.prog gl ⟨236,Bt,none,some (R6 Sc Rc (fun σ ρ=>Da n σ.1.1 ρ.1.1) Lb)⟩:=ou (xg n) fun σ ρ y h=>mh tys_ok (an n) mixed (hint:=Pa n) (n:=n) Tryz.func236 (Va (mg n)) (pa (φ:=fun y=>some (Lb y)) (by kernel_rfl) (bh n σ.1.1 ρ.1.1 _) h)
def Ib (n:Nat):List Entry:=⟨236,Bt,none,some (R6 Sc Rc (fun σ ρ=>Da n σ.1.1 ρ.1.1) Lb)⟩::ig n
theorem Bc (n:Nat):AllOk Tryz.prog gl (Ib n):=.cons (Kg n) (an n)
def Na (n:Nat) {R:Type} (s:(Sq T0)) (b0:(Sq Int)) (k:(Bool×Unit)→Option R):Option R:=(Da n s b0).bind fun v=>k ((decide (v.1≥(0:Int))),())
def za (n:Nat) (s:(Sq T0)) (b0:(Sq Int)):Option (Bool×Unit):=Na n s b0 some
theorem jg (n:Nat) {S:Type}:∀ s b0 (φ:_→Option S),(za n s b0).bind φ=Na n s b0 φ:=by
  intros;unfold za Na;first | (simp only [ia,ba,iB,bB,oL,oX,nB,Option.bind_some]) | rfl
def bc (n:Nat):Hint OutS:={ live:=fun c=>[],run:=fun c=>none,xm:=fun c q=>none }
theorem bf (n:Nat):ra tys (da OutS (Ib n)) (bc n) n (aa Tryz.f210) 0:=qa (fun _=>rfl) _ _ (by kernel_rfl)
theorem kf (n:Nat):Enters Tryz.prog 210:=enters_of (c:=aa Tryz.f210) Tryz.func210 (by kernel_rfl) (by kernel_rfl)
def Ac:List RSp:=[.one (.dat (.sl K0)),.one (.fnp 211 0 0 0)]
def zc:List RS:=[.box 26 1 true [.dat (.sl (.int .i64))]]
def lf:List Sl:=[.top,.top]
def mf:List RSp:=[.one (.dat .bool)]
def Ia:List RS:=[]
def yb (y:(Bool×Unit)):OutS:=⟨false,ru (Al Ia ()) lf (),BM (kL (Al Ia ()) mf ((y.1,()),())),aD (Al Ia ()) Ia ()⟩
theorem Tf (n:Nat):EntryOk Tryz.prog gl ⟨210,Bt,none,some (R6 Ac zc (fun σ ρ=>za n σ.1.1 ρ.1.1) yb)⟩:=ou (kf n) fun σ ρ y h=>mh tys_ok (Bc n) mixed (hint:=bc n) (n:=n) Tryz.func210 (Va (bf n)) (pa (φ:=fun y=>some (yb y)) (by kernel_rfl) (jg n σ.1.1 ρ.1.1 _) h)
def qb (n:Nat):List Entry:=⟨210,Bt,none,some (R6 Ac zc (fun σ ρ=>za n σ.1.1 ρ.1.1) yb)⟩::Ib n
theorem Wb (n:Nat):AllOk Tryz.prog gl (qb n):=.cons (Tf n) (Bc n)
def Xv (n:Nat) {R:Type} (m0:T1) (states:(Sq Int)) (k:Bool→Option R):Option R:=(za n m0.2.2.2.2.1 states).bind fun v=>k v.1
def Wv (n:Nat) (m0:T1) (states:(Sq Int)):Option Bool:=Xv n m0 states some
theorem dQ (n:Nat) {S:Type}:∀ m0 states (φ:_→Option S),(Wv n m0 states).bind φ=Xv n m0 states φ:=by
  intros;unfold Wv Xv;first | (simp only [ia,ba,iB,bB,oL,oX,nB,Option.bind_some]) | rfl
def oA (n:Nat):Hint Out:={ live:=fun c=>[],run:=fun c=>none,xm:=fun c q=>none }
theorem xJ (n:Nat):ra tys (da Out (qb n)) (oA n) n (aa Tryz.f169) 0:=qa (fun _=>rfl) _ _ (by kernel_rfl)
theorem EL (n:Nat):Enters Tryz.prog 169:=enters_of (c:=aa Tryz.f169) Tryz.func169 (by kernel_rfl) (by kernel_rfl)
def DF (n:Nat):Entry:=⟨169,e8 u6 (.one .bool) (fun xs=>Wv n xs.1 xs.2.1),none,none⟩
theorem oN (n:Nat):EntryOk Tryz.prog gl (DF n):=Ca (EL n) fun xs y h=>la tys_ok (Wb n) mixed (hint:=oA n) (n:=n) Tryz.func169 (Va (xJ n)) (pa (φ:=(fun y=>some (Out.ret (me (.one .bool) y)))) (by kernel_rfl) (dQ n xs.1 xs.2.1 _) h)
def uy (n:Nat):List Entry:=DF n::qb n
theorem Cx (n:Nat):AllOk Tryz.prog gl (uy n):=.cons (oN n) (Wb n)
def em (n:Nat) {R:Type} (m0:T1) (k:Bool→Option R):Option R:=(Wv n (m0.1,(m0.2.1,(m0.2.2.1,((m0.2.2.2.1.1,(m0.2.2.2.1.2.1,())),(m0.2.2.2.2.1,(m0.2.2.2.2.2.1,(m0.2.2.2.2.2.2.1,(m0.2.2.2.2.2.2.2.1,(m0.2.2.2.2.2.2.2.2.1,()))))))))) (⟨2,fun q=>List.getD (α:=Int) [(0:Int),(1:Int)] q (Ea (.int .i64))⟩:Sq Int)).bind fun v=>k (!v)
def Lj (n:Nat) (m0:T1):Option Bool:=em n m0 some
theorem yJ (n:Nat) {S:Type}:∀ m0 (φ:_→Option S),(Lj n m0).bind φ=em n m0 φ:=by
  intros;unfold Lj em;first | (simp only [ia,ba,iB,bB,oL,oX,nB,Option.bind_some]) | rfl
def vt (n:Nat):Hint Out:={ live:=fun c=>[],run:=fun c=>none,xm:=fun c q=>none }
theorem KD (n:Nat):ra tys (da Out (uy n)) (vt n) n (aa Tryz.f122) 0:=qa (fun _=>rfl) _ _ (by kernel_rfl)
theorem EF (n:Nat):Enters Tryz.prog 122:=enters_of (c:=aa Tryz.f122) Tryz.func122 (by kernel_rfl) (by kernel_rfl)
def Dx (n:Nat):Entry:=⟨122,e8 K2 (.one .bool) (fun xs=>Lj n xs.1),none,none⟩
theorem qH (n:Nat):EntryOk Tryz.prog gl (Dx n):=Ca (EF n) fun xs y h=>la tys_ok (Cx n) mixed (hint:=vt n) (n:=n) Tryz.func122 (Va (KD n)) (pa (φ:=(fun y=>some (Out.ret (me (.one .bool) y)))) (by kernel_rfl) (yJ n xs.1 _) h)
def iq (n:Nat):List Entry:=Dx n::uy n
theorem Zq (n:Nat):AllOk Tryz.prog gl (iq n):=.cons (qH n) (Cx n)
def Hk (n:Nat) {R:Type} (n0:Int) (k:Int→Option R):Option R:=k (IntKind.wrap .i64 (n0+(1000:Int)))
def Mj (n:Nat) (n0:Int):Option Int:=Hk n n0 some
theorem HL (n:Nat) {S:Type}:∀ n0 (φ:_→Option S),(Mj n n0).bind φ=Hk n n0 φ:=by
  intros;unfold Mj Hk;first | (simp only [ia,ba,iB,bB,oL,oX,nB,Option.bind_some]) | rfl
def Au (n:Nat):Hint Out:={ live:=fun c=>[],run:=fun c=>none,xm:=fun c q=>none }
theorem IF (n:Nat):ra tys (da Out (iq n)) (Au n) n (aa Tryz.f108) 0:=qa (fun _=>rfl) _ _ (by kernel_rfl)
theorem sH (n:Nat):Enters Tryz.prog 108:=enters_of (c:=aa Tryz.f108) Tryz.func108 (by kernel_rfl) (by kernel_rfl)
def rA (n:Nat):Entry:=⟨108,e8 (.pair (.int .i64) .unit) (.one (.int .i64)) (fun xs=>Mj n xs.1),none,none⟩
theorem BJ (n:Nat):EntryOk Tryz.prog gl (rA n):=Ca (sH n) fun xs y h=>la tys_ok (Zq n) mixed (hint:=Au n) (n:=n) Tryz.func108 (Va (IF n)) (pa (φ:=(fun y=>some (Out.ret (me (.one (.int .i64)) y)))) (by kernel_rfl) (HL n xs.1 _) h)
def Ii (n:Nat):List Entry:=rA n::iq n
theorem wt (n:Nat):AllOk Tryz.prog gl (Ii n):=.cons (BJ n) (Zq n)
def Bh (n:Nat) {R:Type} (tenant1 count bytes:Int) (t9:(Sq T1)) (t10 t11:Int) (kn:Int→Int→Int→(Sq T1)→Int→Int→Option R) (ko:(Int×Int)→Option R) (kr:Unit→Option R) (kp:Int→Option R):Option R:=if (decide (t11<t10))=true then if 0≤t11∧t11<(t9.n:Int) then if (((((t9.at' (Int.toNat t11))).2).1)==tenant1)=true then (Lj n (((t9.at' (Int.toNat t11))).1,((((t9.at' (Int.toNat t11))).2).1,(((((t9.at' (Int.toNat t11))).2).2).1,((((((((t9.at' (Int.toNat t11))).2).2).2).1).1,((((((((t9.at' (Int.toNat t11))).2).2).2).1).2).1,())),((((((((t9.at' (Int.toNat t11))).2).2).2).2).1),((((((((t9.at' (Int.toNat t11))).2).2).2).2).2).1,(((((((((t9.at' (Int.toNat t11))).2).2).2).2).2).2).1,((((((((((t9.at' (Int.toNat t11))).2).2).2).2).2).2).2).1,(((((((((((t9.at' (Int.toNat t11))).2).2).2).2).2).2).2).2).1,())))))))))).bind fun v=>if (!v)=true then (Mj n (((((((((t9.at' (Int.toNat t11))).2).2).2).2).2).1).size:Int)).bind fun v1=>kn tenant1 (IntKind.wrap .i64 (count+(1:Int))) (IntKind.wrap .i64 (bytes+v1)) t9 t10 (IntKind.wrap .i64 (t11+(1:Int))) else kn tenant1 count bytes t9 t10 (IntKind.wrap .i64 (t11+(1:Int))) else kn tenant1 count bytes t9 t10 (IntKind.wrap .i64 (t11+(1:Int))) else none else ko (count,bytes)
def Dc (n:Nat):Nat→Int→Int→Int→(Sq T1)→Int→Int→Option (Lx (Int×Int) Unit)
 | 0,_,_,_,_,_,_=>none
 | m+1,tenant1,count,bytes,t9,t10,t11=>Bh n tenant1 count bytes t9 t10 t11 (Dc n m) (fun a=>some (.out a)) (fun a=>some (.ret a)) (fun p=>some (.pan p))
theorem qG (n m:Nat) {S:Type}:∀ tenant1 count bytes t9 t10 t11 (φ:_→Option S),(Dc n (m+1) tenant1 count bytes t9 t10 t11).bind φ=Bh n tenant1 count bytes t9 t10 t11 (fun tenant1 count bytes t9 t10 t11=>(Dc n m tenant1 count bytes t9 t10 t11).bind φ) (fun a=>φ (.out a)) (fun a=>φ (.ret a)) (fun p=>φ (.pan p)):=by
  intros;first | (simp only [Dc,Bh,ia,ba,iB,bB,oL,oX,nB,Option.bind_some]) | rfl
def yl:List Sl:=.top::.dat (.int .i64)::.top::.top::.dat (.int .i64)::.dat (.int .i64)::.top::.top::.top::.dat (.sl K1)::.dat (.int .i64)::.dat (.int .i64)::tp 23 []
def xl:List RS:=[]
def cx:List Sl:=tp 4 (.dat (.int .i64)::.dat (.int .i64)::tp 29 [])
def Zw:List RS:=[]
def Wd (K:XE→List AV→ja→Option Out):Lx (Int×Int) Unit→Option Out:=fun x=>W7 x (fun a=>tj cx Zw (a.1,(a.2,())) () (K (.exit 0))) (fun _=>none) (fun _=>none)
def Ip (n:Nat) {R:Type} (s:U1) (tenant:Int) (k:(Int×Int×Unit)→Option R):Option R:=(Dc n n tenant (0:Int) (0:Int) s.2.1 (s.2.1.n:Int) (0:Int)).bind fun x_1=>W7 x_1 (fun a_2=>k (a_2.1,(a_2.2,()))) (fun _=>none) (fun _=>none)
def Yj (n:Nat) (s:U1) (tenant:Int):Option (Int×Int×Unit):=Ip n s tenant some
theorem gM (n:Nat) {S:Type}:∀ s tenant (φ:_→Option S),(Yj n s tenant).bind φ=Ip n s tenant φ:=by
  intros;unfold Yj Ip;first | (simp only [ia,ba,iB,bB,oL,oX,nB,Option.bind_some]) | rfl
def ej (n:Nat):Hint Out:={ live:=fun c=>(cond (Nat.beq c 0) [(1,none),(4,none),(5,none),(9,some (.sl K1)),(10,none),(11,none)] []),run:=fun c=>(cond (Nat.beq c 0) (some (Ds yl xl fun σ ρ K=>(Dc n n σ.1 σ.2.1 σ.2.2.1 σ.2.2.2.1 σ.2.2.2.2.1 σ.2.2.2.2.2.1).bind (Wd K))) none),xm:=fun c q=>(cond (Nat.beq c 0&&Nat.beq (q.getD 1000000) 0&&q.isSome) (some [(4,none),(5,none)]) none) }
def dj (n:Nat) (K:XE→List AV→ja→Option Out) (m:Nat) (tenant1:Int) (count:Int) (bytes:Int) (t9:(Sq T1)) (t10:Int) (t11:Int):Option Out:=Jg tys (da Out (Ii n)) (ej n) n (Ba [1,0,1,0,0] (aa Tryz.f88)) 0 yl xl K m (tenant1,(count,(bytes,(t9,(t10,(t11,())))))) ()
theorem yv (n:Nat) (K:XE→List AV→ja→Option Out):∀ (m:Nat) tenant1 count bytes t9 t10 t11,dj n K m tenant1 count bytes t9 t10 t11=(Dc n m tenant1 count bytes t9 t10 t11).bind (Wd K)
  | 0,_,_,_,_,_,_=>by kernel_rfl
  | m+1,tenant1,count,bytes,t9,t10,t11=>by
    have h1:dj n K (m+1) tenant1 count bytes t9 t10 t11=Bh n tenant1 count bytes t9 t10 t11 (dj n K m) (fun a=>Wd K (.out a)) (fun a=>Wd K (.ret a)) (fun p=>Wd K (.pan p)):=by kernel_rfl
    have h2:dj n K m=fun tenant1 count bytes t9 t10 t11=>(Dc n m tenant1 count bytes t9 t10 t11).bind (Wd K):=by
      repeat (refine funext fun _=>?_)
      exact yv n K m _ _ _ _ _ _
    rw [h1,h2];exact (qG n m _ _ _ _ _ _ (Wd K)).symm
theorem cE (n:Nat):dg tys (da Out (Ii n)) (ej n) n (Ba [1,0,1,0,0] (aa Tryz.f88)) 0:=Wa (sp:=yl) (rp:=xl) (by kernel_rfl) fun K σ ρ=>yv n K n σ.1 σ.2.1 σ.2.2.1 σ.2.2.2.1 σ.2.2.2.2.1 σ.2.2.2.2.2.1
theorem rG (n:Nat):ra tys (da Out (Ii n)) (ej n) n (aa Tryz.f88) 0:=⟨trivial,⟨⟨trivial,⟨cE n,⟨trivial,⟨⟨trivial,trivial⟩,⟨⟨trivial,⟨trivial,⟨trivial,trivial⟩⟩⟩,trivial⟩⟩⟩⟩⟩,⟨trivial,trivial⟩⟩⟩
theorem RH (n:Nat):Enters Tryz.prog 88:=enters_of (c:=aa Tryz.f88) Tryz.func88 (by kernel_rfl) (by kernel_rfl)
def dB (n:Nat):Entry:=⟨88,e8 w6 (.many (.pair (.int .i64) (.pair (.int .i64) .unit))) (fun xs=>Yj n xs.1 xs.2.1),none,none⟩
theorem iK (n:Nat):EntryOk Tryz.prog gl (dB n):=Ca (RH n) fun xs y h=>la tys_ok (wt n) mixed (hint:=ej n) (n:=n) Tryz.func88 (Va (rG n)) (pa (φ:=(fun y=>some (Out.ret (me (.many (.pair (.int .i64) (.pair (.int .i64) .unit))) y)))) (by kernel_rfl) (gM n xs.1 xs.2.1 _) h)
def Ms (n:Nat):List Entry:=dB n::Ii n
theorem Ft (n:Nat):AllOk Tryz.prog gl (Ms n):=.cons (iK n) (wt n)
def Fp (n:Nat) {R:Type} (s:U1) (c:T3) (tenant n0:Int) (k:Int→Option R):Option R:=if (decide (n0>(8192:Int)))=true then k (2:Int) else if 0≤tenant∧tenant<(c.1.n:Int) then (Yj n (s.1,(s.2.1,())) tenant).bind fun v=>if (decide ((IntKind.wrap .i64 (v.1+(1:Int)))>(((((c.1.at' (Int.toNat tenant))).2).2).1)))=false then (Mj n n0).bind fun v1=>if (decide ((IntKind.wrap .i64 (v.2.1+v1))>((((c.1.at' (Int.toNat tenant))).2).1)))=false then (Wf n (s.1,(s.2.1,()))).bind fun v2=>if (decide (v2≥(64:Int)))=true then k (5:Int) else k (0:Int) else k (5:Int) else k (5:Int) else none
def yh (n:Nat) (s:U1) (c:T3) (tenant n0:Int):Option Int:=Fp n s c tenant n0 some
theorem cM (n:Nat) {S:Type}:∀ s c tenant n0 (φ:_→Option S),(yh n s c tenant n0).bind φ=Fp n s c tenant n0 φ:=by
  intros;unfold yh Fp;first | (simp only [ia,ba,iB,bB,oL,oX,nB,Option.bind_some]) | rfl
def ov (n:Nat):Hint Out:={ live:=fun c=>[],run:=fun c=>none,xm:=fun c q=>none }
theorem lG (n:Nat):ra tys (da Out (Ms n)) (ov n) n (aa Tryz.f86) 0:=qa (fun _=>rfl) _ _ (by kernel_rfl)
theorem LH (n:Nat):Enters Tryz.prog 86:=enters_of (c:=aa Tryz.f86) Tryz.func86 (by kernel_rfl) (by kernel_rfl)
def YA (n:Nat):Entry:=⟨86,e8 x6 (.one (.int .i64)) (fun xs=>yh n xs.1 xs.2.1 xs.2.2.1 xs.2.2.2.1),none,none⟩
theorem cK (n:Nat):EntryOk Tryz.prog gl (YA n):=Ca (LH n) fun xs y h=>la tys_ok (Ft n) mixed (hint:=ov n) (n:=n) Tryz.func86 (Va (lG n)) (pa (φ:=(fun y=>some (Out.ret (me (.one (.int .i64)) y)))) (by kernel_rfl) (cM n xs.1 xs.2.1 xs.2.2.1 xs.2.2.2.1 _) h)
def Js (n:Nat):List Entry:=YA n::Ms n
theorem Dt (n:Nat):AllOk Tryz.prog gl (Js n):=.cons (cK n) (Ft n)
def Hp (n:Nat) {R:Type} (s:U1) (c:T3) (tenant n0:Int) (k:Int→Option R):Option R:=(aj n (s.1,(s.2.1,()))).bind fun v=>if (!v)=false then (ii n (c.1,(c.2.1,(c.2.2.1,(c.2.2.2.1,(c.2.2.2.2.1,(c.2.2.2.2.2.1,(c.2.2.2.2.2.2.1,(c.2.2.2.2.2.2.2.1,()))))))))).bind fun v1=>if (!v1)=false then if (decide (tenant<(0:Int)))=false then if (decide (tenant≥(c.1.n:Int)))=false then if (decide (n0<(0:Int)))=true then k (1:Int) else (yh n (s.1,(s.2.1,())) (c.1,(c.2.1,(c.2.2.1,(c.2.2.2.1,(c.2.2.2.2.1,(c.2.2.2.2.2.1,(c.2.2.2.2.2.2.1,(c.2.2.2.2.2.2.2.1,())))))))) tenant n0).bind fun v2=>k v2 else k (1:Int) else k (1:Int) else k (1:Int) else k (1:Int)
def si (n:Nat) (s:U1) (c:T3) (tenant n0:Int):Option Int:=Hp n s c tenant n0 some
theorem fM (n:Nat) {S:Type}:∀ s c tenant n0 (φ:_→Option S),(si n s c tenant n0).bind φ=Hp n s c tenant n0 φ:=by
  intros;unfold si Hp;first | (simp only [ia,ba,iB,bB,oL,oX,nB,Option.bind_some]) | rfl
def xv (n:Nat):Hint Out:={ live:=fun c=>[],run:=fun c=>none,xm:=fun c q=>none }
theorem pG (n:Nat):ra tys (da Out (Js n)) (xv n) n (aa Tryz.f39) 0:=qa (fun _=>rfl) _ _ (by kernel_rfl)
theorem QH (n:Nat):Enters Tryz.prog 39:=enters_of (c:=aa Tryz.f39) Tryz.func39 (by kernel_rfl) (by kernel_rfl)
def cB (n:Nat):Entry:=⟨39,e8 x6 (.one (.int .i64)) (fun xs=>si n xs.1 xs.2.1 xs.2.2.1 xs.2.2.2.1),none,none⟩
theorem gK (n:Nat):EntryOk Tryz.prog gl (cB n):=Ca (QH n) fun xs y h=>la tys_ok (Dt n) mixed (hint:=xv n) (n:=n) Tryz.func39 (Va (pG n)) (pa (φ:=(fun y=>some (Out.ret (me (.one (.int .i64)) y)))) (by kernel_rfl) (fM n xs.1 xs.2.1 xs.2.2.1 xs.2.2.2.1 _) h)
def Ls (n:Nat):List Entry:=cB n::Js n
theorem Et (n:Nat):AllOk Tryz.prog gl (Ls n):=.cons (gK n) (Dt n)
def rl (n:Nat) {R:Type} (e:Int) (k:Int→Option R):Option R:=k e
def Mb (n:Nat) (e:Int):Option Int:=rl n e some
theorem QD (n:Nat) {S:Type}:∀ e (φ:_→Option S),(Mb n e).bind φ=rl n e φ:=by
  intros;unfold Mb rl;first | (simp only [ia,ba,iB,bB,oL,oX,nB,Option.bind_some]) | rfl
def An (n:Nat):Hint Out:={ live:=fun c=>[],run:=fun c=>none,xm:=fun c q=>none }
theorem yy (n:Nat):ra tys (da Out (Ls n)) (An n) n (aa Tryz.f38) 0:=qa (fun _=>rfl) _ _ (by kernel_rfl)
theorem xA (n:Nat):Enters Tryz.prog 38:=enters_of (c:=aa Tryz.f38) Tryz.func38 (by kernel_rfl) (by kernel_rfl)
def jr (n:Nat):Entry:=⟨38,e8 (.pair (.int .i64) .unit) (.one (.int .i64)) (fun xs=>Mb n xs.1),none,none⟩
theorem kC (n:Nat):EntryOk Tryz.prog gl (jr n):=Ca (xA n) fun xs y h=>la tys_ok (Et n) mixed (hint:=An n) (n:=n) Tryz.func38 (Va (yy n)) (pa (φ:=(fun y=>some (Out.ret (me (.one (.int .i64)) y)))) (by kernel_rfl) (QD n xs.1 _) h)
def lr (n:Nat):List Entry:=jr n::Ls n
theorem Hw (n:Nat):AllOk Tryz.prog gl (lr n):=.cons (kC n) (Et n)
def yc (n:Nat):List Entry:=Ce::lr n
theorem Id (n:Nat):AllOk Tryz.prog gl (yc n):=.cons Wi (Hw n)
def Zv (n:Nat) {R:Type} (m0:T1) (k:T1→Option R):Option R:=(Zs 64 m0.2.2.2.2.1).bind fun v=>k (m0.1,(m0.2.1,(m0.2.2.1,((m0.2.2.2.1.1,(m0.2.2.2.1.2.1,())),(v.1,(m0.2.2.2.2.2.1,(m0.2.2.2.2.2.2.1,(m0.2.2.2.2.2.2.2.1,(m0.2.2.2.2.2.2.2.2.1,())))))))))
def gm (n:Nat) (m0:T1):Option T1:=Zv n m0 some
theorem fQ (n:Nat) {S:Type}:∀ m0 (φ:_→Option S),(gm n m0).bind φ=Zv n m0 φ:=by
  intros;unfold gm Zv;first | (simp only [ia,ba,iB,bB,oL,oX,nB,Option.bind_some]) | rfl
def qA (n:Nat):Hint Out:={ live:=fun c=>[],run:=fun c=>none,xm:=fun c q=>none }
theorem AJ (n:Nat):ra tys (da Out (yc n)) (qA n) n (aa Tryz.f90) 0:=qa (fun _=>rfl) _ _ (by kernel_rfl)
theorem GL (n:Nat):Enters Tryz.prog 90:=enters_of (c:=aa Tryz.f90) Tryz.func90 (by kernel_rfl) (by kernel_rfl)
def GF (n:Nat):Entry:=⟨90,e8 K2 (.one K1) (fun xs=>gm n xs.1),none,none⟩
theorem qN (n:Nat):EntryOk Tryz.prog gl (GF n):=Ca (GL n) fun xs y h=>la tys_ok (Id n) mixed (hint:=qA n) (n:=n) Tryz.func90 (Va (AJ n)) (pa (φ:=(fun y=>some (Out.ret (me (.one K1) y)))) (by kernel_rfl) (fQ n xs.1 _) h)
def HF (n:Nat):List Entry:=GF n::yc n
theorem rH (n:Nat):AllOk Tryz.prog gl (HF n):=.cons (qN n) (Id n)
def Ya (n:Nat):List Entry:=Be::HF n
theorem Hd (n:Nat):AllOk Tryz.prog gl (Ya n):=.cons Ui (rH n)
def gd (n:Nat) {R:Type} (t10 t11 s1 t2:Int) (r2:(Sq T1)) (kn:Int→Int→Int→Int→(Sq T1)→Option R) (ko:(Int×Int×(Sq T1))→Option R) (kr:Unit→Option R) (kp:Int→Option R):Option R:=if (decide (t11<t10))=true then if 0≤t11∧t11<(r2.n:Int) then V6 1 ((gm n (((r2.at' (Int.toNat t11))).1,((((r2.at' (Int.toNat t11))).2).1,(((((r2.at' (Int.toNat t11))).2).2).1,((((((((r2.at' (Int.toNat t11))).2).2).2).1).1,((((((((r2.at' (Int.toNat t11))).2).2).2).1).2).1,())),((((((((r2.at' (Int.toNat t11))).2).2).2).2).1),((((((((r2.at' (Int.toNat t11))).2).2).2).2).2).1,(((((((((r2.at' (Int.toNat t11))).2).2).2).2).2).2).1,((((((((((r2.at' (Int.toNat t11))).2).2).2).2).2).2).2).1,(((((((((((r2.at' (Int.toNat t11))).2).2).2).2).2).2).2).2).1,())))))))))).bind fun v1=>if 0≤t11∧t11<(r2.n:Int) then kn t10 (IntKind.wrap .i64 (t11+(1:Int))) s1 t2 (⟨r2.n,fun q=>if q=(Int.toNat t11)∧q<r2.n then (v1.1,(v1.2.1,(v1.2.2.1,((v1.2.2.2.1.1,(v1.2.2.2.1.2.1,())),(v1.2.2.2.2.1,(v1.2.2.2.2.2.1,(v1.2.2.2.2.2.2.1,(v1.2.2.2.2.2.2.2.1,(v1.2.2.2.2.2.2.2.2.1,()))))))))) else r2.at' q⟩:Sq T1) else none) else none else ko (s1,t2,r2)
def ab (n:Nat):Nat→Int→Int→Int→Int→(Sq T1)→Option (Lx (Int×Int×(Sq T1)) Unit)
 | 0,_,_,_,_,_=>none
 | m+1,t10,t11,s1,t2,r2=>gd n t10 t11 s1 t2 r2 (ab n m) (fun a=>some (.out a)) (fun a=>some (.ret a)) (fun p=>some (.pan p))
theorem AC (n m:Nat) {S:Type}:∀ t10 t11 s1 t2 r2 (φ:_→Option S),(ab n (m+1) t10 t11 s1 t2 r2).bind φ=gd n t10 t11 s1 t2 r2 (fun t10 t11 s1 t2 r2=>(ab n m t10 t11 s1 t2 r2).bind φ) (fun a=>φ (.out a)) (fun a=>φ (.ret a)) (fun p=>φ (.pan p)):=by
  intros;first | (simp only [ab,gd,ia,ba,iB,bB,oL,oX,nB,Option.bind_some]) | rfl
def cj:List Sl:=.top::.ptr 0 0 0::.ptr 1 0 0::tp 7 (.dat (.int .i64)::.dat (.int .i64)::tp 14 [])
def bj:List RS:=[.box 24 2 false [.dat (.int .i64),.row 2],.box 24 2 true [.dat (.int .i64),.cn .nils],.row 59 10 K1 true true,.ghost [.top]]
def Xt:List Sl:=.top::.ptr 0 0 0::.ptr 1 0 0::tp 23 []
def Wt:List RS:=[.box 24 2 false [.dat (.int .i64),.row 2],.box 24 2 true [.dat (.int .i64),.cn .nils],.row 59 10 K1 true true,.ghost [.top]]
def Qc (K:XE→List AV→ja→Option OutS):Lx (Int×Int×(Sq T1)) Unit→Option OutS:=fun x=>W7 x (fun a=>tj Xt Wt () ((a.1,()),((a.2.1,()),(a.2.2,((),())))) (K (.exit 0))) (fun _=>none) (fun _=>none)
def sg (n:Nat) {R:Type} (s:U1) (k:(Int×(Sq T1)×Unit)→Option R):Option R:=(Zs 112 s.2.1).bind fun v=>(ab n n (v.1.n:Int) (0:Int) s.1 (0:Int) v.1).bind fun x_1=>W7 x_1 (fun a_2=>k (a_2.1,(a_2.2.2,()))) (fun _=>none) (fun _=>none)
def ed (n:Nat) (s:U1):Option (Int×(Sq T1)×Unit):=sg n s some
theorem OH (n:Nat) {S:Type}:∀ s (φ:_→Option S),(ed n s).bind φ=sg n s φ:=by
  intros;unfold ed sg;first | (simp only [ia,ba,iB,bB,oL,oX,nB,Option.bind_some]) | rfl
def Ah (n:Nat):Hint OutS:={ live:=fun c=>(cond (Nat.beq c 0) (lv [1,2,10,11]) []),run:=fun c=>(cond (Nat.beq c 0) (some (Ds cj bj fun σ ρ K=>(ab n n σ.1 σ.2.1 ρ.1.1 ρ.2.1.1 ρ.2.2.1).bind (Qc K))) none),xm:=fun c q=>(cond (Nat.beq c 0&&Nat.beq (q.getD 1000000) 0&&q.isSome) (some [(1,none),(2,none)]) none),sch:=fun c=>(cond (Nat.beq c 5) (some [(0,0),(2,0),(3,0),(5,0),(4,1),(6,0),(7,1),(8,5),(1,7),(9,6),(10,2)]) none),pr:=[(0,1,59)] }
def zh (n:Nat) (K:XE→List AV→ja→Option OutS) (m:Nat) (t10:Int) (t11:Int) (s1:Int) (t2:Int) (r2:(Sq T1)):Option OutS:=Jg tys (da OutS (Ya n)).keep (Ah n) n (Ba [1,1,0,1,0,0] (aa Tryz.f94)) 0 cj bj K m (t10,(t11,())) ((s1,()),((t2,()),(r2,((),()))))
theorem Ar (n:Nat) (K:XE→List AV→ja→Option OutS):∀ (m:Nat) t10 t11 s1 t2 r2,zh n K m t10 t11 s1 t2 r2=(ab n m t10 t11 s1 t2 r2).bind (Qc K)
  | 0,_,_,_,_,_=>by kernel_rfl
  | m+1,t10,t11,s1,t2,r2=>by
    have h1:zh n K (m+1) t10 t11 s1 t2 r2=gd n t10 t11 s1 t2 r2 (zh n K m) (fun a=>Qc K (.out a)) (fun a=>Qc K (.ret a)) (fun p=>Qc K (.pan p)):=by kernel_rfl
    have h2:zh n K m=fun t10 t11 s1 t2 r2=>(ab n m t10 t11 s1 t2 r2).bind (Qc K):=by
      repeat (refine funext fun _=>?_)
      exact Ar n K m _ _ _ _ _
    rw [h1,h2];exact (AC n m _ _ _ _ _ (Qc K)).symm
theorem aB (n:Nat):dg tys (da OutS (Ya n)).keep (Ah n) n (Ba [1,1,0,1,0,0] (aa Tryz.f94)) 0:=Wa (sp:=cj) (rp:=bj) (by kernel_rfl) fun K σ ρ=>Ar n K n σ.1 σ.2.1 ρ.1.1 ρ.2.1.1 ρ.2.2.1
theorem BC (n:Nat):ra tys (da OutS (Ya n)).keep (Ah n) n (aa Tryz.f94) 0:=⟨trivial,⟨trivial,⟨⟨trivial,⟨aB n,⟨trivial,⟨⟨trivial,trivial⟩,⟨⟨trivial,trivial⟩,trivial⟩⟩⟩⟩⟩,⟨trivial,trivial⟩⟩⟩⟩
theorem ZD (n:Nat):Enters Tryz.prog 94:=enters_of (c:=aa Tryz.f94) Tryz.func94 (by kernel_rfl) (by kernel_rfl)
def tv:List RSp:=[.one (.dat K3)]
def sv:List RS:=[]
def aE:List Sl:=[.top]
def bE:List RSp:=[.agg [.dat (.int .i64),.row 0]]
def Uh:List RS:=[.row 59 10 K1 true true]
def Bq (y:(Int×(Sq T1)×Unit)):OutS:=⟨false,ru (Al Uh (y.2.1,())) aE (),BM (kL (Al Uh (y.2.1,())) bE ((y.1,()),())),aD (Al Uh (y.2.1,())) Uh (y.2.1,())⟩
theorem nG (n:Nat):EntryOk Tryz.prog gl ⟨94,Bt,none,some (R6 tv sv (fun σ ρ=>ed n σ.1.1) Bq)⟩:=ou (ZD n) fun σ ρ y h=>TM tys_ok (Hd n) mixed (hint:=Ah n) (n:=n) Tryz.func94 (Va (BC n)) (pa (φ:=fun y=>some (Bq y)) (by kernel_rfl) (OH n σ.1.1 _) h)
def oo (n:Nat):List Entry:=⟨94,Bt,none,some (R6 tv sv (fun σ ρ=>ed n σ.1.1) Bq)⟩::Ya n
theorem Gp (n:Nat):AllOk Tryz.prog gl (oo n):=.cons (nG n) (Hd n)
def Xj (n:Nat) {R:Type} (s:U1) (c:T3) (m0:T1) (k:(U1×Int×Unit)→Option R):Option R:=(gm n (m0.1,(m0.2.1,(m0.2.2.1,((m0.2.2.2.1.1,(m0.2.2.2.1.2.1,())),(m0.2.2.2.2.1,(m0.2.2.2.2.2.1,(m0.2.2.2.2.2.2.1,(m0.2.2.2.2.2.2.2.1,(m0.2.2.2.2.2.2.2.2.1,())))))))))).bind fun v=>(fm n ((1:Int),(v.2.1,(v.2.2.1,((v.2.2.2.1.1,(v.2.2.2.1.2.1,())),(v.2.2.2.2.1,(v.2.2.2.2.2.1,(v.2.2.2.2.2.2.1,(v.2.2.2.2.2.2.2.1,(v.2.2.2.2.2.2.2.2.1,())))))))))).bind fun v1=>if (!v1)=false then if (decide (v.2.1≥(c.1.n:Int)))=true then k (((0:Int),((⟨0,fun _=>Ea K1⟩:Sq T1),())),((1:Int),())) else if (s.1==(1099511627776:Int))=false then if ((s.2.1.n:Int)==(128:Int))=true then k (((0:Int),((⟨0,fun _=>Ea K1⟩:Sq T1),())),((5:Int),())) else if (!v.2.2.1)=true then (yh n (s.1,(s.2.1,())) (c.1,(c.2.1,(c.2.2.1,(c.2.2.2.1,(c.2.2.2.2.1,(c.2.2.2.2.2.1,(c.2.2.2.2.2.2.1,(c.2.2.2.2.2.2.2.1,())))))))) v.2.1 (v.2.2.2.2.2.1.size:Int)).bind fun v2=>if (v2 !=(0:Int))=true then k (((0:Int),((⟨0,fun _=>Ea K1⟩:Sq T1),())),(v2,())) else (ed n (s.1,(s.2.1,()))).bind fun v3=>VM (VM (V6 1 (if wc (v3.2.1.n+1) 112=true then k (((IntKind.wrap .i64 (v3.1+(1:Int))),((⟨(v3.2.1.n+1),fun q=>if q<v3.2.1.n then v3.2.1.at' q else (fun q=>List.getD (α:=T1) [(v3.1,(v.2.1,(v.2.2.1,((v.2.2.2.1.1,(v.2.2.2.1.2.1,())),(v.2.2.2.2.1,(v.2.2.2.2.2.1,(v.2.2.2.2.2.2.1,(v.2.2.2.2.2.2.2.1,(v.2.2.2.2.2.2.2.2.1,())))))))))] q (Ea K1)) (q - v3.2.1.n)⟩:Sq T1),())),((0:Int),()))
 else none)) (if wc (v3.2.1.n+1) 112=true then k (((IntKind.wrap .i64 (v3.1+(1:Int))),((⟨(v3.2.1.n+1),fun q=>if q<v3.2.1.n then v3.2.1.at' q else (fun q=>List.getD (α:=T1) [(v3.1,(v.2.1,(v.2.2.1,((v.2.2.2.1.1,(v.2.2.2.1.2.1,())),(v.2.2.2.2.1,(v.2.2.2.2.2.1,(v.2.2.2.2.2.2.1,(v.2.2.2.2.2.2.2.1,(v.2.2.2.2.2.2.2.2.1,())))))))))] q (Ea K1)) (q - v3.2.1.n)⟩:Sq T1),())),((0:Int),())) else none)) (VM (VM (V6 1 (if wc (v3.2.1.n+1) 112=true then k (((IntKind.wrap .i64 (v3.1+(1:Int))),((⟨(v3.2.1.n+1),fun q=>if q<v3.2.1.n then v3.2.1.at' q else (fun q=>List.getD (α:=T1) [(v3.1,(v.2.1,(v.2.2.1,((v.2.2.2.1.1,(v.2.2.2.1.2.1,())),(v.2.2.2.2.1,(v.2.2.2.2.2.1,(v.2.2.2.2.2.2.1,(v.2.2.2.2.2.2.2.1,(v.2.2.2.2.2.2.2.2.1,())))))))))] q (Ea K1)) (q - v3.2.1.n)⟩:Sq T1),())),((0:Int),())) else none)) (if wc (v3.2.1.n+1) 112=true then k (((IntKind.wrap .i64 (v3.1+(1:Int))),((⟨(v3.2.1.n+1),fun q=>if q<v3.2.1.n then v3.2.1.at' q else (fun q=>List.getD (α:=T1) [(v3.1,(v.2.1,(v.2.2.1,((v.2.2.2.1.1,(v.2.2.2.1.2.1,())),(v.2.2.2.2.1,(v.2.2.2.2.2.1,(v.2.2.2.2.2.2.1,(v.2.2.2.2.2.2.2.1,(v.2.2.2.2.2.2.2.2.1,())))))))))] q (Ea K1)) (q - v3.2.1.n)⟩:Sq T1),())),((0:Int),())) else none)) (V6 1 (if wc (v3.2.1.n+1) 112=true then k (((IntKind.wrap .i64 (v3.1+(1:Int))),((⟨(v3.2.1.n+1),fun q=>if q<v3.2.1.n then v3.2.1.at' q else (fun q=>List.getD (α:=T1) [(v3.1,(v.2.1,(v.2.2.1,((v.2.2.2.1.1,(v.2.2.2.1.2.1,())),(v.2.2.2.2.1,(v.2.2.2.2.2.1,(v.2.2.2.2.2.2.1,(v.2.2.2.2.2.2.2.1,(v.2.2.2.2.2.2.2.2.1,())))))))))] q (Ea K1)) (q - v3.2.1.n)⟩:Sq T1),())),((0:Int),()))
 else none))) else (ed n (s.1,(s.2.1,()))).bind fun v4=>VM (VM (V6 1 (if wc (v4.2.1.n+1) 112=true then k (((IntKind.wrap .i64 (v4.1+(1:Int))),((⟨(v4.2.1.n+1),fun q=>if q<v4.2.1.n then v4.2.1.at' q else (fun q=>List.getD (α:=T1) [(v4.1,(v.2.1,(v.2.2.1,((v.2.2.2.1.1,(v.2.2.2.1.2.1,())),(v.2.2.2.2.1,(v.2.2.2.2.2.1,(v.2.2.2.2.2.2.1,(v.2.2.2.2.2.2.2.1,(v.2.2.2.2.2.2.2.2.1,())))))))))] q (Ea K1)) (q - v4.2.1.n)⟩:Sq T1),())),((0:Int),())) else none)) (if wc (v4.2.1.n+1) 112=true then k (((IntKind.wrap .i64 (v4.1+(1:Int))),((⟨(v4.2.1.n+1),fun q=>if q<v4.2.1.n then v4.2.1.at' q else (fun q=>List.getD (α:=T1) [(v4.1,(v.2.1,(v.2.2.1,((v.2.2.2.1.1,(v.2.2.2.1.2.1,())),(v.2.2.2.2.1,(v.2.2.2.2.2.1,(v.2.2.2.2.2.2.1,(v.2.2.2.2.2.2.2.1,(v.2.2.2.2.2.2.2.2.1,())))))))))] q (Ea K1)) (q - v4.2.1.n)⟩:Sq T1),())),((0:Int),())) else none)) (VM (VM (V6 1 (if wc (v4.2.1.n+1) 112=true then k (((IntKind.wrap .i64 (v4.1+(1:Int))),((⟨(v4.2.1.n+1),fun q=>if q<v4.2.1.n then v4.2.1.at' q else (fun q=>List.getD (α:=T1) [(v4.1,(v.2.1,(v.2.2.1,((v.2.2.2.1.1,(v.2.2.2.1.2.1,())),(v.2.2.2.2.1,(v.2.2.2.2.2.1,(v.2.2.2.2.2.2.1,(v.2.2.2.2.2.2.2.1,(v.2.2.2.2.2.2.2.2.1,())))))))))] q (Ea K1)) (q - v4.2.1.n)⟩:Sq T1),())),((0:Int),())) else none)) (if wc (v4.2.1.n+1) 112=true then k (((IntKind.wrap .i64 (v4.1+(1:Int))),((⟨(v4.2.1.n+1),fun q=>if q<v4.2.1.n then v4.2.1.at' q else (fun q=>List.getD (α:=T1) [(v4.1,(v.2.1,(v.2.2.1,((v.2.2.2.1.1,(v.2.2.2.1.2.1,())),(v.2.2.2.2.1,(v.2.2.2.2.2.1,(v.2.2.2.2.2.2.1,(v.2.2.2.2.2.2.2.1,(v.2.2.2.2.2.2.2.2.1,())))))))))] q (Ea K1)) (q - v4.2.1.n)⟩:Sq T1),())),((0:Int),()))
 else none)) (V6 1 (if wc (v4.2.1.n+1) 112=true then k (((IntKind.wrap .i64 (v4.1+(1:Int))),((⟨(v4.2.1.n+1),fun q=>if q<v4.2.1.n then v4.2.1.at' q else (fun q=>List.getD (α:=T1) [(v4.1,(v.2.1,(v.2.2.1,((v.2.2.2.1.1,(v.2.2.2.1.2.1,())),(v.2.2.2.2.1,(v.2.2.2.2.2.1,(v.2.2.2.2.2.2.1,(v.2.2.2.2.2.2.2.1,(v.2.2.2.2.2.2.2.2.1,())))))))))] q (Ea K1)) (q - v4.2.1.n)⟩:Sq T1),())),((0:Int),())) else none))) else k (((0:Int),((⟨0,fun _=>Ea K1⟩:Sq T1),())),((5:Int),())) else k (((0:Int),((⟨0,fun _=>Ea K1⟩:Sq T1),())),((1:Int),()))
def dh (n:Nat) (s:U1) (c:T3) (m0:T1):Option (U1×Int×Unit):=Xj n s c m0 some
theorem QN (n:Nat) {S:Type}:∀ s c m0 (φ:_→Option S),(dh n s c m0).bind φ=Xj n s c m0 φ:=by
  intros;unfold dh Xj;first | (simp only [ia,ba,iB,bB,oL,oX,nB,Option.bind_some]) | rfl
def Ux (n:Nat):Hint Out:={ live:=fun c=>[],run:=fun c=>none,xm:=fun c q=>none,sch:=fun c=>(cond (Nat.beq c 13) (some [(0,0),(5,0),(2,1),(3,5),(1,7),(4,2),(6,7),(7,6),(8,6),(9,2),(10,6),(11,2)]) none) }
theorem PH (n:Nat):ra tys (da Out (oo n)) (Ux n) n (aa Tryz.f87) 0:=qa (fun _=>rfl) _ _ (by kernel_rfl)
theorem fK (n:Nat):Enters Tryz.prog 87:=enters_of (c:=aa Tryz.f87) Tryz.func87 (by kernel_rfl) (by kernel_rfl)
def oD (n:Nat):Entry:=⟨87,e8 y6 (.many w6) (fun xs=>dh n xs.1 xs.2.1 xs.2.2.1),none,none⟩
theorem eM (n:Nat):EntryOk Tryz.prog gl (oD n):=Ca (fK n) fun xs y h=>la tys_ok (Gp n) mixed (hint:=Ux n) (n:=n) Tryz.func87 (Va (PH n)) (pa (φ:=(fun y=>some (Out.ret (me (.many w6) y)))) (by kernel_rfl) (QN n xs.1 xs.2.1 xs.2.2.1 _) h)
def vv (n:Nat):List Entry:=oD n::oo n
theorem wv (n:Nat):AllOk Tryz.prog gl (vv n):=.cons (eM n) (Gp n)
def Wj (n:Nat) {R:Type} (s:U1) (c:T3) (m0:T1) (k:(U1×Int×Unit)→Option R):Option R:=(aj n (s.1,(s.2.1,()))).bind fun v=>if (!v)=false then (ii n (c.1,(c.2.1,(c.2.2.1,(c.2.2.2.1,(c.2.2.2.2.1,(c.2.2.2.2.2.1,(c.2.2.2.2.2.2.1,(c.2.2.2.2.2.2.2.1,()))))))))).bind fun v1=>if (!v1)=true then k (((0:Int),((⟨0,fun _=>Ea K1⟩:Sq T1),())),((1:Int),())) else (dh n (s.1,(s.2.1,())) (c.1,(c.2.1,(c.2.2.1,(c.2.2.2.1,(c.2.2.2.2.1,(c.2.2.2.2.2.1,(c.2.2.2.2.2.2.1,(c.2.2.2.2.2.2.2.1,())))))))) (m0.1,(m0.2.1,(m0.2.2.1,((m0.2.2.2.1.1,(m0.2.2.2.1.2.1,())),(m0.2.2.2.2.1,(m0.2.2.2.2.2.1,(m0.2.2.2.2.2.2.1,(m0.2.2.2.2.2.2.2.1,(m0.2.2.2.2.2.2.2.2.1,())))))))))).bind fun v2=>k ((v2.1.1,(v2.1.2.1,())),(v2.2.1,())) else k (((0:Int),((⟨0,fun _=>Ea K1⟩:Sq T1),())),((1:Int),()))
def ng (n:Nat) (s:U1) (c:T3) (m0:T1):Option (U1×Int×Unit):=Wj n s c m0 some
theorem ON (n:Nat) {S:Type}:∀ s c m0 (φ:_→Option S),(ng n s c m0).bind φ=Wj n s c m0 φ:=by
  intros;unfold ng Wj;first | (simp only [ia,ba,iB,bB,oL,oX,nB,Option.bind_some]) | rfl
def Sx (n:Nat):Hint Out:={ live:=fun c=>[],run:=fun c=>none,xm:=fun c q=>none }
theorem KH (n:Nat):ra tys (da Out (vv n)) (Sx n) n (aa Tryz.f40) 0:=qa (fun _=>rfl) _ _ (by kernel_rfl)
theorem bK (n:Nat):Enters Tryz.prog 40:=enters_of (c:=aa Tryz.f40) Tryz.func40 (by kernel_rfl) (by kernel_rfl)
def mD (n:Nat):Entry:=⟨40,e8 y6 (.many w6) (fun xs=>ng n xs.1 xs.2.1 xs.2.2.1),none,none⟩
theorem bM (n:Nat):EntryOk Tryz.prog gl (mD n):=Ca (bK n) fun xs y h=>la tys_ok (wv n) mixed (hint:=Sx n) (n:=n) Tryz.func40 (Va (KH n)) (pa (φ:=(fun y=>some (Out.ret (me (.many w6) y)))) (by kernel_rfl) (ON n xs.1 xs.2.1 xs.2.2.1 _) h)
def mv (n:Nat):List Entry:=mD n::vv n
theorem nv (n:Nat):AllOk Tryz.prog gl (mv n):=.cons (bM n) (wv n)
def Jp (n:Nat) {R:Type} (s:U1) (tenant:Int) (k:(Int×Int×Int×Unit)→Option R):Option R:=(aj n (s.1,(s.2.1,()))).bind fun v=>if (!v)=false then if (decide (tenant<(0:Int)))=false then if (decide (tenant≥(4:Int)))=true then k ((0:Int),((0:Int),((1:Int),()))) else (Yj n (s.1,(s.2.1,())) tenant).bind fun v1=>k (v1.1,(v1.2.1,((0:Int),()))) else k ((0:Int),((0:Int),((1:Int),()))) else k ((0:Int),((0:Int),((1:Int),())))
def ti (n:Nat) (s:U1) (tenant:Int):Option (Int×Int×Int×Unit):=Jp n s tenant some
theorem iM (n:Nat) {S:Type}:∀ s tenant (φ:_→Option S),(ti n s tenant).bind φ=Jp n s tenant φ:=by
  intros;unfold ti Jp;first | (simp only [ia,ba,iB,bB,oL,oX,nB,Option.bind_some]) | rfl
def zv (n:Nat):Hint Out:={ live:=fun c=>[],run:=fun c=>none,xm:=fun c q=>none }
theorem sG (n:Nat):ra tys (da Out (mv n)) (zv n) n (aa Tryz.f41) 0:=qa (fun _=>rfl) _ _ (by kernel_rfl)
theorem SH (n:Nat):Enters Tryz.prog 41:=enters_of (c:=aa Tryz.f41) Tryz.func41 (by kernel_rfl) (by kernel_rfl)
def fB (n:Nat):Entry:=⟨41,e8 w6 (.many (.pair (.int .i64) (.pair (.int .i64) (.pair (.int .i64) .unit)))) (fun xs=>ti n xs.1 xs.2.1),none,none⟩
theorem jK (n:Nat):EntryOk Tryz.prog gl (fB n):=Ca (SH n) fun xs y h=>la tys_ok (nv n) mixed (hint:=zv n) (n:=n) Tryz.func41 (Va (sG n)) (pa (φ:=(fun y=>some (Out.ret (me (.many (.pair (.int .i64) (.pair (.int .i64) (.pair (.int .i64) .unit)))) y)))) (by kernel_rfl) (iM n xs.1 xs.2.1 _) h)
def gB (n:Nat):List Entry:=fB n::mv n
theorem dE (n:Nat):AllOk Tryz.prog gl (gB n):=.cons (jK n) (nv n)
theorem Vr:Tryz.prog.funcs[116]?=some Tryz.f116:=by kernel_rfl
theorem Wr:EntryOk Tryz.prog gl ⟨116,Bt,some (.flat AB),none⟩:=mH Vr (by kernel_rfl) (by kernel_rfl) (by kernel_rfl) (by kernel_rfl)
def Cf (n:Nat):List Entry:=⟨116,Bt,some (.flat AB),none⟩::gB n
theorem Eh (n:Nat):AllOk Tryz.prog gl (Cf n):=.cons Wr (dE n)
def eC (n:Nat) {R:Type} (k:Nat→Option R):Option R:=k (Int.toNat (9221120237041090561:Int))
def wE (n:Nat):Option Nat:=eC n some
theorem gQ (n:Nat) {S:Type}:∀ (φ:_→Option S),(wE n).bind φ=eC n φ:=by
  intros;unfold wE eC;first | (simp only [ia,ba,iB,bB,oL,oX,nB,Option.bind_some]) | rfl
def vA (n:Nat):Hint Out:={ live:=fun c=>[],run:=fun c=>none,xm:=fun c q=>none }
theorem GJ (n:Nat):ra tys (da Out (Cf n)) (vA n) n (aa Tryz.f78) 0:=qa (fun _=>rfl) _ _ (by kernel_rfl)
theorem LL (n:Nat):Enters Tryz.prog 78:=enters_of (c:=aa Tryz.f78) Tryz.func78 (by kernel_rfl) (by kernel_rfl)
def MF (n:Nat):Entry:=⟨78,e8 .unit (.one (.flt .f64)) (fun xs=>wE n),none,none⟩
theorem tN (n:Nat):EntryOk Tryz.prog gl (MF n):=Ca (LL n) fun xs y h=>la tys_ok (Eh n) mixed (hint:=vA n) (n:=n) Tryz.func78 (Va (GJ n)) (pa (φ:=(fun y=>some (Out.ret (me (.one (.flt .f64)) y)))) (by kernel_rfl) (gQ n  _) h)
def wy (n:Nat):List Entry:=MF n::Cf n
theorem Ix (n:Nat):AllOk Tryz.prog gl (wy n):=.cons (tN n) (Eh n)
def lq (n:Nat) {R:Type} (k:T3→Option R):Option R:=(wE n).bind fun v=>k ((⟨1,fun q=>List.getD (α:=T2) [((⟨#[97]⟩:BA),((1048576:Int),((10:Int),((2000:Int),(((5:Int),((5:Int),((1:Int),((1:Int),((0:Int),()))))),(false,()))))))] q (Ea K6)⟩:Sq T2),((⟨#[104,46,120]⟩:BA),((0:Int),((100:Int),((⟨1,fun q=>List.getD (α:=Int) [(1:Int)] q (Ea (.int .i64))⟩:Sq Int),((2:Int),((0:Int),(v,()))))))))
def Jk (n:Nat):Option T3:=lq n some
theorem yH (n:Nat) {S:Type}:∀ (φ:_→Option S),(Jk n).bind φ=lq n φ:=by
  intros;unfold Jk lq;first | (simp only [ia,ba,iB,bB,oL,oX,nB,Option.bind_some]) | rfl
def gr (n:Nat):Hint Out:={ live:=fun c=>[],run:=fun c=>none,xm:=fun c q=>none }
theorem jC (n:Nat):ra tys (da Out (wy n)) (gr n) n (aa Tryz.f43) 0:=qa (fun _=>rfl) _ _ (by kernel_rfl)
theorem PD (n:Nat):Enters Tryz.prog 43:=enters_of (c:=aa Tryz.f43) Tryz.func43 (by kernel_rfl) (by kernel_rfl)
def Gu (n:Nat):Entry:=⟨43,e8 .unit (.one K7) (fun xs=>Jk n),none,none⟩
theorem TF (n:Nat):EntryOk Tryz.prog gl (Gu n):=Ca (PD n) fun xs y h=>la tys_ok (Ix n) mixed (hint:=gr n) (n:=n) Tryz.func43 (Va (jC n)) (pa (φ:=(fun y=>some (Out.ret (me (.one K7) y)))) (by kernel_rfl) (yH n  _) h)
def un (n:Nat):List Entry:=Gu n::wy n
theorem jp (n:Nat):AllOk Tryz.prog gl (un n):=.cons (TF n) (Ix n)
def xe (n:Nat) {R:Type} (k:Bool→Option R):Option R:=(Jk n).bind fun v=>(Sg n).bind fun v1=>(ng n ((1:Int),((⟨0,fun _=>Ea K1⟩:Sq T1),())) (v.1,(v.2.1,(v.2.2.1,(v.2.2.2.1,(v.2.2.2.2.1,(v.2.2.2.2.2.1,(v.2.2.2.2.2.2.1,(v.2.2.2.2.2.2.2.1,())))))))) (v1.1,(v1.2.1,(v1.2.2.1,((v1.2.2.2.1.1,(v1.2.2.2.1.2.1,())),(v1.2.2.2.2.1,(v1.2.2.2.2.2.1,(v1.2.2.2.2.2.2.1,(v1.2.2.2.2.2.2.2.1,(v1.2.2.2.2.2.2.2.2.1,())))))))))).bind fun v2=>(Mb n v2.2.1).bind fun v3=>if (v3==(0:Int))=true then if (v2.1.1==(2:Int))=true then if ((v2.1.2.1.n:Int)==(1:Int))=true then if 0≤(0:Int)∧(0:Int)<(v2.1.2.1.n:Int) then k ((((v2.1.2.1.at' (Int.toNat (0:Int)))).1)==(1:Int)) else none else k false else k false else k false
def sd (n:Nat):Option Bool:=xe n some
theorem yA (n:Nat) {S:Type}:∀ (φ:_→Option S),(sd n).bind φ=xe n φ:=by
  intros;unfold sd xe;first | (simp only [ia,ba,iB,bB,oL,oX,nB,Option.bind_some]) | rfl
def Lk (n:Nat):Hint Out:={ live:=fun c=>[],run:=fun c=>none,xm:=fun c q=>none }
theorem Ju (n:Nat):ra tys (da Out (un n)) (Lk n) n (aa Tryz.f42) 0:=qa (fun _=>rfl) _ _ (by kernel_rfl)
theorem Jw (n:Nat):Enters Tryz.prog 42:=enters_of (c:=aa Tryz.f42) Tryz.func42 (by kernel_rfl) (by kernel_rfl)
def Bn (n:Nat):Entry:=⟨42,e8 .unit (.one .bool) (fun xs=>sd n),none,none⟩
theorem zy (n:Nat):EntryOk Tryz.prog gl (Bn n):=Ca (Jw n) fun xs y h=>la tys_ok (jp n) mixed (hint:=Lk n) (n:=n) Tryz.func42 (Va (Ju n)) (pa (φ:=(fun y=>some (Out.ret (me (.one .bool) y)))) (by kernel_rfl) (yA n  _) h)
def Pc (n:Nat):List Entry:=Bn n::un n
theorem Lt (n:Nat):AllOk Tryz.prog gl (Pc n):=.cons (zy n) (jp n)
def Bb (n:Nat) {R:Type} (i1 n0 k0 p12:Int) (p13:(Sq T1)) (p14:(Sq T2)) (p15:BA) (p16 p17:Int) (p18:(Sq Int)) (p19 p20:Int) (p21:Nat) (p22:U0) (s2:Int) (s3:(Sq T1)) (m0 m01:Int) (m02:Bool) (m03 m04:BA) (m05:(Sq T0)) (m06:BA) (m07:Int) (m08 m09:Bool) (kn:Int→Int→Int→Int→(Sq T1)→(Sq T2)→BA→Int→Int→(Sq Int)→Int→Int→Nat→U0→Int→(Sq T1)→Int→Int→Bool→BA→BA→(Sq T0)→BA→Int→Bool→Bool→Option R) (ko:(Int×Int×(Sq T1)×(Sq T2)×BA×Int×Int×(Sq Int)×Int×Int×Nat×U0×Int×(Sq T1)×Int×Int×Bool×BA×BA×(Sq T0)×BA×Int×Bool×Bool)→Option R) (kr:Unit→Option R) (kp:Int→Option R):Option R:=if (decide (k0<n0))=true then if yo m06 (⟨#[48,49,50,51,52,53,54,55,56,57,48,49,50,13,10]⟩:BA)=true then kn i1 n0 (IntKind.wrap .i64 (k0+(1:Int))) p12 p13 p14 p15 p16 p17 p18 p19 p20 p21 p22 s2 s3 m0 m01 m02 m03 m04 m05 (m06++(⟨#[48,49,50,51,52,53,54,55,56,57,48,49,50,13,10]⟩:BA)) m07 m08 m09 else none else ko (i1,p12,p13,p14,p15,p16,p17,p18,p19,p20,p21,p22,s2,s3,m0,m01,m02,m03,m04,m05,m06,m07,m08,m09)
def ta (n:Nat):Nat→Int→Int→Int→Int→(Sq T1)→(Sq T2)→BA→Int→Int→(Sq Int)→Int→Int→Nat→U0→Int→(Sq T1)→Int→Int→Bool→BA→BA→(Sq T0)→BA→Int→Bool→Bool→Option (Lx (Int×Int×(Sq T1)×(Sq T2)×BA×Int×Int×(Sq Int)×Int×Int×Nat×U0×Int×(Sq T1)×Int×Int×Bool×BA×BA×(Sq T0)×BA×Int×Bool×Bool) Unit)
 | 0,_,_,_,_,_,_,_,_,_,_,_,_,_,_,_,_,_,_,_,_,_,_,_,_,_,_=>none
 | m+1,i1,n0,k0,p12,p13,p14,p15,p16,p17,p18,p19,p20,p21,p22,s2,s3,m0,m01,m02,m03,m04,m05,m06,m07,m08,m09=>Bb n i1 n0 k0 p12 p13 p14 p15 p16 p17 p18 p19 p20 p21 p22 s2 s3 m0 m01 m02 m03 m04 m05 m06 m07 m08 m09 (ta n m) (fun a=>some (.out a)) (fun a=>some (.ret a)) (fun p=>some (.pan p))
theorem xn (n m:Nat) {S:Type}:∀ i1 n0 k0 p12 p13 p14 p15 p16 p17 p18 p19 p20 p21 p22 s2 s3 m0 m01 m02 m03 m04 m05 m06 m07 m08 m09 (φ:_→Option S),(ta n (m+1) i1 n0 k0 p12 p13 p14 p15 p16 p17 p18 p19 p20 p21 p22 s2 s3 m0 m01 m02 m03 m04 m05 m06 m07 m08 m09).bind φ=Bb n i1 n0 k0 p12 p13 p14 p15 p16 p17 p18 p19 p20 p21 p22 s2 s3 m0 m01 m02 m03 m04 m05 m06 m07 m08 m09 (fun i1 n0 k0 p12 p13 p14 p15 p16 p17 p18 p19 p20 p21 p22 s2 s3 m0 m01 m02 m03 m04 m05 m06 m07 m08 m09=>(ta n m i1 n0 k0 p12 p13 p14 p15 p16 p17 p18 p19 p20 p21 p22 s2 s3 m0 m01 m02 m03 m04 m05 m06 m07 m08 m09).bind φ) (fun a=>φ (.out a)) (fun a=>φ (.ret a)) (fun p=>φ (.pan p)):=by
  intros;first | (simp only [ta,Bb,ia,ba,iB,bB,oL,oX,nB,Option.bind_some]) | rfl
def Cd:List Sl:=.top::.ptr 0 0 0::.top::.ptr 1 0 0::.dat (.int .i64)::.ptr 2 0 0::.dat (.int .i64)::.dat (.int .i64)::tp 165 []
def Bd:List RS:=[.box 77 11 true [.dat (.int .i64),.dat (.sl K1),.dat (.sl K6),.dat .str,.dat (.int .i64),.dat (.int .i64),.dat (.sl (.int .i64)),.dat (.int .i64),.dat (.int .i64),.dat (.flt .f64),.dat (.sl K9)],.box 24 2 true [.dat (.int .i64),.dat (.sl K1)],.box 59 10 true [.dat (.int .i64),.dat (.int .i64),.dat .bool,.dat .str,.dat .str,.dat (.sl K0),.dat .str,.dat (.int .i64),.dat .bool,.dat .bool]]
def rj:List Sl:=.top::.ptr 0 0 0::.top::.ptr 1 0 0::.dat (.int .i64)::.ptr 2 0 0::tp 167 []
def qj:List RS:=[.box 77 11 true [.dat (.int .i64),.dat (.sl K1),.dat (.sl K6),.dat .str,.dat (.int .i64),.dat (.int .i64),.dat (.sl (.int .i64)),.dat (.int .i64),.dat (.int .i64),.dat (.flt .f64),.dat (.sl K9)],.box 24 2 true [.dat (.int .i64),.dat (.sl K1)],.box 59 10 true [.dat (.int .i64),.dat (.int .i64),.dat .bool,.dat .str,.dat .str,.dat (.sl K0),.dat .str,.dat (.int .i64),.dat .bool,.dat .bool]]
def Ra (K:XE→List AV→ja→Option Out):Lx (Int×Int×(Sq T1)×(Sq T2)×BA×Int×Int×(Sq Int)×Int×Int×Nat×U0×Int×(Sq T1)×Int×Int×Bool×BA×BA×(Sq T0)×BA×Int×Bool×Bool) Unit→Option Out:=fun x=>W7 x (fun a=>tj rj qj (a.1,()) ((a.2.1,(a.2.2.1,(a.2.2.2.1,(a.2.2.2.2.1,(a.2.2.2.2.2.1,(a.2.2.2.2.2.2.1,(a.2.2.2.2.2.2.2.1,(a.2.2.2.2.2.2.2.2.1,(a.2.2.2.2.2.2.2.2.2.1,(a.2.2.2.2.2.2.2.2.2.2.1,(a.2.2.2.2.2.2.2.2.2.2.2.1,()))))))))))),((a.2.2.2.2.2.2.2.2.2.2.2.2.1,(a.2.2.2.2.2.2.2.2.2.2.2.2.2.1,())),((a.2.2.2.2.2.2.2.2.2.2.2.2.2.2.1,(a.2.2.2.2.2.2.2.2.2.2.2.2.2.2.2.1,(a.2.2.2.2.2.2.2.2.2.2.2.2.2.2.2.2.1,(a.2.2.2.2.2.2.2.2.2.2.2.2.2.2.2.2.2.1,(a.2.2.2.2.2.2.2.2.2.2.2.2.2.2.2.2.2.2.1,(a.2.2.2.2.2.2.2.2.2.2.2.2.2.2.2.2.2.2.2.1,(a.2.2.2.2.2.2.2.2.2.2.2.2.2.2.2.2.2.2.2.2.1,(a.2.2.2.2.2.2.2.2.2.2.2.2.2.2.2.2.2.2.2.2.2.1,(a.2.2.2.2.2.2.2.2.2.2.2.2.2.2.2.2.2.2.2.2.2.2.1,(a.2.2.2.2.2.2.2.2.2.2.2.2.2.2.2.2.2.2.2.2.2.2.2,())))))))))),()))) (K (.exit 2))) (fun _=>none) (fun _=>none)
def Ub (n:Nat) {R:Type} (i p1:Int) (p2:(Sq T1)) (p3:(Sq T2)) (p4:BA) (p5 p6:Int) (p7:(Sq Int)) (p8 p9:Int) (p10:Nat) (p11:U0) (s:Int) (s1:(Sq T1)) (kn:Int→Int→(Sq T1)→(Sq T2)→BA→Int→Int→(Sq Int)→Int→Int→Nat→U0→Int→(Sq T1)→Option R) (ko:(Unit)→Option R) (kr:(Bool)→Option R) (kp:Int→Option R):Option R:=if (decide (i<(p11.n:Int)))=true then if (decide (i<(40:Int)))=true then (Sg n).bind fun v2=>if 0≤i∧i<(p11.n:Int) then (Yk n (((((p11.at' (Int.toNat i))).2).2).1) (p3.n:Int)).bind fun v3=>if 0≤i∧i<(p11.n:Int) then (Yk n ((((p11.at' (Int.toNat i))).2).1) (5:Int)).bind fun v4=>(ta n n i (IntKind.wrap .i64 (v4*(8:Int))) (0:Int) p1 p2 p3 p4 p5 p6 p7 p8 p9 p10 p11 s s1 v2.1 v3 v2.2.2.1 v2.2.2.2.1.1 v2.2.2.2.1.2.1 v2.2.2.2.2.1 v2.2.2.2.2.2.1 v2.2.2.2.2.2.2.1 v2.2.2.2.2.2.2.2.1 v2.2.2.2.2.2.2.2.2.1).bind fun x_1=>W7 x_1 (fun a_2=>(si n (a_2.2.2.2.2.2.2.2.2.2.2.2.2.1,(a_2.2.2.2.2.2.2.2.2.2.2.2.2.2.1,())) (a_2.2.2.2.1,(a_2.2.2.2.2.1,(a_2.2.2.2.2.2.1,(a_2.2.2.2.2.2.2.1,(a_2.2.2.2.2.2.2.2.1,(a_2.2.2.2.2.2.2.2.2.1,(a_2.2.2.2.2.2.2.2.2.2.1,(a_2.2.2.2.2.2.2.2.2.2.2.1,())))))))) a_2.2.2.2.2.2.2.2.2.2.2.2.2.2.2.2.1 (a_2.2.2.2.2.2.2.2.2.2.2.2.2.2.2.2.2.2.2.2.2.1.size:Int)).bind fun v5=>
 (Mb n v5).bind fun v6=>(ng n (a_2.2.2.2.2.2.2.2.2.2.2.2.2.1,(a_2.2.2.2.2.2.2.2.2.2.2.2.2.2.1,())) (a_2.2.2.2.1,(a_2.2.2.2.2.1,(a_2.2.2.2.2.2.1,(a_2.2.2.2.2.2.2.1,(a_2.2.2.2.2.2.2.2.1,(a_2.2.2.2.2.2.2.2.2.1,(a_2.2.2.2.2.2.2.2.2.2.1,(a_2.2.2.2.2.2.2.2.2.2.2.1,())))))))) (a_2.2.2.2.2.2.2.2.2.2.2.2.2.2.2.1,(a_2.2.2.2.2.2.2.2.2.2.2.2.2.2.2.2.1,(a_2.2.2.2.2.2.2.2.2.2.2.2.2.2.2.2.2.1,((a_2.2.2.2.2.2.2.2.2.2.2.2.2.2.2.2.2.2.1,(a_2.2.2.2.2.2.2.2.2.2.2.2.2.2.2.2.2.2.2.1,())),(a_2.2.2.2.2.2.2.2.2.2.2.2.2.2.2.2.2.2.2.2.1,(a_2.2.2.2.2.2.2.2.2.2.2.2.2.2.2.2.2.2.2.2.2.1,(a_2.2.2.2.2.2.2.2.2.2.2.2.2.2.2.2.2.2.2.2.2.2.1,(a_2.2.2.2.2.2.2.2.2.2.2.2.2.2.2.2.2.2.2.2.2.2.2.1,(a_2.2.2.2.2.2.2.2.2.2.2.2.2.2.2.2.2.2.2.2.2.2.2.2,())))))))))).bind fun v7=>(Mb n v7.2.1).bind fun v8=>if (v8 !=v6)=false then if (v6 !=(0:Int))=true then if (v6 !=(5:Int))=true then kr false else if 0≤a_2.2.2.2.2.2.2.2.2.2.2.2.2.2.2.2.1∧a_2.2.2.2.2.2.2.2.2.2.2.2.2.2.2.2.1<(a_2.2.2.2.1.n:Int) then (ti n (a_2.2.2.2.2.2.2.2.2.2.2.2.2.1,(a_2.2.2.2.2.2.2.2.2.2.2.2.2.2.1,())) a_2.2.2.2.2.2.2.2.2.2.2.2.2.2.2.2.1).bind fun v9=>(Mb n v9.2.2.1).bind fun v10=>if (v10 !=(0:Int))=false then if (decide ((IntKind.wrap .i64 (v9.1+(1:Int)))≤(((((a_2.2.2.2.1.at' (Int.toNat a_2.2.2.2.2.2.2.2.2.2.2.2.2.2.2.2.1))).2).2).1)))=true then if (decide ((IntKind.wrap .i64 ((IntKind.wrap .i64 (v9.2.1+(a_2.2.2.2.2.2.2.2.2.2.2.2.2.2.2.2.2.2.2.2.2.1.size:Int)))+(1000:Int)))≤((((a_2.2.2.2.1.at' (Int.toNat a_2.2.2.2.2.2.2.2.2.2.2.2.2.2.2.2.1))).2).1)))=true then
 if (!((v6==(0:Int))==(decide ((a_2.2.2.2.2.2.2.2.2.2.2.2.2.2.1.n:Int)<(64:Int)))))=true then kr false else if (v6==(0:Int))=true then if (v7.1.1 !=(IntKind.wrap .i64 (a_2.2.2.2.2.2.2.2.2.2.2.2.2.1+(1:Int))))=false then if ((v7.1.2.1.n:Int) !=(IntKind.wrap .i64 ((a_2.2.2.2.2.2.2.2.2.2.2.2.2.2.1.n:Int)+(1:Int))))=false then if 0≤(a_2.2.2.2.2.2.2.2.2.2.2.2.2.2.1.n:Int)∧(a_2.2.2.2.2.2.2.2.2.2.2.2.2.2.1.n:Int)<(v7.1.2.1.n:Int) then if ((((v7.1.2.1.at' (Int.toNat (a_2.2.2.2.2.2.2.2.2.2.2.2.2.2.1.n:Int)))).1) !=a_2.2.2.2.2.2.2.2.2.2.2.2.2.1)=true then kr false else kn (IntKind.wrap .i64 (a_2.1+(1:Int))) a_2.2.1 a_2.2.2.1 a_2.2.2.2.1 a_2.2.2.2.2.1 a_2.2.2.2.2.2.1 a_2.2.2.2.2.2.2.1 a_2.2.2.2.2.2.2.2.1 a_2.2.2.2.2.2.2.2.2.1 a_2.2.2.2.2.2.2.2.2.2.1 a_2.2.2.2.2.2.2.2.2.2.2.1 a_2.2.2.2.2.2.2.2.2.2.2.2.1 v7.1.1 v7.1.2.1 else none else kr false else kr false else kn (IntKind.wrap .i64 (a_2.1+(1:Int))) a_2.2.1 a_2.2.2.1 a_2.2.2.2.1 a_2.2.2.2.2.1 a_2.2.2.2.2.2.1 a_2.2.2.2.2.2.2.1 a_2.2.2.2.2.2.2.2.1 a_2.2.2.2.2.2.2.2.2.1 a_2.2.2.2.2.2.2.2.2.2.1 a_2.2.2.2.2.2.2.2.2.2.2.1 a_2.2.2.2.2.2.2.2.2.2.2.2.1 a_2.2.2.2.2.2.2.2.2.2.2.2.2.1 a_2.2.2.2.2.2.2.2.2.2.2.2.2.2.1 else if (!((v6==(0:Int))==false))=true then kr false else if (v6==(0:Int))=true then if (v7.1.1 !=(IntKind.wrap .i64 (a_2.2.2.2.2.2.2.2.2.2.2.2.2.1+(1:Int))))=false then if ((v7.1.2.1.n:Int) !=(IntKind.wrap .i64 ((a_2.2.2.2.2.2.2.2.2.2.2.2.2.2.1.n:Int)+(1:Int))))=false then
 if 0≤(a_2.2.2.2.2.2.2.2.2.2.2.2.2.2.1.n:Int)∧(a_2.2.2.2.2.2.2.2.2.2.2.2.2.2.1.n:Int)<(v7.1.2.1.n:Int) then if ((((v7.1.2.1.at' (Int.toNat (a_2.2.2.2.2.2.2.2.2.2.2.2.2.2.1.n:Int)))).1) !=a_2.2.2.2.2.2.2.2.2.2.2.2.2.1)=true then kr false else kn (IntKind.wrap .i64 (a_2.1+(1:Int))) a_2.2.1 a_2.2.2.1 a_2.2.2.2.1 a_2.2.2.2.2.1 a_2.2.2.2.2.2.1 a_2.2.2.2.2.2.2.1 a_2.2.2.2.2.2.2.2.1 a_2.2.2.2.2.2.2.2.2.1 a_2.2.2.2.2.2.2.2.2.2.1 a_2.2.2.2.2.2.2.2.2.2.2.1 a_2.2.2.2.2.2.2.2.2.2.2.2.1 v7.1.1 v7.1.2.1 else none else kr false else kr false else kn (IntKind.wrap .i64 (a_2.1+(1:Int))) a_2.2.1 a_2.2.2.1 a_2.2.2.2.1 a_2.2.2.2.2.1 a_2.2.2.2.2.2.1 a_2.2.2.2.2.2.2.1 a_2.2.2.2.2.2.2.2.1 a_2.2.2.2.2.2.2.2.2.1 a_2.2.2.2.2.2.2.2.2.2.1 a_2.2.2.2.2.2.2.2.2.2.2.1 a_2.2.2.2.2.2.2.2.2.2.2.2.1 a_2.2.2.2.2.2.2.2.2.2.2.2.2.1 a_2.2.2.2.2.2.2.2.2.2.2.2.2.2.1 else if (!((v6==(0:Int))==false))=true then kr false else if (v6==(0:Int))=true then if (v7.1.1 !=(IntKind.wrap .i64 (a_2.2.2.2.2.2.2.2.2.2.2.2.2.1+(1:Int))))=false then if ((v7.1.2.1.n:Int) !=(IntKind.wrap .i64 ((a_2.2.2.2.2.2.2.2.2.2.2.2.2.2.1.n:Int)+(1:Int))))=false then if 0≤(a_2.2.2.2.2.2.2.2.2.2.2.2.2.2.1.n:Int)∧(a_2.2.2.2.2.2.2.2.2.2.2.2.2.2.1.n:Int)<(v7.1.2.1.n:Int) then if ((((v7.1.2.1.at' (Int.toNat (a_2.2.2.2.2.2.2.2.2.2.2.2.2.2.1.n:Int)))).1) !=a_2.2.2.2.2.2.2.2.2.2.2.2.2.1)=true then kr false else kn (IntKind.wrap .i64 (a_2.1+(1:Int))) a_2.2.1 a_2.2.2.1 a_2.2.2.2.1 a_2.2.2.2.2.1 a_2.2.2.2.2.2.1 a_2.2.2.2.2.2.2.1 a_2.2.2.2.2.2.2.2.1 a_2.2.2.2.2.2.2.2.2.1 a_2.2.2.2.2.2.2.2.2.2.1 a_2.2.2.2.2.2.2.2.2.2.2.1 a_2.2.2.2.2.2.2.2.2.2.2.2.1 v7.1.1 v7.1.2.1
 else none else kr false else kr false else kn (IntKind.wrap .i64 (a_2.1+(1:Int))) a_2.2.1 a_2.2.2.1 a_2.2.2.2.1 a_2.2.2.2.2.1 a_2.2.2.2.2.2.1 a_2.2.2.2.2.2.2.1 a_2.2.2.2.2.2.2.2.1 a_2.2.2.2.2.2.2.2.2.1 a_2.2.2.2.2.2.2.2.2.2.1 a_2.2.2.2.2.2.2.2.2.2.2.1 a_2.2.2.2.2.2.2.2.2.2.2.2.1 a_2.2.2.2.2.2.2.2.2.2.2.2.2.1 a_2.2.2.2.2.2.2.2.2.2.2.2.2.2.1 else kr false else none else if 0≤a_2.2.2.2.2.2.2.2.2.2.2.2.2.2.2.2.1∧a_2.2.2.2.2.2.2.2.2.2.2.2.2.2.2.2.1<(a_2.2.2.2.1.n:Int) then (ti n (a_2.2.2.2.2.2.2.2.2.2.2.2.2.1,(a_2.2.2.2.2.2.2.2.2.2.2.2.2.2.1,())) a_2.2.2.2.2.2.2.2.2.2.2.2.2.2.2.2.1).bind fun v11=>(Mb n v11.2.2.1).bind fun v12=>if (v12 !=(0:Int))=false then if (decide ((IntKind.wrap .i64 (v11.1+(1:Int)))≤(((((a_2.2.2.2.1.at' (Int.toNat a_2.2.2.2.2.2.2.2.2.2.2.2.2.2.2.2.1))).2).2).1)))=true then if (decide ((IntKind.wrap .i64 ((IntKind.wrap .i64 (v11.2.1+(a_2.2.2.2.2.2.2.2.2.2.2.2.2.2.2.2.2.2.2.2.2.1.size:Int)))+(1000:Int)))≤((((a_2.2.2.2.1.at' (Int.toNat a_2.2.2.2.2.2.2.2.2.2.2.2.2.2.2.2.1))).2).1)))=true then if (!((v6==(0:Int))==(decide ((a_2.2.2.2.2.2.2.2.2.2.2.2.2.2.1.n:Int)<(64:Int)))))=true then kr false else if (v6==(0:Int))=true then if (v7.1.1 !=(IntKind.wrap .i64 (a_2.2.2.2.2.2.2.2.2.2.2.2.2.1+(1:Int))))=false then if ((v7.1.2.1.n:Int) !=(IntKind.wrap .i64 ((a_2.2.2.2.2.2.2.2.2.2.2.2.2.2.1.n:Int)+(1:Int))))=false then if 0≤(a_2.2.2.2.2.2.2.2.2.2.2.2.2.2.1.n:Int)∧(a_2.2.2.2.2.2.2.2.2.2.2.2.2.2.1.n:Int)<(v7.1.2.1.n:Int) then
 if ((((v7.1.2.1.at' (Int.toNat (a_2.2.2.2.2.2.2.2.2.2.2.2.2.2.1.n:Int)))).1) !=a_2.2.2.2.2.2.2.2.2.2.2.2.2.1)=true then kr false else kn (IntKind.wrap .i64 (a_2.1+(1:Int))) a_2.2.1 a_2.2.2.1 a_2.2.2.2.1 a_2.2.2.2.2.1 a_2.2.2.2.2.2.1 a_2.2.2.2.2.2.2.1 a_2.2.2.2.2.2.2.2.1 a_2.2.2.2.2.2.2.2.2.1 a_2.2.2.2.2.2.2.2.2.2.1 a_2.2.2.2.2.2.2.2.2.2.2.1 a_2.2.2.2.2.2.2.2.2.2.2.2.1 v7.1.1 v7.1.2.1 else none else kr false else kr false else kn (IntKind.wrap .i64 (a_2.1+(1:Int))) a_2.2.1 a_2.2.2.1 a_2.2.2.2.1 a_2.2.2.2.2.1 a_2.2.2.2.2.2.1 a_2.2.2.2.2.2.2.1 a_2.2.2.2.2.2.2.2.1 a_2.2.2.2.2.2.2.2.2.1 a_2.2.2.2.2.2.2.2.2.2.1 a_2.2.2.2.2.2.2.2.2.2.2.1 a_2.2.2.2.2.2.2.2.2.2.2.2.1 a_2.2.2.2.2.2.2.2.2.2.2.2.2.1 a_2.2.2.2.2.2.2.2.2.2.2.2.2.2.1 else if (!((v6==(0:Int))==false))=true then kr false else if (v6==(0:Int))=true then if (v7.1.1 !=(IntKind.wrap .i64 (a_2.2.2.2.2.2.2.2.2.2.2.2.2.1+(1:Int))))=false then if ((v7.1.2.1.n:Int) !=(IntKind.wrap .i64 ((a_2.2.2.2.2.2.2.2.2.2.2.2.2.2.1.n:Int)+(1:Int))))=false then if 0≤(a_2.2.2.2.2.2.2.2.2.2.2.2.2.2.1.n:Int)∧(a_2.2.2.2.2.2.2.2.2.2.2.2.2.2.1.n:Int)<(v7.1.2.1.n:Int) then if ((((v7.1.2.1.at' (Int.toNat (a_2.2.2.2.2.2.2.2.2.2.2.2.2.2.1.n:Int)))).1) !=a_2.2.2.2.2.2.2.2.2.2.2.2.2.1)=true then kr false else kn (IntKind.wrap .i64 (a_2.1+(1:Int))) a_2.2.1 a_2.2.2.1 a_2.2.2.2.1 a_2.2.2.2.2.1 a_2.2.2.2.2.2.1 a_2.2.2.2.2.2.2.1 a_2.2.2.2.2.2.2.2.1 a_2.2.2.2.2.2.2.2.2.1 a_2.2.2.2.2.2.2.2.2.2.1 a_2.2.2.2.2.2.2.2.2.2.2.1 a_2.2.2.2.2.2.2.2.2.2.2.2.1 v7.1.1 v7.1.2.1
 else none else kr false else kr false else kn (IntKind.wrap .i64 (a_2.1+(1:Int))) a_2.2.1 a_2.2.2.1 a_2.2.2.2.1 a_2.2.2.2.2.1 a_2.2.2.2.2.2.1 a_2.2.2.2.2.2.2.1 a_2.2.2.2.2.2.2.2.1 a_2.2.2.2.2.2.2.2.2.1 a_2.2.2.2.2.2.2.2.2.2.1 a_2.2.2.2.2.2.2.2.2.2.2.1 a_2.2.2.2.2.2.2.2.2.2.2.2.1 a_2.2.2.2.2.2.2.2.2.2.2.2.2.1 a_2.2.2.2.2.2.2.2.2.2.2.2.2.2.1 else if (!((v6==(0:Int))==false))=true then kr false else if (v6==(0:Int))=true then if (v7.1.1 !=(IntKind.wrap .i64 (a_2.2.2.2.2.2.2.2.2.2.2.2.2.1+(1:Int))))=false then if ((v7.1.2.1.n:Int) !=(IntKind.wrap .i64 ((a_2.2.2.2.2.2.2.2.2.2.2.2.2.2.1.n:Int)+(1:Int))))=false then if 0≤(a_2.2.2.2.2.2.2.2.2.2.2.2.2.2.1.n:Int)∧(a_2.2.2.2.2.2.2.2.2.2.2.2.2.2.1.n:Int)<(v7.1.2.1.n:Int) then if ((((v7.1.2.1.at' (Int.toNat (a_2.2.2.2.2.2.2.2.2.2.2.2.2.2.1.n:Int)))).1) !=a_2.2.2.2.2.2.2.2.2.2.2.2.2.1)=true then kr false else kn (IntKind.wrap .i64 (a_2.1+(1:Int))) a_2.2.1 a_2.2.2.1 a_2.2.2.2.1 a_2.2.2.2.2.1 a_2.2.2.2.2.2.1 a_2.2.2.2.2.2.2.1 a_2.2.2.2.2.2.2.2.1 a_2.2.2.2.2.2.2.2.2.1 a_2.2.2.2.2.2.2.2.2.2.1 a_2.2.2.2.2.2.2.2.2.2.2.1 a_2.2.2.2.2.2.2.2.2.2.2.2.1 v7.1.1 v7.1.2.1 else none else kr false else kr false else kn (IntKind.wrap .i64 (a_2.1+(1:Int))) a_2.2.1 a_2.2.2.1 a_2.2.2.2.1 a_2.2.2.2.2.1 a_2.2.2.2.2.2.1 a_2.2.2.2.2.2.2.1 a_2.2.2.2.2.2.2.2.1 a_2.2.2.2.2.2.2.2.2.1 a_2.2.2.2.2.2.2.2.2.2.1 a_2.2.2.2.2.2.2.2.2.2.2.1 a_2.2.2.2.2.2.2.2.2.2.2.2.1 a_2.2.2.2.2.2.2.2.2.2.2.2.2.1 a_2.2.2.2.2.2.2.2.2.2.2.2.2.2.1
 else kr false else none else kr false) (fun _=>none) (fun _=>none) else none else none else ko () else ko ()
def ua (n:Nat):Nat→Int→Int→(Sq T1)→(Sq T2)→BA→Int→Int→(Sq Int)→Int→Int→Nat→U0→Int→(Sq T1)→Option (Lx (Unit) (Bool))
 | 0,_,_,_,_,_,_,_,_,_,_,_,_,_,_=>none
 | m+1,i,p1,p2,p3,p4,p5,p6,p7,p8,p9,p10,p11,s,s1=>Ub n i p1 p2 p3 p4 p5 p6 p7 p8 p9 p10 p11 s s1 (ua n m) (fun a=>some (.out a)) (fun a=>some (.ret a)) (fun p=>some (.pan p))
theorem vn (n m:Nat) {S:Type}:∀ i p1 p2 p3 p4 p5 p6 p7 p8 p9 p10 p11 s s1 (φ:_→Option S),(ua n (m+1) i p1 p2 p3 p4 p5 p6 p7 p8 p9 p10 p11 s s1).bind φ=Ub n i p1 p2 p3 p4 p5 p6 p7 p8 p9 p10 p11 s s1 (fun i p1 p2 p3 p4 p5 p6 p7 p8 p9 p10 p11 s s1=>(ua n m i p1 p2 p3 p4 p5 p6 p7 p8 p9 p10 p11 s s1).bind φ) (fun a=>φ (.out a)) (fun a=>φ (.ret a)) (fun p=>φ (.pan p)):=by
  intros;first | (simp only [ua,Ub,ia,ba,iB,bB,oL,oX,nB,Option.bind_some]) | rfl
def Ad:List Sl:=.top::.ptr 0 0 0::.top::.ptr 1 0 0::.dat (.int .i64)::tp 168 []
def zd:List RS:=[.box 77 11 true [.dat (.int .i64),.dat (.sl K1),.dat (.sl K6),.dat .str,.dat (.int .i64),.dat (.int .i64),.dat (.sl (.int .i64)),.dat (.int .i64),.dat (.int .i64),.dat (.flt .f64),.dat (.sl K9)],.box 24 2 true [.dat (.int .i64),.dat (.sl K1)]]
def mj:List Sl:=tp 173 []
def lj:List RS:=[]
def pj:List Sl:=.top::.top::.dat .bool::tp 170 []
def nj:List RS:=[]
def Qa (K:XE→List AV→ja→Option Out):Lx (Unit) (Bool)→Option Out:=fun x=>W7 x (fun a=>tj mj lj () () (K (.exit 0))) (fun a=>tj pj nj (a,()) () (K .ret)) (fun _=>none)
def ld (n:Nat) {R:Type} (p:T4) (k:Bool→Option R):Option R:=(oe n ((p.1.1,(p.1.2.1,())),((p.2.1.1,(p.2.1.2.1,(p.2.1.2.2.1,(p.2.1.2.2.2.1,(p.2.1.2.2.2.2.1,(p.2.1.2.2.2.2.2.1,(p.2.1.2.2.2.2.2.2.1,(p.2.1.2.2.2.2.2.2.2.1,())))))))),(p.2.2.1,())))).bind fun v=>if v=false then (Kd n (p.2.1.1,(p.2.1.2.1,(p.2.1.2.2.1,(p.2.1.2.2.2.1,(p.2.1.2.2.2.2.1,(p.2.1.2.2.2.2.2.1,(p.2.1.2.2.2.2.2.2.1,(p.2.1.2.2.2.2.2.2.2.1,()))))))))).bind fun v1=>if (!v1)=true then k true else (ua n n (0:Int) p.1.1 p.1.2.1 p.2.1.1 p.2.1.2.1 p.2.1.2.2.1 p.2.1.2.2.2.1 p.2.1.2.2.2.2.1 p.2.1.2.2.2.2.2.1 p.2.1.2.2.2.2.2.2.1 p.2.1.2.2.2.2.2.2.2.1 p.2.2.1 (1:Int) (⟨0,fun _=>Ea K1⟩:Sq T1)).bind fun x_1=>W7 x_1 (fun a_2=>(sd n).bind fun v13=>k v13) (fun a_3=>k a_3) (fun _=>none) else k true
def pouchlaw17_SpoolQuotas (n:Nat) (p:T4):Option Bool:=ld n p some
theorem ir (n:Nat) {S:Type}:∀ p (φ:_→Option S),(pouchlaw17_SpoolQuotas n p).bind φ=ld n p φ:=by
  intros;unfold pouchlaw17_SpoolQuotas ld;first | (simp only [ia,ba,iB,bB,oL,oX,nB,Option.bind_some]) | rfl
def jb (n:Nat):Hint Out:={ live:=fun c=>(cond (Nat.beq c 0) (lv [1,3,4]) (cond (Nat.beq c 2) (lv [1,3,4,5,6,7]) [])),run:=fun c=>(cond (Nat.beq c 0) (some (Ds Ad zd fun σ ρ K=>(ua n n σ.1 ρ.1.1 ρ.1.2.1 ρ.1.2.2.1 ρ.1.2.2.2.1 ρ.1.2.2.2.2.1 ρ.1.2.2.2.2.2.1 ρ.1.2.2.2.2.2.2.1 ρ.1.2.2.2.2.2.2.2.1 ρ.1.2.2.2.2.2.2.2.2.1 ρ.1.2.2.2.2.2.2.2.2.2.1 ρ.1.2.2.2.2.2.2.2.2.2.2.1 ρ.2.1.1 ρ.2.1.2.1).bind (Qa K))) (cond (Nat.beq c 2) (some (Ds Cd Bd fun σ ρ K=>(ta n n σ.1 σ.2.1 σ.2.2.1 ρ.1.1 ρ.1.2.1 ρ.1.2.2.1 ρ.1.2.2.2.1 ρ.1.2.2.2.2.1 ρ.1.2.2.2.2.2.1 ρ.1.2.2.2.2.2.2.1 ρ.1.2.2.2.2.2.2.2.1 ρ.1.2.2.2.2.2.2.2.2.1 ρ.1.2.2.2.2.2.2.2.2.2.1 ρ.1.2.2.2.2.2.2.2.2.2.2.1 ρ.2.1.1 ρ.2.1.2.1 ρ.2.2.1.1 ρ.2.2.1.2.1 ρ.2.2.1.2.2.1 ρ.2.2.1.2.2.2.1 ρ.2.2.1.2.2.2.2.1 ρ.2.2.1.2.2.2.2.2.1 ρ.2.2.1.2.2.2.2.2.2.1 ρ.2.2.1.2.2.2.2.2.2.2.1 ρ.2.2.1.2.2.2.2.2.2.2.2.1 ρ.2.2.1.2.2.2.2.2.2.2.2.2.1).bind (Ra K))) none)),xm:=fun c q=>(cond (Nat.beq c 0&&Nat.beq (q.getD 1000000) 0&&q.isSome) (some []) (cond (Nat.beq c 1&&q.isNone) (some [(2,none)]) (cond (Nat.beq c 2&&Nat.beq (q.getD 1000000) 2&&q.isSome) (some (lv [1,3,4,5])) none))),sch:=fun c=>(cond (Nat.beq c 8) (some [(0,0),(2,0),(6,0),(7,0),(1,1),(3,0),(4,0),(5,1),(8,1),(9,0),(10,3),(11,0),(12,2)]) none) }
def tc (n:Nat) (K:XE→List AV→ja→Option Out) (m:Nat) (i1:Int) (n0:Int) (k0:Int) (p12:Int) (p13:(Sq T1)) (p14:(Sq T2)) (p15:BA) (p16:Int) (p17:Int) (p18:(Sq Int)) (p19:Int) (p20:Int) (p21:Nat) (p22:U0) (s2:Int) (s3:(Sq T1)) (m0:Int) (m01:Int) (m02:Bool) (m03:BA) (m04:BA) (m05:(Sq T0)) (m06:BA) (m07:Int) (m08:Bool) (m09:Bool):Option Out:=Jg tys (da Out (Pc n)) (jb n) n (Ba [1,1,1,0,1,0,0,1,0,0,1,1,1,0,1,0,0] (aa Tryz.f6)) 2 Cd Bd K m (i1,(n0,(k0,()))) ((p12,(p13,(p14,(p15,(p16,(p17,(p18,(p19,(p20,(p21,(p22,()))))))))))),((s2,(s3,())),((m0,(m01,(m02,(m03,(m04,(m05,(m06,(m07,(m08,(m09,())))))))))),())))
theorem Ug (n:Nat) (K:XE→List AV→ja→Option Out):∀ (m:Nat) i1 n0 k0 p12 p13 p14 p15 p16 p17 p18 p19 p20 p21 p22 s2 s3 m0 m01 m02 m03 m04 m05 m06 m07 m08 m09,tc n K m i1 n0 k0 p12 p13 p14 p15 p16 p17 p18 p19 p20 p21 p22 s2 s3 m0 m01 m02 m03 m04 m05 m06 m07 m08 m09=(ta n m i1 n0 k0 p12 p13 p14 p15 p16 p17 p18 p19 p20 p21 p22 s2 s3 m0 m01 m02 m03 m04 m05 m06 m07 m08 m09).bind (Ra K)
  | 0,_,_,_,_,_,_,_,_,_,_,_,_,_,_,_,_,_,_,_,_,_,_,_,_,_,_=>by kernel_rfl
  | m+1,i1,n0,k0,p12,p13,p14,p15,p16,p17,p18,p19,p20,p21,p22,s2,s3,m0,m01,m02,m03,m04,m05,m06,m07,m08,m09=>by
    have h1:tc n K (m+1) i1 n0 k0 p12 p13 p14 p15 p16 p17 p18 p19 p20 p21 p22 s2 s3 m0 m01 m02 m03 m04 m05 m06 m07 m08 m09=Bb n i1 n0 k0 p12 p13 p14 p15 p16 p17 p18 p19 p20 p21 p22 s2 s3 m0 m01 m02 m03 m04 m05 m06 m07 m08 m09 (tc n K m) (fun a=>Ra K (.out a)) (fun a=>Ra K (.ret a)) (fun p=>Ra K (.pan p)):=by kernel_rfl
    have h2:tc n K m=fun i1 n0 k0 p12 p13 p14 p15 p16 p17 p18 p19 p20 p21 p22 s2 s3 m0 m01 m02 m03 m04 m05 m06 m07 m08 m09=>(ta n m i1 n0 k0 p12 p13 p14 p15 p16 p17 p18 p19 p20 p21 p22 s2 s3 m0 m01 m02 m03 m04 m05 m06 m07 m08 m09).bind (Ra K):=by
      repeat (refine funext fun _=>?_)
      exact Ug n K m _ _ _ _ _ _ _ _ _ _ _ _ _ _ _ _ _ _ _ _ _ _ _ _ _ _
    rw [h1,h2];exact (xn n m _ _ _ _ _ _ _ _ _ _ _ _ _ _ _ _ _ _ _ _ _ _ _ _ _ _ (Ra K)).symm
theorem km (n:Nat):dg tys (da Out (Pc n)) (jb n) n (Ba [1,1,1,0,1,0,0,1,0,0,1,1,1,0,1,0,0] (aa Tryz.f6)) 2:=Wa (sp:=Cd) (rp:=Bd) (by kernel_rfl) fun K σ ρ=>Ug n K n σ.1 σ.2.1 σ.2.2.1 ρ.1.1 ρ.1.2.1 ρ.1.2.2.1 ρ.1.2.2.2.1 ρ.1.2.2.2.2.1 ρ.1.2.2.2.2.2.1 ρ.1.2.2.2.2.2.2.1 ρ.1.2.2.2.2.2.2.2.1 ρ.1.2.2.2.2.2.2.2.2.1 ρ.1.2.2.2.2.2.2.2.2.2.1 ρ.1.2.2.2.2.2.2.2.2.2.2.1 ρ.2.1.1 ρ.2.1.2.1 ρ.2.2.1.1 ρ.2.2.1.2.1 ρ.2.2.1.2.2.1 ρ.2.2.1.2.2.2.1 ρ.2.2.1.2.2.2.2.1 ρ.2.2.1.2.2.2.2.2.1 ρ.2.2.1.2.2.2.2.2.2.1 ρ.2.2.1.2.2.2.2.2.2.2.1 ρ.2.2.1.2.2.2.2.2.2.2.2.1 ρ.2.2.1.2.2.2.2.2.2.2.2.2.1
def qc (n:Nat) (K:XE→List AV→ja→Option Out) (m:Nat) (i:Int) (p1:Int) (p2:(Sq T1)) (p3:(Sq T2)) (p4:BA) (p5:Int) (p6:Int) (p7:(Sq Int)) (p8:Int) (p9:Int) (p10:Nat) (p11:U0) (s:Int) (s1:(Sq T1)):Option Out:=Jg tys (da Out (Pc n)) (jb n) n (Ba [1,1,1,0,1,0,0] (aa Tryz.f6)) 0 Ad zd K m (i,()) ((p1,(p2,(p3,(p4,(p5,(p6,(p7,(p8,(p9,(p10,(p11,()))))))))))),((s,(s1,())),()))
theorem Tg (n:Nat) (K:XE→List AV→ja→Option Out):∀ (m:Nat) i p1 p2 p3 p4 p5 p6 p7 p8 p9 p10 p11 s s1,qc n K m i p1 p2 p3 p4 p5 p6 p7 p8 p9 p10 p11 s s1=(ua n m i p1 p2 p3 p4 p5 p6 p7 p8 p9 p10 p11 s s1).bind (Qa K)
  | 0,_,_,_,_,_,_,_,_,_,_,_,_,_,_=>by kernel_rfl
  | m+1,i,p1,p2,p3,p4,p5,p6,p7,p8,p9,p10,p11,s,s1=>by
    have h1:qc n K (m+1) i p1 p2 p3 p4 p5 p6 p7 p8 p9 p10 p11 s s1=Ub n i p1 p2 p3 p4 p5 p6 p7 p8 p9 p10 p11 s s1 (qc n K m) (fun a=>Qa K (.out a)) (fun a=>Qa K (.ret a)) (fun p=>Qa K (.pan p)):=by kernel_rfl
    have h2:qc n K m=fun i p1 p2 p3 p4 p5 p6 p7 p8 p9 p10 p11 s s1=>(ua n m i p1 p2 p3 p4 p5 p6 p7 p8 p9 p10 p11 s s1).bind (Qa K):=by
      repeat (refine funext fun _=>?_)
      exact Tg n K m _ _ _ _ _ _ _ _ _ _ _ _ _ _
    rw [h1,h2];exact (vn n m _ _ _ _ _ _ _ _ _ _ _ _ _ _ (Qa K)).symm
theorem jm (n:Nat):dg tys (da Out (Pc n)) (jb n) n (Ba [1,1,1,0,1,0,0] (aa Tryz.f6)) 0:=Wa (sp:=Ad) (rp:=zd) (by kernel_rfl) fun K σ ρ=>Tg n K n σ.1 ρ.1.1 ρ.1.2.1 ρ.1.2.2.1 ρ.1.2.2.2.1 ρ.1.2.2.2.2.1 ρ.1.2.2.2.2.2.1 ρ.1.2.2.2.2.2.2.1 ρ.1.2.2.2.2.2.2.2.1 ρ.1.2.2.2.2.2.2.2.2.1 ρ.1.2.2.2.2.2.2.2.2.2.1 ρ.1.2.2.2.2.2.2.2.2.2.2.1 ρ.2.1.1 ρ.2.1.2.1
theorem yn (n:Nat):ra tys (da Out (Pc n)) (jb n) n (aa Tryz.f6) 0:=⟨trivial,⟨⟨trivial,⟨⟨trivial,trivial⟩,trivial⟩⟩,⟨trivial,⟨⟨trivial,⟨jm n,⟨⟨trivial,⟨trivial,trivial⟩⟩,⟨⟨trivial,⟨trivial,⟨trivial,⟨⟨trivial,⟨km n,⟨⟨trivial,⟨trivial,trivial⟩⟩,⟨trivial,trivial⟩⟩⟩⟩,⟨trivial,⟨trivial,⟨⟨trivial,⟨⟨trivial,trivial⟩,trivial⟩⟩,⟨trivial,⟨trivial,⟨⟨trivial,⟨⟨trivial,trivial⟩,trivial⟩⟩,⟨trivial,⟨⟨⟨trivial,⟨⟨trivial,trivial⟩,trivial⟩⟩,trivial⟩,trivial⟩⟩⟩⟩⟩⟩⟩⟩⟩⟩⟩⟩,trivial⟩⟩⟩⟩,⟨trivial,trivial⟩⟩⟩⟩⟩
theorem Eo (n:Nat):Enters Tryz.prog 6:=enters_of (c:=aa Tryz.f6) Tryz.func6 (by kernel_rfl) (by kernel_rfl)
def mq (n:Nat):Entry:=⟨6,e8 l6 (.one .bool) (fun xs=>pouchlaw17_SpoolQuotas n xs.1),none,none⟩
theorem pouchlaw17_SpoolQuotas_ok (n:Nat):EntryOk Tryz.prog gl (mq n):=Ca (Eo n) fun xs y h=>la tys_ok (Lt n) mixed (hint:=jb n) (n:=n) Tryz.func6 (Va (yn n)) (pa (φ:=(fun y=>some (Out.ret (me (.one .bool) y)))) (by kernel_rfl) (ir n xs.1 _) h)
end
end Go.Proofs.YtdhehcnfkcibiaaGreatDoor.AM
