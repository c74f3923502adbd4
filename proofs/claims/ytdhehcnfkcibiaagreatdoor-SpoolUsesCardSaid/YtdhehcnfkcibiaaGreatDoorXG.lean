/- The functions of this seat without what tells that orders are alike (dup), by program (dedup.py): so the kernel can compute them. -/
import Derived.Test.YtdhehcnfkcibiaaGreatDoorXF3
set_option linter.all false
set_option linter.unusedVariables false
set_option linter.unusedSimpArgs false
set_option maxRecDepth 1000000
set_option maxHeartbeats 0
namespace Go.Proofs.YtdhehcnfkcibiaaGreatDoor.AM
open Go Go.RowKit
noncomputable section
section
variable {R S:Type}
theorem P8 {x a b:Option R} (h1:x=a) (h2:x=b):x=wY a b:=by rw [←h1,←h2,ba]
theorem scb {x a:Option R} {k:Nat} (h:x=a):x=dup k a:=by rw [fa];exact h
theorem Ncb {c:Prop} [Decidable c] {a b a' b':Option R} (h1:a=a') (h2:b=b'):(if c then a else b)=(if c then a' else b'):=by rw [h1,h2]
theorem O8 {a a':Option S} {f f':S→Option R} (h1:a=a') (h2:∀ v,f v=f' v):a.bind f=a'.bind f':=by rw [h1,funext h2]
theorem jdb {A B:Type} {x:Lx A B} {f f':A→Option R} {g g':B→Option R} {h h':Int→Option R} (h1:∀ v,f v=f' v) (h2:∀ v,g v=g' v) (h3:∀ v,h v=h' v):onL x f g h=onL x f' g' h':=by rw [funext h1,funext h2,funext h3]
end
def Tr (n:Nat) {R:Type} (t10 t11 s1 t2:Int) (r2:(Sq T1)) (kn:Int→Int→Int→Int→(Sq T1)→Option R) (ko:(Int×Int×(Sq T1))→Option R) (kr:Unit→Option R) (kp:Int→Option R):Option R:=
 if (decide (t11<t10))=true then
 if 0≤t11∧t11<(r2.n:Int) then
  (
  (IB n (((r2.at' (Int.toNat t11))).1,((((r2.at' (Int.toNat t11))).2).1,(((((r2.at' (Int.toNat t11))).2).2).1,((((((((r2.at' (Int.toNat t11))).2).2).2).1).1,((((((((r2.at' (Int.toNat t11))).2).2).2).1).2).1,())),((((((((r2.at' (Int.toNat t11))).2).2).2).2).1),((((((((r2.at' (Int.toNat t11))).2).2).2).2).2).1,(((((((((r2.at' (Int.toNat t11))).2).2).2).2).2).2).1,((((((((((r2.at' (Int.toNat t11))).2).2).2).2).2).2).2).1,(((((((((((r2.at' (Int.toNat t11))).2).2).2).2).2).2).2).2).1,())))))))))).bind fun v1=>
  if 0≤t11∧t11<(r2.n:Int) then
   kn t10 (IntKind.wrap .i64 (t11+(1:Int))) s1 t2 (⟨r2.n,fun q=>if q=(Int.toNat t11)∧q<r2.n then (v1.1,(v1.2.1,(v1.2.2.1,((v1.2.2.2.1.1,(v1.2.2.2.1.2.1,())),(v1.2.2.2.2.1,(v1.2.2.2.2.2.1,(v1.2.2.2.2.2.2.1,(v1.2.2.2.2.2.2.2.1,(v1.2.2.2.2.2.2.2.2.1,()))))))))) else r2.at' q⟩:Sq T1)
  else
   none)
 else
  none
 else
 ko (s1,t2,r2)
theorem xK: @Tr= @Mh:=by
 funext n R t10 t11 s1 t2 r2 kn ko kr kp
 unfold Tr Mh
 repeat' first
  | with_reducible rfl
  | with_reducible refine P8 ?_ ?_
  | with_reducible refine scb ?_
  | with_reducible refine Ncb ?_ ?_
  | with_reducible refine O8 (by first | with_reducible rfl) (fun _=>?_)
  | with_reducible refine jdb (fun _=>?_) (fun _=>?_) (fun _=>?_)
  | rfl
def Am (n:Nat):Nat→Int→Int→Int→Int→(Sq T1)→Option (Lx (Int×Int×(Sq T1)) Unit)
 | 0,_,_,_,_,_=>none
 | m+1,t10,t11,s1,t2,r2=>Tr n t10 t11 s1 t2 r2 (Am n m) (fun a=>some (.out a)) (fun a=>some (.ret a)) (fun p=>some (.pan p))
theorem Xv (n:Nat):∀ (m:Nat),Am n m=Tc n m
 | 0=>rfl
 | m+1=>by
  funext t10 t11 s1 t2 r2
  have ih:=Xv n m
  simp only [Am,Tc,ih,xK]
def Wv (n:Nat) {R:Type} (s:(Int×((Sq T1)×Unit))) (k:(Int×(Sq T1)×Unit)→Option R):Option R:=
 (eE 112 s.2.1).bind fun v=>
 (Am n n (v.1.n:Int) (0:Int) s.1 (0:Int) v.1).bind fun x_1=>onL x_1
 (fun a_2=>
  k (a_2.1,(a_2.2.2,())))
 (fun _=>none)
 (fun _=>none)
theorem uN: @Wv= @om:=by
 funext n R s k
 unfold Wv om
 simp only [Xv]
def Zt (n:Nat) (s:(Int×((Sq T1)×Unit))):Option (Int×(Sq T1)×Unit):=Wv n s some
theorem IR: @Zt= @Wh:=by
 funext n s
 unfold Zt Wh
 simp only [uN]
def HF (n:Nat) {R:Type} (s:(Int×((Sq T1)×Unit))) (c:T3) (m0:T1) (k:((Int×((Sq T1)×Unit))×Int×Unit)→Option R):Option R:=
 (IB n (m0.1,(m0.2.1,(m0.2.2.1,((m0.2.2.2.1.1,(m0.2.2.2.1.2.1,())),(m0.2.2.2.2.1,(m0.2.2.2.2.2.1,(m0.2.2.2.2.2.2.1,(m0.2.2.2.2.2.2.2.1,(m0.2.2.2.2.2.2.2.2.1,())))))))))).bind fun v=>
 (Sw n ((1:Int),(v.2.1,(v.2.2.1,((v.2.2.2.1.1,(v.2.2.2.1.2.1,())),(v.2.2.2.2.1,(v.2.2.2.2.2.1,(v.2.2.2.2.2.2.1,(v.2.2.2.2.2.2.2.1,(v.2.2.2.2.2.2.2.2.1,())))))))))).bind fun v1=>
 if (!v1)=false then
 if (decide (v.2.1≥(c.1.n:Int)))=true then
  k (((0:Int),((⟨0,fun _=>Ba K1⟩:Sq T1),())),((1:Int),()))
 else
  if (s.1==(1099511627776:Int))=false then
  if ((s.2.1.n:Int)==(128:Int))=true then
   k (((0:Int),((⟨0,fun _=>Ba K1⟩:Sq T1),())),((5:Int),()))
  else
   if (!v.2.2.1)=true then
   (qn n (s.1,(s.2.1,())) (c.1,(c.2.1,(c.2.2.1,(c.2.2.2.1,(c.2.2.2.2.1,(c.2.2.2.2.2.1,(c.2.2.2.2.2.2.1,(c.2.2.2.2.2.2.2.1,())))))))) v.2.1 (v.2.2.2.2.2.1.size:Int)).bind fun v2=>
   if (v2 !=(0:Int))=true then
    k (((0:Int),((⟨0,fun _=>Ba K1⟩:Sq T1),())),(v2,()))
   else
    (Zt n (s.1,(s.2.1,()))).bind fun v3=>
    (
    (
     (
     if Rb (v3.2.1.n+1) 112=true then
      k (((IntKind.wrap .i64 (v3.1+(1:Int))),((⟨(v3.2.1.n+1),fun q=>if q<v3.2.1.n then v3.2.1.at' q else (fun q=>List.getD (α:=T1) [(v3.1,(v.2.1,(v.2.2.1,((v.2.2.2.1.1,(v.2.2.2.1.2.1,())),(v.2.2.2.2.1,(v.2.2.2.2.2.1,(v.2.2.2.2.2.2.1,(v.2.2.2.2.2.2.2.1,(v.2.2.2.2.2.2.2.2.1,())))))))))] q (Ba K1)) (q - v3.2.1.n)⟩:Sq T1),())),((0:Int),()))
     else
      none)))
   else
   (Zt n (s.1,(s.2.1,()))).bind fun v4=>
   (
    (
    (
     if Rb (v4.2.1.n+1) 112=true then
     k (((IntKind.wrap .i64 (v4.1+(1:Int))),((⟨(v4.2.1.n+1),fun q=>if q<v4.2.1.n then v4.2.1.at' q else (fun q=>List.getD (α:=T1) [(v4.1,(v.2.1,(v.2.2.1,((v.2.2.2.1.1,(v.2.2.2.1.2.1,())),(v.2.2.2.2.1,(v.2.2.2.2.2.1,(v.2.2.2.2.2.2.1,(v.2.2.2.2.2.2.2.1,(v.2.2.2.2.2.2.2.2.1,())))))))))] q (Ba K1)) (q - v4.2.1.n)⟩:Sq T1),())),((0:Int),()))
     else
     none)))
  else
  k (((0:Int),((⟨0,fun _=>Ba K1⟩:Sq T1),())),((5:Int),()))
 else
 k (((0:Int),((⟨0,fun _=>Ba K1⟩:Sq T1),())),((1:Int),()))
theorem KU: @HF= @Zv:=by
 funext n R s c m0 k
 unfold HF Zv
 repeat' first
  | with_reducible rfl
  | with_reducible refine P8 ?_ ?_
  | with_reducible refine scb ?_
  | with_reducible refine Ncb ?_ ?_
  | with_reducible refine O8 (by first | with_reducible rfl | simp only [IR]) (fun _=>?_)
  | with_reducible refine jdb (fun _=>?_) (fun _=>?_) (fun _=>?_)
  | rfl
def KP (n:Nat) (s:(Int×((Sq T1)×Unit))) (c:T3) (m0:T1):Option ((Int×((Sq T1)×Unit))×Int×Unit):=HF n s c m0 some
theorem WZ: @KP= @pB:=by
 funext n s c m0
 unfold KP pB
 simp only [KU]
def wF (n:Nat) {R:Type} (s:(Int×((Sq T1)×Unit))) (c:T3) (m0:T1) (k:((Int×((Sq T1)×Unit))×Int×Unit)→Option R):Option R:=
 (mm n (s.1,(s.2.1,()))).bind fun v=>
 if (!v)=false then
 (Qm n (c.1,(c.2.1,(c.2.2.1,(c.2.2.2.1,(c.2.2.2.2.1,(c.2.2.2.2.2.1,(c.2.2.2.2.2.2.1,(c.2.2.2.2.2.2.2.1,()))))))))).bind fun v1=>
 if (!v1)=true then
  k (((0:Int),((⟨0,fun _=>Ba K1⟩:Sq T1),())),((1:Int),()))
 else
  (KP n (s.1,(s.2.1,())) (c.1,(c.2.1,(c.2.2.1,(c.2.2.2.1,(c.2.2.2.2.1,(c.2.2.2.2.2.1,(c.2.2.2.2.2.2.1,(c.2.2.2.2.2.2.2.1,())))))))) (m0.1,(m0.2.1,(m0.2.2.1,((m0.2.2.2.1.1,(m0.2.2.2.1.2.1,())),(m0.2.2.2.2.1,(m0.2.2.2.2.2.1,(m0.2.2.2.2.2.2.1,(m0.2.2.2.2.2.2.2.1,(m0.2.2.2.2.2.2.2.2.1,())))))))))).bind fun v2=>
  k ((v2.1.1,(v2.1.2.1,())),(v2.2.1,()))
 else
 k (((0:Int),((⟨0,fun _=>Ba K1⟩:Sq T1),())),((1:Int),()))
theorem DU: @wF= @Tv:=by
 funext n R s c m0 k
 unfold wF Tv
 simp only [WZ]
def FP (n:Nat) (s:(Int×((Sq T1)×Unit))) (c:T3) (m0:T1):Option ((Int×((Sq T1)×Unit))×Int×Unit):=wF n s c m0 some
theorem QZ: @FP= @Sv:=by
 funext n s c m0
 unfold FP Sv
 simp only [DU]
def Gm (n:Nat) {R:Type} (k:Bool→Option R):Option R:=
 (Mq n).bind fun v=>
 (Sm n).bind fun v1=>
 (FP n ((1:Int),((⟨0,fun _=>Ba K1⟩:Sq T1),())) (v.1,(v.2.1,(v.2.2.1,(v.2.2.2.1,(v.2.2.2.2.1,(v.2.2.2.2.2.1,(v.2.2.2.2.2.2.1,(v.2.2.2.2.2.2.2.1,())))))))) (v1.1,(v1.2.1,(v1.2.2.1,((v1.2.2.2.1.1,(v1.2.2.2.1.2.1,())),(v1.2.2.2.2.1,(v1.2.2.2.2.2.1,(v1.2.2.2.2.2.2.1,(v1.2.2.2.2.2.2.2.1,(v1.2.2.2.2.2.2.2.2.1,())))))))))).bind fun v2=>
 (Nb n v2.2.1).bind fun v3=>
 if (v3==(0:Int))=true then
 if (v2.1.1==(2:Int))=true then
  if ((v2.1.2.1.n:Int)==(1:Int))=true then
  if 0≤(0:Int)∧(0:Int)<(v2.1.2.1.n:Int) then
   k ((((v2.1.2.1.at' (Int.toNat (0:Int)))).1)==(1:Int))
  else
   none
  else
  k false
 else
  k false
 else
 k false
theorem tD: @Gm= @vg:=by
 funext n R k
 unfold Gm vg
 simp only [QZ]
def EA (n:Nat):Option Bool:=Gm n some
theorem iH: @EA= @Ud:=by
 funext n
 unfold EA Ud
 simp only [tD]
end
end Go.Proofs.YtdhehcnfkcibiaaGreatDoor.AM
