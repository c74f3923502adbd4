/- The functions of this seat without what tells that orders are alike (dup), by program (dedup.py): so the kernel can compute them. -/
import Derived.Test.YtddefjokgaajfaaGreatDoorUF2
set_option linter.all false
set_option linter.unusedVariables false
set_option linter.unusedSimpArgs false
set_option maxRecDepth 1000000
set_option maxHeartbeats 0
namespace Go.Proofs.YtddefjokgaajfaaGreatDoor.AM
open Go Go.RowKit
noncomputable section
section
variable {R S:Type}
theorem Yo {x a b:Option R} (h1:x=a) (h2:x=b):x=PN a b:=by rw [←h1,←h2,ba]
theorem Ov {x a:Option R} {k:Nat} (h:x=a):x=xX k a:=by rw [ia];exact h
theorem Yv {c:Prop} [Decidable c] {a b a' b':Option R} (h1:a=a') (h2:b=b'):(if c then a else b)=(if c then a' else b'):=by rw [h1,h2]
theorem Xo {a a':Option S} {f f':S→Option R} (h1:a=a') (h2:∀ v,f v=f' v):a.bind f=a'.bind f':=by rw [h1,funext h2]
theorem bw {A B:Type} {x:Lx A B} {f f':A→Option R} {g g':B→Option R} {h h':Int→Option R} (h1:∀ v,f v=f' v) (h2:∀ v,g v=g' v) (h3:∀ v,h v=h' v):iY x f g h=iY x f' g' h':=by rw [funext h1,funext h2,funext h3]
end
def dA (n:Nat) {R:Type} (c:T0) (k:Bool→Option R):Option R:=
 if (c.2.2.2.2.1 !=(4:Int))=false then
 if c.2.2.2.2.2.2.2.2.2.2.2.1=true then
  if ((c.2.2.2.2.2.2.2.2.2.1.n:Int)==(0:Int))=true then
  if (c.2.2.2.2.2.2.2.2.2.2.1==(0:Int))=true then
   if (!c.2.2.2.2.2.2.2.2.2.2.2.1)=false then
   k (c.2.2.2.2.1==(4:Int))
   else
   k true
  else
   k false
  else
  k false
 else
  (Gx n c.2.2.2.2.2.2.2.2.2.1).bind fun v=>
  if (!v.1)=true then
  (
   (px n c.2.2.2.2.2.2.2.2.2.1).bind fun v1=>
   if (c.2.2.2.2.2.2.2.2.2.2.1==v1)=true then
   k (decide (c.2.2.2.2.2.2.2.2.2.2.1≤(8192:Int)))
   else
   k false)
  else
  (
   k false)
 else
 if ((c.2.2.2.2.2.2.2.2.2.1.n:Int)==(0:Int))=true then
  if (c.2.2.2.2.2.2.2.2.2.2.1==(0:Int))=true then
  if (!c.2.2.2.2.2.2.2.2.2.2.2.1)=false then
   k (c.2.2.2.2.1==(4:Int))
  else
   k true
  else
  k false
 else
  k false
theorem ZG: @dA= @bp:=by
 funext n R c k
 unfold dA bp
 repeat' first
  | with_reducible rfl
  | with_reducible refine Yo ?_ ?_
  | with_reducible refine Ov ?_
  | with_reducible refine Yv ?_ ?_
  | with_reducible refine Xo (by first | with_reducible rfl) (fun _=>?_)
  | with_reducible refine bw (fun _=>?_) (fun _=>?_) (fun _=>?_)
  | rfl
def xn (n:Nat) (c:T0):Option Bool:=dA n c some
theorem IM: @xn= @Ck:=by
 funext n c
 unfold xn Ck
 simp only [ZG]
def BE (n:Nat) {R:Type} (c:T0) (k:Bool→Option R):Option R:=
 (Xd n c.1 (1:Int) (1099511627776:Int)).bind fun v=>
 if (!v)=false then
 (Xd n c.2.1 (0:Int) (3:Int)).bind fun v1=>
 if (!v1)=false then
  (Xd n c.2.2.1 (0:Int) (1099511627776:Int)).bind fun v2=>
  if (!v2)=false then
  (ci n c.2.2.2.1).bind fun v3=>
  if (!v3)=false then
   (Xd n c.2.2.2.2.1 (0:Int) (5:Int)).bind fun v4=>
   if (!v4)=true then
   k false
   else
   if (c.2.2.2.2.2.1.toList==(⟨#[]⟩:BA).toList)=true then
    if (c.2.2.2.2.1 !=(0:Int))=true then
    if (c.2.2.2.2.1 !=(5:Int))=false then
     if (!(c.2.2.2.2.2.1.toList==(⟨#[]⟩:BA).toList))=true then
     if (c.2.2.2.2.1==(0:Int))=false then
      (Fe n c.2.2.2.2.2.1).bind fun v5=>
      if (!v5)=true then
      k false
      else
      (ab n c).bind fun v6=>
      if v6=true then
       (xn n c).bind fun v7=>
       k v7
      else
       k false
     else
      k false
     else
     (ab n c).bind fun v8=>
     if v8=true then
      (xn n c).bind fun v9=>
      k v9
     else
      k false
    else
     k false
    else
    if (!(c.2.2.2.2.2.1.toList==(⟨#[]⟩:BA).toList))=true then
     if (c.2.2.2.2.1==(0:Int))=false then
     (Fe n c.2.2.2.2.2.1).bind fun v10=>
     if (!v10)=true then
      k false
     else
      (ab n c).bind fun v11=>
      if v11=true then
      (xn n c).bind fun v12=>
      k v12
      else
      k false
     else
     k false
    else
     (ab n c).bind fun v13=>
     if v13=true then
     (xn n c).bind fun v14=>
     k v14
     else
     k false
   else
    if (!(c.2.2.2.2.2.1.toList==(⟨#[]⟩:BA).toList))=true then
    if (c.2.2.2.2.1==(0:Int))=false then
     (Fe n c.2.2.2.2.2.1).bind fun v15=>
     if (!v15)=true then
     k false
     else
     (ab n c).bind fun v16=>
     if v16=true then
      (xn n c).bind fun v17=>
      k v17
     else
      k false
    else
     k false
    else
    (ab n c).bind fun v18=>
    if v18=true then
     (xn n c).bind fun v19=>
     k v19
    else
     k false
  else
   k false
  else
  k false
 else
  k false
 else
 k false
theorem nJ: @BE= @zv:=by
 funext n R c k
 unfold BE zv
 simp only [IM]
def KG (n:Nat) (c:T0):Option Bool:=BE n c some
theorem ft: @KG= @Xx:=by
 funext n c
 unfold KG Xx
 simp only [nJ]
def ar (n:Nat) {R:Type} (c:T0) (k:(Int×Int×Int×BA×Bool×Int×BA×Bool×BA×BA×Int×Bool×(Sq (BA×(BA×Unit)))×(Sq BA)×Unit)→Option R):Option R:=
 (
 (Ek 32 c.2.2.2.2.2.2.2.2.1).bind fun v=>
 (Ek 16 c.2.2.2.2.2.2.2.2.2.1).bind fun v1=>
 k (c.1,(c.2.1,(c.2.2.1,(c.2.2.2.1.1,(c.2.2.2.1.2.1,(c.2.2.2.2.1,(c.2.2.2.2.2.1,(c.2.2.2.2.2.2.1,(c.2.2.2.2.2.2.2.1.1,(c.2.2.2.2.2.2.2.1.2.1,(c.2.2.2.2.2.2.2.2.2.2.1,(c.2.2.2.2.2.2.2.2.2.2.2.1,(v.1,(v1.1,())))))))))))))))
theorem rC: @ar= @Ih:=by
 funext n R c k
 unfold ar Ih
 repeat' first
  | with_reducible rfl
  | with_reducible refine Yo ?_ ?_
  | with_reducible refine Ov ?_
  | with_reducible refine Yv ?_ ?_
  | with_reducible refine Xo (by first | with_reducible rfl) (fun _=>?_)
  | with_reducible refine bw (fun _=>?_) (fun _=>?_) (fun _=>?_)
  | rfl
def rn (n:Nat) (c:T0):Option (Int×Int×Int×BA×Bool×Int×BA×Bool×BA×BA×Int×Bool×(Sq (BA×(BA×Unit)))×(Sq BA)×Unit):=ar n c some
theorem lx: @rn= @gf:=by
 funext n c
 unfold rn gf
 simp only [rC]
def BB (n:Nat) {R:Type} (v:T1) (k:(T1×Bool×Unit)→Option R):Option R:=
 if (v.1==(1:Int))=true then
 (wb n v.2.1).bind fun v1=>
 k ((v.1,(v.2.1,(false,(((⟨#[]⟩:BA),((⟨#[]⟩:BA),())),((0:Int),()))))),(v1,()))
 else
 if (v.1==(2:Int))=true then
  (wb n v.2.1).bind fun v2=>
  k ((v.1,(v.2.1,(false,(((⟨#[]⟩:BA),((⟨#[]⟩:BA),())),((0:Int),()))))),(v2,()))
 else
  if (v.1==(3:Int))=true then
  (
   if (!v.2.2.1)=true then
   if v.2.2.1=false then
    (Oi n (v.2.2.2.1.1,(v.2.2.2.1.2.1,()))).bind fun v3=>
    if v3=true then
    if (decide (v.2.2.2.2.1≥(-1:Int)))=true then
     (
     k ((v.1,((⟨#[]⟩:BA),(v.2.2.1,((v.2.2.2.1.1,(v.2.2.2.1.2.1,())),(v.2.2.2.2.1,()))))),((decide (v.2.2.2.2.1≤(1073741824:Int))),())))
    else
     (
     k ((v.1,((⟨#[]⟩:BA),(v.2.2.1,((v.2.2.2.1.1,(v.2.2.2.1.2.1,())),(v.2.2.2.2.1,()))))),(false,())))
    else
    (
     k ((v.1,((⟨#[]⟩:BA),(v.2.2.1,((v.2.2.2.1.1,(v.2.2.2.1.2.1,())),(v.2.2.2.2.1,()))))),(false,())))
   else
    if (decide (v.2.2.2.2.1≥(-1:Int)))=true then
    (
     k ((v.1,((⟨#[]⟩:BA),(v.2.2.1,((v.2.2.2.1.1,(v.2.2.2.1.2.1,())),(v.2.2.2.2.1,()))))),((decide (v.2.2.2.2.1≤(1073741824:Int))),())))
    else
    (
     k ((v.1,((⟨#[]⟩:BA),(v.2.2.1,((v.2.2.2.1.1,(v.2.2.2.1.2.1,())),(v.2.2.2.2.1,()))))),(false,())))
   else
   if v.2.2.1=false then
    (Oi n (v.2.2.2.1.1,(v.2.2.2.1.2.1,()))).bind fun v4=>
    if v4=true then
    if (decide (v.2.2.2.2.1≥(-1:Int)))=true then
     (
     k ((v.1,((⟨#[]⟩:BA),(v.2.2.1,(((⟨#[]⟩:BA),((⟨#[]⟩:BA),())),(v.2.2.2.2.1,()))))),((decide (v.2.2.2.2.1≤(1073741824:Int))),())))
    else
     (
     k ((v.1,((⟨#[]⟩:BA),(v.2.2.1,(((⟨#[]⟩:BA),((⟨#[]⟩:BA),())),(v.2.2.2.2.1,()))))),(false,())))
    else
    (
     k ((v.1,((⟨#[]⟩:BA),(v.2.2.1,(((⟨#[]⟩:BA),((⟨#[]⟩:BA),())),(v.2.2.2.2.1,()))))),(false,())))
   else
    if (decide (v.2.2.2.2.1≥(-1:Int)))=true then
    (
     k ((v.1,((⟨#[]⟩:BA),(v.2.2.1,(((⟨#[]⟩:BA),((⟨#[]⟩:BA),())),(v.2.2.2.2.1,()))))),((decide (v.2.2.2.2.1≤(1073741824:Int))),())))
    else
    (
     k ((v.1,((⟨#[]⟩:BA),(v.2.2.1,(((⟨#[]⟩:BA),((⟨#[]⟩:BA),())),(v.2.2.2.2.1,()))))),(false,()))))
  else
  if (v.1==(4:Int))=true then
   (Oi n (v.2.2.2.1.1,(v.2.2.2.1.2.1,()))).bind fun v7=>
   k ((v.1,((⟨#[]⟩:BA),(false,((v.2.2.2.1.1,(v.2.2.2.1.2.1,())),((0:Int),()))))),(v7,()))
  else
   if (v.1==(7:Int))=true then
   (Tr n v.2.1).bind fun v8=>
   if v8=false then
    if (v.2.1.toList==(⟨#[]⟩:BA).toList)=true then
    (
     k ((v.1,(v.2.1,(false,(((⟨#[]⟩:BA),((⟨#[]⟩:BA),())),((0:Int),()))))),((v.1==(7:Int)),())))
    else
    (
     k ((v.1,(v.2.1,(false,(((⟨#[]⟩:BA),((⟨#[]⟩:BA),())),((0:Int),()))))),(false,())))
   else
    (
    k ((v.1,(v.2.1,(false,(((⟨#[]⟩:BA),((⟨#[]⟩:BA),())),((0:Int),()))))),(true,())))
   else
   if (v.1==(9:Int))=true then
    (Tr n v.2.1).bind fun v9=>
    if v9=false then
    if (v.2.1.toList==(⟨#[]⟩:BA).toList)=true then
     (
     k ((v.1,(v.2.1,(false,(((⟨#[]⟩:BA),((⟨#[]⟩:BA),())),((0:Int),()))))),((v.1==(7:Int)),())))
    else
     (
     k ((v.1,(v.2.1,(false,(((⟨#[]⟩:BA),((⟨#[]⟩:BA),())),((0:Int),()))))),(false,())))
    else
    (
     k ((v.1,(v.2.1,(false,(((⟨#[]⟩:BA),((⟨#[]⟩:BA),())),((0:Int),()))))),(true,())))
   else
    if (v.1==(5:Int))=true then
    k ((v.1,((⟨#[]⟩:BA),(false,(((⟨#[]⟩:BA),((⟨#[]⟩:BA),())),((0:Int),()))))),(true,()))
    else
    if (v.1==(6:Int))=true then
     k ((v.1,((⟨#[]⟩:BA),(false,(((⟨#[]⟩:BA),((⟨#[]⟩:BA),())),((0:Int),()))))),(true,()))
    else
     if (v.1==(8:Int))=true then
     k ((v.1,((⟨#[]⟩:BA),(false,(((⟨#[]⟩:BA),((⟨#[]⟩:BA),())),((0:Int),()))))),(true,()))
     else
     k ((v.1,((⟨#[]⟩:BA),(false,(((⟨#[]⟩:BA),((⟨#[]⟩:BA),())),((0:Int),()))))),(false,()))
theorem wI: @BB= @Ru:=by
 funext n R v k
 unfold BB Ru
 repeat' first
  | with_reducible rfl
  | with_reducible refine Yo ?_ ?_
  | with_reducible refine Ov ?_
  | with_reducible refine Yv ?_ ?_
  | with_reducible refine Xo (by first | with_reducible rfl) (fun _=>?_)
  | with_reducible refine bw (fun _=>?_) (fun _=>?_) (fun _=>?_)
  | rfl
def EK (n:Nat) (v:T1):Option (T1×Bool×Unit):=BB n v some
theorem BN: @EK= @WD:=by
 funext n v
 unfold EK WD
 simp only [wI]
def HF (n:Nat) {R:Type} (v:T1) (k:Bool→Option R):Option R:=
 (EK n (v.1,(v.2.1,(v.2.2.1,((v.2.2.2.1.1,(v.2.2.2.1.2.1,())),(v.2.2.2.2.1,())))))).bind fun v1=>
 if v1.2.1=true then
 k ((v1.1.1==v.1)&&((v1.1.2.1.toList==v.2.1.toList)&&((v1.1.2.2.1==v.2.2.1)&&(((v1.1.2.2.2.1.1.toList==v.2.2.2.1.1.toList)&&((v1.1.2.2.2.1.2.1.toList==v.2.2.2.1.2.1.toList)&&true))&&((v1.1.2.2.2.2.1==v.2.2.2.2.1)&&true)))))
 else
 k false
theorem vK: @HF= @rB:=by
 funext n R v k
 unfold HF rB
 simp only [BN]
def Qd (n:Nat) (v:T1):Option Bool:=HF n v some
theorem lI: @Qd= @Cg:=by
 funext n v
 unfold Qd Cg
 simp only [vK]
def FB (n:Nat) {R:Type} (s:BA) (k:T1→Option R) (kp:Int→Option R):Option R:=
 if (decide ((s.size:Int)≥(4:Int)))=true then
 if 0≤(4:Int)∧(4:Int)≤(s.size:Int) then
  (ll n (s.extract (Int.toNat (0:Int)) (Int.toNat (4:Int)))).bind fun v=>
  if (decide (v>(0:Int)))=true then
  if ((s.size:Int)==(4:Int))=false then
   if 0≤(4:Int)∧(4:Int)<(s.size:Int) then
   (Aa n ((bt s (4:Int))==(32:Int)) (3:Int)).bind fun x_1=>jY x_1 (fun p=>
    kp p) (fun v1=>
   if 0≤(4:Int)∧(4:Int)≤(s.size:Int) then
    (ll n (s.extract (Int.toNat (0:Int)) (Int.toNat (4:Int)))).bind fun v2=>
    if 0≤(4:Int)∧(4:Int)≤(s.size:Int) then
    if (v2==(3:Int))=true then
     (yc n (s.extract (Int.toNat (4:Int)) (Int.toNat (s.size:Int))) (⟨#[32,70,82,79,77,58]⟩:BA)).bind fun x_2=>jY x_2 (fun p1=>
     kp p1) (fun v3=>
     (Bf n v3).bind fun x_3=>jY x_3 (fun p2=>
     kp p2) (fun v4=>
     (Lo n v4.2.2.1).bind fun x_4=>jY x_4 (fun p3=>
     kp p3) (fun v5=>
     (Qd n (v2,((⟨#[]⟩:BA),(v4.2.1,((v4.1.1,(v4.1.2.1,())),(v5,())))))).bind fun v6=>
     (Aa n v6 (8:Int)).bind fun x_5=>jY x_5 (fun p4=>
     kp p4) (fun v7=>
     k (v2,((⟨#[]⟩:BA),(v4.2.1,((v4.1.1,(v4.1.2.1,())),(v5,())))))))))
    else
     if (v2==(4:Int))=true then
     (yc n (s.extract (Int.toNat (4:Int)) (Int.toNat (s.size:Int))) (⟨#[32,84,79,58]⟩:BA)).bind fun x_6=>jY x_6 (fun p5=>
      kp p5) (fun v8=>
     (Bf n v8).bind fun x_7=>jY x_7 (fun p6=>
      kp p6) (fun v9=>
     (Aa n (v9.2.2.1.toList==(⟨#[]⟩:BA).toList) (8:Int)).bind fun x_8=>jY x_8 (fun p7=>
      kp p7) (fun v10=>
     (Qd n (v2,((⟨#[]⟩:BA),(v9.2.1,((v9.1.1,(v9.1.2.1,())),((0:Int),())))))).bind fun v11=>
     (Aa n v11 (8:Int)).bind fun x_9=>jY x_9 (fun p8=>
      kp p8) (fun v12=>
     k (v2,((⟨#[]⟩:BA),(v9.2.1,((v9.1.1,(v9.1.2.1,())),((0:Int),())))))))))
     else
     if (v2==(1:Int))=true then
      (za n (s.extract (Int.toNat (4:Int)) (Int.toNat (s.size:Int))) (⟨#[32]⟩:BA)).bind fun v13=>
      (eb n v13).bind fun v14=>
      (Aa n (v14.2.1==(0:Int)) (8:Int)).bind fun x_10=>jY x_10 (fun p9=>
      kp p9) (fun v15=>
      (Qd n (v2,(v14.1,(false,(((⟨#[]⟩:BA),((⟨#[]⟩:BA),())),((0:Int),())))))).bind fun v16=>
      (Aa n v16 (8:Int)).bind fun x_11=>jY x_11 (fun p10=>
      kp p10) (fun v17=>
      k (v2,(v14.1,(false,(((⟨#[]⟩:BA),((⟨#[]⟩:BA),())),((0:Int),())))))))
     else
      if (v2==(2:Int))=true then
      (za n (s.extract (Int.toNat (4:Int)) (Int.toNat (s.size:Int))) (⟨#[32]⟩:BA)).bind fun v18=>
      (eb n v18).bind fun v19=>
      (Aa n (v19.2.1==(0:Int)) (8:Int)).bind fun x_12=>jY x_12 (fun p11=>
       kp p11) (fun v20=>
      (Qd n (v2,(v19.1,(false,(((⟨#[]⟩:BA),((⟨#[]⟩:BA),())),((0:Int),())))))).bind fun v21=>
      (Aa n v21 (8:Int)).bind fun x_13=>jY x_13 (fun p12=>
       kp p12) (fun v22=>
      k (v2,(v19.1,(false,(((⟨#[]⟩:BA),((⟨#[]⟩:BA),())),((0:Int),())))))))
      else
      (Aa n (!((s.extract (Int.toNat (4:Int)) (Int.toNat (s.size:Int))).toList==(⟨#[32]⟩:BA).toList)) (8:Int)).bind fun x_14=>jY x_14 (fun p13=>
       kp p13) (fun v23=>
      (za n (s.extract (Int.toNat (4:Int)) (Int.toNat (s.size:Int))) (⟨#[32]⟩:BA)).bind fun v24=>
      (Qd n (v2,(v24,(false,(((⟨#[]⟩:BA),((⟨#[]⟩:BA),())),((0:Int),())))))).bind fun v25=>
      (Aa n v25 (8:Int)).bind fun x_15=>jY x_15 (fun p14=>
       kp p14) (fun v26=>
      k (v2,(v24,(false,(((⟨#[]⟩:BA),((⟨#[]⟩:BA),())),((0:Int),())))))))
    else
    none
   else
    none)
   else
   none
  else
   (Aa n true (3:Int)).bind fun x_16=>jY x_16 (fun p15=>
   kp p15) (fun v27=>
   if 0≤(4:Int)∧(4:Int)≤(s.size:Int) then
   (ll n (s.extract (Int.toNat (0:Int)) (Int.toNat (4:Int)))).bind fun v28=>
   if 0≤(4:Int)∧(4:Int)≤(s.size:Int) then
    if (v28==(3:Int))=true then
    (yc n (s.extract (Int.toNat (4:Int)) (Int.toNat (s.size:Int))) (⟨#[32,70,82,79,77,58]⟩:BA)).bind fun x_17=>jY x_17 (fun p16=>
     kp p16) (fun v29=>
    (Bf n v29).bind fun x_18=>jY x_18 (fun p17=>
     kp p17) (fun v30=>
    (Lo n v30.2.2.1).bind fun x_19=>jY x_19 (fun p18=>
     kp p18) (fun v31=>
    (Qd n (v28,((⟨#[]⟩:BA),(v30.2.1,((v30.1.1,(v30.1.2.1,())),(v31,())))))).bind fun v32=>
    (Aa n v32 (8:Int)).bind fun x_20=>jY x_20 (fun p19=>
     kp p19) (fun v33=>
    k (v28,((⟨#[]⟩:BA),(v30.2.1,((v30.1.1,(v30.1.2.1,())),(v31,())))))))))
    else
    if (v28==(4:Int))=true then
     (yc n (s.extract (Int.toNat (4:Int)) (Int.toNat (s.size:Int))) (⟨#[32,84,79,58]⟩:BA)).bind fun x_21=>jY x_21 (fun p20=>
     kp p20) (fun v34=>
     (Bf n v34).bind fun x_22=>jY x_22 (fun p21=>
     kp p21) (fun v35=>
     (Aa n (v35.2.2.1.toList==(⟨#[]⟩:BA).toList) (8:Int)).bind fun x_23=>jY x_23 (fun p22=>
     kp p22) (fun v36=>
     (Qd n (v28,((⟨#[]⟩:BA),(v35.2.1,((v35.1.1,(v35.1.2.1,())),((0:Int),())))))).bind fun v37=>
     (Aa n v37 (8:Int)).bind fun x_24=>jY x_24 (fun p23=>
     kp p23) (fun v38=>
     k (v28,((⟨#[]⟩:BA),(v35.2.1,((v35.1.1,(v35.1.2.1,())),((0:Int),())))))))))
    else
     if (v28==(1:Int))=true then
     (za n (s.extract (Int.toNat (4:Int)) (Int.toNat (s.size:Int))) (⟨#[32]⟩:BA)).bind fun v39=>
     (eb n v39).bind fun v40=>
     (Aa n (v40.2.1==(0:Int)) (8:Int)).bind fun x_25=>jY x_25 (fun p24=>
      kp p24) (fun v41=>
     (Qd n (v28,(v40.1,(false,(((⟨#[]⟩:BA),((⟨#[]⟩:BA),())),((0:Int),())))))).bind fun v42=>
     (Aa n v42 (8:Int)).bind fun x_26=>jY x_26 (fun p25=>
      kp p25) (fun v43=>
     k (v28,(v40.1,(false,(((⟨#[]⟩:BA),((⟨#[]⟩:BA),())),((0:Int),())))))))
     else
     if (v28==(2:Int))=true then
      (za n (s.extract (Int.toNat (4:Int)) (Int.toNat (s.size:Int))) (⟨#[32]⟩:BA)).bind fun v44=>
      (eb n v44).bind fun v45=>
      (Aa n (v45.2.1==(0:Int)) (8:Int)).bind fun x_27=>jY x_27 (fun p26=>
      kp p26) (fun v46=>
      (Qd n (v28,(v45.1,(false,(((⟨#[]⟩:BA),((⟨#[]⟩:BA),())),((0:Int),())))))).bind fun v47=>
      (Aa n v47 (8:Int)).bind fun x_28=>jY x_28 (fun p27=>
      kp p27) (fun v48=>
      k (v28,(v45.1,(false,(((⟨#[]⟩:BA),((⟨#[]⟩:BA),())),((0:Int),())))))))
     else
      (Aa n (!((s.extract (Int.toNat (4:Int)) (Int.toNat (s.size:Int))).toList==(⟨#[32]⟩:BA).toList)) (8:Int)).bind fun x_29=>jY x_29 (fun p28=>
      kp p28) (fun v49=>
      (za n (s.extract (Int.toNat (4:Int)) (Int.toNat (s.size:Int))) (⟨#[32]⟩:BA)).bind fun v50=>
      (Qd n (v28,(v50,(false,(((⟨#[]⟩:BA),((⟨#[]⟩:BA),())),((0:Int),())))))).bind fun v51=>
      (Aa n v51 (8:Int)).bind fun x_30=>jY x_30 (fun p29=>
      kp p29) (fun v52=>
      k (v28,(v50,(false,(((⟨#[]⟩:BA),((⟨#[]⟩:BA),())),((0:Int),())))))))
   else
    none
   else
   none)
  else
  (Aa n false (3:Int)).bind fun x_31=>jY x_31 (fun p30=>
   kp p30) (fun v53=>
  if 0≤(4:Int)∧(4:Int)≤(s.size:Int) then
   (ll n (s.extract (Int.toNat (0:Int)) (Int.toNat (4:Int)))).bind fun v54=>
   if 0≤(4:Int)∧(4:Int)≤(s.size:Int) then
   if (v54==(3:Int))=true then
    (yc n (s.extract (Int.toNat (4:Int)) (Int.toNat (s.size:Int))) (⟨#[32,70,82,79,77,58]⟩:BA)).bind fun x_32=>jY x_32 (fun p31=>
    kp p31) (fun v55=>
    (Bf n v55).bind fun x_33=>jY x_33 (fun p32=>
    kp p32) (fun v56=>
    (Lo n v56.2.2.1).bind fun x_34=>jY x_34 (fun p33=>
    kp p33) (fun v57=>
    (Qd n (v54,((⟨#[]⟩:BA),(v56.2.1,((v56.1.1,(v56.1.2.1,())),(v57,())))))).bind fun v58=>
    (Aa n v58 (8:Int)).bind fun x_35=>jY x_35 (fun p34=>
    kp p34) (fun v59=>
    k (v54,((⟨#[]⟩:BA),(v56.2.1,((v56.1.1,(v56.1.2.1,())),(v57,())))))))))
   else
    if (v54==(4:Int))=true then
    (yc n (s.extract (Int.toNat (4:Int)) (Int.toNat (s.size:Int))) (⟨#[32,84,79,58]⟩:BA)).bind fun x_36=>jY x_36 (fun p35=>
     kp p35) (fun v60=>
    (Bf n v60).bind fun x_37=>jY x_37 (fun p36=>
     kp p36) (fun v61=>
    (Aa n (v61.2.2.1.toList==(⟨#[]⟩:BA).toList) (8:Int)).bind fun x_38=>jY x_38 (fun p37=>
     kp p37) (fun v62=>
    (Qd n (v54,((⟨#[]⟩:BA),(v61.2.1,((v61.1.1,(v61.1.2.1,())),((0:Int),())))))).bind fun v63=>
    (Aa n v63 (8:Int)).bind fun x_39=>jY x_39 (fun p38=>
     kp p38) (fun v64=>
    k (v54,((⟨#[]⟩:BA),(v61.2.1,((v61.1.1,(v61.1.2.1,())),((0:Int),())))))))))
    else
    if (v54==(1:Int))=true then
     (za n (s.extract (Int.toNat (4:Int)) (Int.toNat (s.size:Int))) (⟨#[32]⟩:BA)).bind fun v65=>
     (eb n v65).bind fun v66=>
     (Aa n (v66.2.1==(0:Int)) (8:Int)).bind fun x_40=>jY x_40 (fun p39=>
     kp p39) (fun v67=>
     (Qd n (v54,(v66.1,(false,(((⟨#[]⟩:BA),((⟨#[]⟩:BA),())),((0:Int),())))))).bind fun v68=>
     (Aa n v68 (8:Int)).bind fun x_41=>jY x_41 (fun p40=>
     kp p40) (fun v69=>
     k (v54,(v66.1,(false,(((⟨#[]⟩:BA),((⟨#[]⟩:BA),())),((0:Int),())))))))
    else
     if (v54==(2:Int))=true then
     (za n (s.extract (Int.toNat (4:Int)) (Int.toNat (s.size:Int))) (⟨#[32]⟩:BA)).bind fun v70=>
     (eb n v70).bind fun v71=>
     (Aa n (v71.2.1==(0:Int)) (8:Int)).bind fun x_42=>jY x_42 (fun p41=>
      kp p41) (fun v72=>
     (Qd n (v54,(v71.1,(false,(((⟨#[]⟩:BA),((⟨#[]⟩:BA),())),((0:Int),())))))).bind fun v73=>
     (Aa n v73 (8:Int)).bind fun x_43=>jY x_43 (fun p42=>
      kp p42) (fun v74=>
     k (v54,(v71.1,(false,(((⟨#[]⟩:BA),((⟨#[]⟩:BA),())),((0:Int),())))))))
     else
     (Aa n (!((s.extract (Int.toNat (4:Int)) (Int.toNat (s.size:Int))).toList==(⟨#[32]⟩:BA).toList)) (8:Int)).bind fun x_44=>jY x_44 (fun p43=>
      kp p43) (fun v75=>
     (za n (s.extract (Int.toNat (4:Int)) (Int.toNat (s.size:Int))) (⟨#[32]⟩:BA)).bind fun v76=>
     (Qd n (v54,(v76,(false,(((⟨#[]⟩:BA),((⟨#[]⟩:BA),())),((0:Int),())))))).bind fun v77=>
     (Aa n v77 (8:Int)).bind fun x_45=>jY x_45 (fun p44=>
      kp p44) (fun v78=>
     k (v54,(v76,(false,(((⟨#[]⟩:BA),((⟨#[]⟩:BA),())),((0:Int),())))))))
   else
   none
  else
   none)
 else
  none
 else
 (Aa n false (3:Int)).bind fun x_46=>jY x_46 (fun p45=>
  kp p45) (fun v79=>
 if 0≤(4:Int)∧(4:Int)≤(s.size:Int) then
  (ll n (s.extract (Int.toNat (0:Int)) (Int.toNat (4:Int)))).bind fun v80=>
  if 0≤(4:Int)∧(4:Int)≤(s.size:Int) then
  if (v80==(3:Int))=true then
   (yc n (s.extract (Int.toNat (4:Int)) (Int.toNat (s.size:Int))) (⟨#[32,70,82,79,77,58]⟩:BA)).bind fun x_47=>jY x_47 (fun p46=>
   kp p46) (fun v81=>
   (Bf n v81).bind fun x_48=>jY x_48 (fun p47=>
   kp p47) (fun v82=>
   (Lo n v82.2.2.1).bind fun x_49=>jY x_49 (fun p48=>
   kp p48) (fun v83=>
   (Qd n (v80,((⟨#[]⟩:BA),(v82.2.1,((v82.1.1,(v82.1.2.1,())),(v83,())))))).bind fun v84=>
   (Aa n v84 (8:Int)).bind fun x_50=>jY x_50 (fun p49=>
   kp p49) (fun v85=>
   k (v80,((⟨#[]⟩:BA),(v82.2.1,((v82.1.1,(v82.1.2.1,())),(v83,())))))))))
  else
   if (v80==(4:Int))=true then
   (yc n (s.extract (Int.toNat (4:Int)) (Int.toNat (s.size:Int))) (⟨#[32,84,79,58]⟩:BA)).bind fun x_51=>jY x_51 (fun p50=>
    kp p50) (fun v86=>
   (Bf n v86).bind fun x_52=>jY x_52 (fun p51=>
    kp p51) (fun v87=>
   (Aa n (v87.2.2.1.toList==(⟨#[]⟩:BA).toList) (8:Int)).bind fun x_53=>jY x_53 (fun p52=>
    kp p52) (fun v88=>
   (Qd n (v80,((⟨#[]⟩:BA),(v87.2.1,((v87.1.1,(v87.1.2.1,())),((0:Int),())))))).bind fun v89=>
   (Aa n v89 (8:Int)).bind fun x_54=>jY x_54 (fun p53=>
    kp p53) (fun v90=>
   k (v80,((⟨#[]⟩:BA),(v87.2.1,((v87.1.1,(v87.1.2.1,())),((0:Int),())))))))))
   else
   if (v80==(1:Int))=true then
    (za n (s.extract (Int.toNat (4:Int)) (Int.toNat (s.size:Int))) (⟨#[32]⟩:BA)).bind fun v91=>
    (eb n v91).bind fun v92=>
    (Aa n (v92.2.1==(0:Int)) (8:Int)).bind fun x_55=>jY x_55 (fun p54=>
    kp p54) (fun v93=>
    (Qd n (v80,(v92.1,(false,(((⟨#[]⟩:BA),((⟨#[]⟩:BA),())),((0:Int),())))))).bind fun v94=>
    (Aa n v94 (8:Int)).bind fun x_56=>jY x_56 (fun p55=>
    kp p55) (fun v95=>
    k (v80,(v92.1,(false,(((⟨#[]⟩:BA),((⟨#[]⟩:BA),())),((0:Int),())))))))
   else
    if (v80==(2:Int))=true then
    (za n (s.extract (Int.toNat (4:Int)) (Int.toNat (s.size:Int))) (⟨#[32]⟩:BA)).bind fun v96=>
    (eb n v96).bind fun v97=>
    (Aa n (v97.2.1==(0:Int)) (8:Int)).bind fun x_57=>jY x_57 (fun p56=>
     kp p56) (fun v98=>
    (Qd n (v80,(v97.1,(false,(((⟨#[]⟩:BA),((⟨#[]⟩:BA),())),((0:Int),())))))).bind fun v99=>
    (Aa n v99 (8:Int)).bind fun x_58=>jY x_58 (fun p57=>
     kp p57) (fun v100=>
    k (v80,(v97.1,(false,(((⟨#[]⟩:BA),((⟨#[]⟩:BA),())),((0:Int),())))))))
    else
    (Aa n (!((s.extract (Int.toNat (4:Int)) (Int.toNat (s.size:Int))).toList==(⟨#[32]⟩:BA).toList)) (8:Int)).bind fun x_59=>jY x_59 (fun p58=>
     kp p58) (fun v101=>
    (za n (s.extract (Int.toNat (4:Int)) (Int.toNat (s.size:Int))) (⟨#[32]⟩:BA)).bind fun v102=>
    (Qd n (v80,(v102,(false,(((⟨#[]⟩:BA),((⟨#[]⟩:BA),())),((0:Int),())))))).bind fun v103=>
    (Aa n v103 (8:Int)).bind fun x_60=>jY x_60 (fun p59=>
     kp p59) (fun v104=>
    k (v80,(v102,(false,(((⟨#[]⟩:BA),((⟨#[]⟩:BA),())),((0:Int),())))))))
  else
  none
 else
  none)
theorem zI: @FB= @Su:=by
 funext n R s k kp
 unfold FB Su
 simp only [lI]
def GK (n:Nat) (s:BA):Option (Except Int T1):=FB n s (fun y=>some (.ok y)) (fun p=>some (.error p))
theorem EN: @GK= @XD:=by
 funext n s
 unfold GK XD
 simp only [zI]
def Dw (n:Nat) {R:Type} (s:BA) (k:(T1×Int×Unit)→Option R):Option R:=
 (GK n s).bind fun x_1=>jY x_1 (fun p=>
 k (((0:Int),((⟨#[]⟩:BA),(false,(((⟨#[]⟩:BA),((⟨#[]⟩:BA),())),((0:Int),()))))),(p,()))) (fun v=>
 k ((v.1,(v.2.1,(v.2.2.1,((v.2.2.2.1.1,(v.2.2.2.1.2.1,())),(v.2.2.2.2.1,()))))),((0:Int),())))
theorem KF: @Dw= @el:=by
 funext n R s k
 unfold Dw el
 simp only [EN]
def JF (n:Nat) (s:BA):Option (T1×Int×Unit):=Dw n s some
theorem wK: @JF= @Cw:=by
 funext n s
 unfold JF Cw
 simp only [KF]
def Hl (n:Nat) {R:Type} (c c1 c2:Int) (c3:BA) (c4:Bool) (c5:Int) (c6:BA) (c7:Bool) (c8 c9:BA) (c10:Int) (c11:Bool) (l:(BA×(Bool×Unit))) (r0:(Sq (BA×(BA×Unit)))) (r1:(Sq BA)) (k:(T0×Int×BA×T1×Unit)→Option R):Option R:=
 if (c5==(4:Int))=true then
 (Kb n c c1 c2 c3 c4 c5 c6 c7 c8 c9 c10 c11 l r0 r1).bind fun v=>
 (
  k (v.1,((0:Int),(v.2.1,(((0:Int),((⟨#[]⟩:BA),(false,(((⟨#[]⟩:BA),((⟨#[]⟩:BA),())),((0:Int),()))))),())))))
 else
 if l.2.1=true then
  (
  k ((c,(c1,(c2,((c3,(c4,())),(c5,(c6,(c7,((c8,(c9,())),(r0,(r1,(c10,(c11,())))))))))))),((500:Int),((⟨#[]⟩:BA),(((0:Int),((⟨#[]⟩:BA),(false,(((⟨#[]⟩:BA),((⟨#[]⟩:BA),())),((0:Int),()))))),())))))
 else
  (JF n l.1).bind fun v1=>
  if (v1.2.1==(0:Int))=true then
  (Vd n c c1 c2 c3 c4 c5 c6 c7 c8 c9 c10 c11 v1.1 r0 r1).bind fun v2=>
  (
   k (v2.1,(v2.2.1,(v2.2.2.1,(v1.1,())))))
  else
  if (v1.2.1==(3:Int))=true then
   (
   k ((c,(c1,(c2,((c3,(c4,())),(c5,(c6,(c7,((c8,(c9,())),(r0,(r1,(c10,(c11,())))))))))))),((500:Int),((⟨#[]⟩:BA),(v1.1,())))))
  else
   (
   k ((c,(c1,(c2,((c3,(c4,())),(c5,(c6,(c7,((c8,(c9,())),(r0,(r1,(c10,(c11,())))))))))))),((501:Int),((⟨#[]⟩:BA),(v1.1,())))))
theorem Wx: @Hl= @Bd:=by
 funext n R c c1 c2 c3 c4 c5 c6 c7 c8 c9 c10 c11 l r0 r1 k
 unfold Hl Bd
 repeat' first
  | with_reducible rfl
  | with_reducible refine Yo ?_ ?_
  | with_reducible refine Ov ?_
  | with_reducible refine Yv ?_ ?_
  | with_reducible refine Xo (by first | with_reducible rfl | simp only [wK]) (fun _=>?_)
  | with_reducible refine bw (fun _=>?_) (fun _=>?_) (fun _=>?_)
  | rfl
def Zq (n:Nat) (c c1 c2:Int) (c3:BA) (c4:Bool) (c5:Int) (c6:BA) (c7:Bool) (c8 c9:BA) (c10:Int) (c11:Bool) (l:(BA×(Bool×Unit))) (r0:(Sq (BA×(BA×Unit)))) (r1:(Sq BA)):Option (T0×Int×BA×T1×Unit):=Hl n c c1 c2 c3 c4 c5 c6 c7 c8 c9 c10 c11 l r0 r1 some
theorem nC: @Zq= @qc:=by
 funext n c c1 c2 c3 c4 c5 c6 c7 c8 c9 c10 c11 l r0 r1
 unfold Zq qc
 simp only [Wx]
def Mz (n:Nat) {R:Type} (c:T0) (l:(BA×(Bool×Unit))) (k:(T0×Int×BA×Int×Unit)→Option R):Option R:=
 (KG n c).bind fun v=>
 if (!v)=true then
 k (((0:Int),((0:Int),((0:Int),(((⟨#[]⟩:BA),(false,())),((0:Int),((⟨#[]⟩:BA),(false,(((⟨#[]⟩:BA),((⟨#[]⟩:BA),())),((⟨0,fun _=>ua (.pair .str (.pair .str .unit))⟩:Sq (BA×(BA×Unit))),((⟨0,fun _=>ua .str⟩:Sq BA),((0:Int),(false,())))))))))))),((0:Int),((⟨#[]⟩:BA),((1:Int),()))))
 else
 if (c.2.2.2.2.1==(5:Int))=true then
  k (((0:Int),((0:Int),((0:Int),(((⟨#[]⟩:BA),(false,())),((0:Int),((⟨#[]⟩:BA),(false,(((⟨#[]⟩:BA),((⟨#[]⟩:BA),())),((⟨0,fun _=>ua (.pair .str (.pair .str .unit))⟩:Sq (BA×(BA×Unit))),((⟨0,fun _=>ua .str⟩:Sq BA),((0:Int),(false,())))))))))))),((0:Int),((⟨#[]⟩:BA),((6:Int),()))))
 else
  (
  (rn n c).bind fun v1=>
  (Zq n v1.1 v1.2.1 v1.2.2.1 v1.2.2.2.1 v1.2.2.2.2.1 v1.2.2.2.2.2.1 v1.2.2.2.2.2.2.1 v1.2.2.2.2.2.2.2.1 v1.2.2.2.2.2.2.2.2.1 v1.2.2.2.2.2.2.2.2.2.1 v1.2.2.2.2.2.2.2.2.2.2.1 v1.2.2.2.2.2.2.2.2.2.2.2.1 l v1.2.2.2.2.2.2.2.2.2.2.2.2.1 v1.2.2.2.2.2.2.2.2.2.2.2.2.2.1).bind fun v2=>
  (rn n v2.1).bind fun v3=>
  k ((v3.1,(v3.2.1,(v3.2.2.1,((v3.2.2.2.1,(v3.2.2.2.2.1,())),(v3.2.2.2.2.2.1,(v3.2.2.2.2.2.2.1,(v3.2.2.2.2.2.2.2.1,((v3.2.2.2.2.2.2.2.2.1,(v3.2.2.2.2.2.2.2.2.2.1,())),(v3.2.2.2.2.2.2.2.2.2.2.2.2.1,(v3.2.2.2.2.2.2.2.2.2.2.2.2.2.1,(v3.2.2.2.2.2.2.2.2.2.2.1,(v3.2.2.2.2.2.2.2.2.2.2.2.1,())))))))))))),(v2.2.1,(v2.2.2.1,((0:Int),())))))
theorem IG: @Mz= @Jl:=by
 funext n R c l k
 unfold Mz Jl
 repeat' first
  | with_reducible rfl
  | with_reducible refine Yo ?_ ?_
  | with_reducible refine Ov ?_
  | with_reducible refine Yv ?_ ?_
  | with_reducible refine Xo (by first | with_reducible rfl | simp only [ft,lx,nC]) (fun _=>?_)
  | with_reducible refine bw (fun _=>?_) (fun _=>?_) (fun _=>?_)
  | rfl
def Lz (n:Nat) (c:T0) (l:(BA×(Bool×Unit))):Option (T0×Int×BA×Int×Unit):=Mz n c l some
theorem yv: @Lz= @ff:=by
 funext n c l
 unfold Lz ff
 simp only [IG]
def Pz (n:Nat) {R:Type} (id tenant ip:Int) (k:(T0×Int×Unit)→Option R):Option R:=
 (KG n (id,(tenant,(ip,(((⟨#[]⟩:BA),(false,())),((0:Int),((⟨#[]⟩:BA),(false,(((⟨#[]⟩:BA),((⟨#[]⟩:BA),())),((⟨0,fun _=>ua (.pair .str (.pair .str .unit))⟩:Sq (BA×(BA×Unit))),((⟨0,fun _=>ua .str⟩:Sq BA),((0:Int),(false,()))))))))))))).bind fun v=>
 if (!v)=true then
 k (((0:Int),((0:Int),((0:Int),(((⟨#[]⟩:BA),(false,())),((0:Int),((⟨#[]⟩:BA),(false,(((⟨#[]⟩:BA),((⟨#[]⟩:BA),())),((⟨0,fun _=>ua (.pair .str (.pair .str .unit))⟩:Sq (BA×(BA×Unit))),((⟨0,fun _=>ua .str⟩:Sq BA),((0:Int),(false,())))))))))))),((1:Int),()))
 else
 k ((id,(tenant,(ip,(((⟨#[]⟩:BA),(false,())),((0:Int),((⟨#[]⟩:BA),(false,(((⟨#[]⟩:BA),((⟨#[]⟩:BA),())),((⟨0,fun _=>ua (.pair .str (.pair .str .unit))⟩:Sq (BA×(BA×Unit))),((⟨0,fun _=>ua .str⟩:Sq BA),((0:Int),(false,())))))))))))),((0:Int),()))
theorem LG: @Pz= @kt:=by
 funext n R id tenant ip k
 unfold Pz kt
 simp only [ft]
def DE (n:Nat) (id tenant ip:Int):Option (T0×Int×Unit):=Pz n id tenant ip some
theorem wD: @DE= @jt:=by
 funext n id tenant ip
 unfold DE jt
 simp only [LG]
def js (n:Nat) {R:Type} (k:Bool→Option R):Option R:=
 (DE n (1:Int) (0:Int) (5:Int)).bind fun v=>
 (Lz n v.1 ((⟨#[69,72,76,79,32,120]⟩:BA),(false,()))).bind fun v1=>
 (Hc n v.2.1).bind fun v2=>
 if (v2==(0:Int))=true then
 (Hc n v1.2.2.2.1).bind fun v3=>
 if (v3==(0:Int))=true then
  if (v1.2.1==(250:Int))=true then
  if (v1.2.2.1.toList==(⟨#[]⟩:BA).toList)=true then
   if (v1.1.2.2.2.2.1==(1:Int))=true then
   k (v1.1.2.2.2.2.2.1.toList==(⟨#[120]⟩:BA).toList)
   else
   k false
  else
   k false
  else
  k false
 else
  k false
 else
 k false
theorem jD: @js= @xl:=by
 funext n R k
 unfold js xl
 simp only [yv,wD]
def JI (n:Nat):Option Bool:=js n some
theorem KI: @JI= @Fh:=by
 funext n
 unfold JI Fh
 simp only [jD]
def FE (n:Nat) {R:Type} (c:T0) (v:T1) (k:(T0×Int×Unit)→Option R):Option R:=
 (KG n c).bind fun v1=>
 if (!v1)=false then
 (Qd n v).bind fun v2=>
 if (!v2)=true then
  k (((0:Int),((0:Int),((0:Int),(((⟨#[]⟩:BA),(false,())),((0:Int),((⟨#[]⟩:BA),(false,(((⟨#[]⟩:BA),((⟨#[]⟩:BA),())),((⟨0,fun _=>ua (.pair .str (.pair .str .unit))⟩:Sq (BA×(BA×Unit))),((⟨0,fun _=>ua .str⟩:Sq BA),((0:Int),(false,())))))))))))),((1:Int),()))
 else
  (rn n c).bind fun v3=>
  if (v.1==(3:Int))=true then
  if (v3.2.2.2.2.2.1 !=(1:Int))=true then
   k (((0:Int),((0:Int),((0:Int),(((⟨#[]⟩:BA),(false,())),((0:Int),((⟨#[]⟩:BA),(false,(((⟨#[]⟩:BA),((⟨#[]⟩:BA),())),((⟨0,fun _=>ua (.pair .str (.pair .str .unit))⟩:Sq (BA×(BA×Unit))),((⟨0,fun _=>ua .str⟩:Sq BA),((0:Int),(false,())))))))))))),((6:Int),()))
  else
   (
   (
    k ((v3.1,(v3.2.1,(v3.2.2.1,((v3.2.2.2.1,(v3.2.2.2.2.1,())),((2:Int),(v3.2.2.2.2.2.2.1,(v.2.2.1,(v.2.2.2.1,(v3.2.2.2.2.2.2.2.2.2.2.2.2.1,(v3.2.2.2.2.2.2.2.2.2.2.2.2.2.1,(v3.2.2.2.2.2.2.2.2.2.2.1,(v3.2.2.2.2.2.2.2.2.2.2.2.1,())))))))))))),((0:Int),()))))
  else
  if (v.1==(4:Int))=true then
   if (v3.2.2.2.2.2.1 !=(2:Int))=true then
   if (v3.2.2.2.2.2.1 !=(3:Int))=true then
    k (((0:Int),((0:Int),((0:Int),(((⟨#[]⟩:BA),(false,())),((0:Int),((⟨#[]⟩:BA),(false,(((⟨#[]⟩:BA),((⟨#[]⟩:BA),())),((⟨0,fun _=>ua (.pair .str (.pair .str .unit))⟩:Sq (BA×(BA×Unit))),((⟨0,fun _=>ua .str⟩:Sq BA),((0:Int),(false,())))))))))))),((6:Int),()))
   else
    (rY n v3.2.2.2.2.2.2.2.2.2.2.2.2.1 v.2.2.2.1).bind fun v4=>
    if v4=true then
    k (((0:Int),((0:Int),((0:Int),(((⟨#[]⟩:BA),(false,())),((0:Int),((⟨#[]⟩:BA),(false,(((⟨#[]⟩:BA),((⟨#[]⟩:BA),())),((⟨0,fun _=>ua (.pair .str (.pair .str .unit))⟩:Sq (BA×(BA×Unit))),((⟨0,fun _=>ua .str⟩:Sq BA),((0:Int),(false,())))))))))))),((4:Int),()))
    else
    if ((v3.2.2.2.2.2.2.2.2.2.2.2.2.1.n:Int)==(8:Int))=true then
     k (((0:Int),((0:Int),((0:Int),(((⟨#[]⟩:BA),(false,())),((0:Int),((⟨#[]⟩:BA),(false,(((⟨#[]⟩:BA),((⟨#[]⟩:BA),())),((⟨0,fun _=>ua (.pair .str (.pair .str .unit))⟩:Sq (BA×(BA×Unit))),((⟨0,fun _=>ua .str⟩:Sq BA),((0:Int),(false,())))))))))))),((5:Int),()))
    else
     if db (v3.2.2.2.2.2.2.2.2.2.2.2.2.1.n+1) 32=true then
     k ((v3.1,(v3.2.1,(v3.2.2.1,((v3.2.2.2.1,(v3.2.2.2.2.1,())),((3:Int),(v3.2.2.2.2.2.2.1,(v3.2.2.2.2.2.2.2.1,((v3.2.2.2.2.2.2.2.2.1,(v3.2.2.2.2.2.2.2.2.2.1,())),((⟨(v3.2.2.2.2.2.2.2.2.2.2.2.2.1.n+1),fun q=>if q<v3.2.2.2.2.2.2.2.2.2.2.2.2.1.n then v3.2.2.2.2.2.2.2.2.2.2.2.2.1.at' q else (fun q=>List.getD (α:=(BA×(BA×Unit))) [v.2.2.2.1] q (ua (.pair .str (.pair .str .unit)))) (q - v3.2.2.2.2.2.2.2.2.2.2.2.2.1.n)⟩:Sq (BA×(BA×Unit))),(v3.2.2.2.2.2.2.2.2.2.2.2.2.2.1,(v3.2.2.2.2.2.2.2.2.2.2.1,(v3.2.2.2.2.2.2.2.2.2.2.2.1,())))))))))))),((0:Int),()))
     else
     none
   else
   (rY n v3.2.2.2.2.2.2.2.2.2.2.2.2.1 v.2.2.2.1).bind fun v5=>
   if v5=true then
    k (((0:Int),((0:Int),((0:Int),(((⟨#[]⟩:BA),(false,())),((0:Int),((⟨#[]⟩:BA),(false,(((⟨#[]⟩:BA),((⟨#[]⟩:BA),())),((⟨0,fun _=>ua (.pair .str (.pair .str .unit))⟩:Sq (BA×(BA×Unit))),((⟨0,fun _=>ua .str⟩:Sq BA),((0:Int),(false,())))))))))))),((4:Int),()))
   else
    if ((v3.2.2.2.2.2.2.2.2.2.2.2.2.1.n:Int)==(8:Int))=true then
    k (((0:Int),((0:Int),((0:Int),(((⟨#[]⟩:BA),(false,())),((0:Int),((⟨#[]⟩:BA),(false,(((⟨#[]⟩:BA),((⟨#[]⟩:BA),())),((⟨0,fun _=>ua (.pair .str (.pair .str .unit))⟩:Sq (BA×(BA×Unit))),((⟨0,fun _=>ua .str⟩:Sq BA),((0:Int),(false,())))))))))))),((5:Int),()))
    else
    if db (v3.2.2.2.2.2.2.2.2.2.2.2.2.1.n+1) 32=true then
     k ((v3.1,(v3.2.1,(v3.2.2.1,((v3.2.2.2.1,(v3.2.2.2.2.1,())),((3:Int),(v3.2.2.2.2.2.2.1,(v3.2.2.2.2.2.2.2.1,((v3.2.2.2.2.2.2.2.2.1,(v3.2.2.2.2.2.2.2.2.2.1,())),((⟨(v3.2.2.2.2.2.2.2.2.2.2.2.2.1.n+1),fun q=>if q<v3.2.2.2.2.2.2.2.2.2.2.2.2.1.n then v3.2.2.2.2.2.2.2.2.2.2.2.2.1.at' q else (fun q=>List.getD (α:=(BA×(BA×Unit))) [v.2.2.2.1] q (ua (.pair .str (.pair .str .unit)))) (q - v3.2.2.2.2.2.2.2.2.2.2.2.2.1.n)⟩:Sq (BA×(BA×Unit))),(v3.2.2.2.2.2.2.2.2.2.2.2.2.2.1,(v3.2.2.2.2.2.2.2.2.2.2.1,(v3.2.2.2.2.2.2.2.2.2.2.2.1,())))))))))))),((0:Int),()))
    else
     none
  else
   k (((0:Int),((0:Int),((0:Int),(((⟨#[]⟩:BA),(false,())),((0:Int),((⟨#[]⟩:BA),(false,(((⟨#[]⟩:BA),((⟨#[]⟩:BA),())),((⟨0,fun _=>ua (.pair .str (.pair .str .unit))⟩:Sq (BA×(BA×Unit))),((⟨0,fun _=>ua .str⟩:Sq BA),((0:Int),(false,())))))))))))),((1:Int),()))
 else
 k (((0:Int),((0:Int),((0:Int),(((⟨#[]⟩:BA),(false,())),((0:Int),((⟨#[]⟩:BA),(false,(((⟨#[]⟩:BA),((⟨#[]⟩:BA),())),((⟨0,fun _=>ua (.pair .str (.pair .str .unit))⟩:Sq (BA×(BA×Unit))),((⟨0,fun _=>ua .str⟩:Sq BA),((0:Int),(false,())))))))))))),((1:Int),()))
theorem sJ: @FE= @Uz:=by
 funext n R c v k
 unfold FE Uz
 repeat' first
  | with_reducible rfl
  | with_reducible refine Yo ?_ ?_
  | with_reducible refine Ov ?_
  | with_reducible refine Yv ?_ ?_
  | with_reducible refine Xo (by first | with_reducible rfl | simp only [ft,lx,lI]) (fun _=>?_)
  | with_reducible refine bw (fun _=>?_) (fun _=>?_) (fun _=>?_)
  | rfl
def eL (n:Nat) (c:T0) (v:T1):Option (T0×Int×Unit):=FE n c v some
theorem RG: @eL= @Yx:=by
 funext n c v
 unfold eL Yx
 simp only [sJ]
end
end Go.Proofs.YtddefjokgaajfaaGreatDoor.AM
