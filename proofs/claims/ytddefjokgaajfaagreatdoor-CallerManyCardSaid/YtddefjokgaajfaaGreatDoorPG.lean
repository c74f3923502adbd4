/- The functions of this seat without what tells that orders are alike (dup), by program (dedup.py): so the kernel can compute them. -/
import Derived.Test.YtddefjokgaajfaaGreatDoorPF2
set_option linter.all false
set_option linter.unusedVariables false
set_option linter.unusedSimpArgs false
set_option maxRecDepth 1000000
set_option maxHeartbeats 0
namespace Go.Proofs.YtddefjokgaajfaaGreatDoor.AM
open Go Go.RowKit
noncomputable section
section
variable {R S:Type}
theorem Gl {x a b:Option R} (h1:x=a) (h2:x=b):x=GH a b:=by rw [←h1,←h2,ba]
theorem Oq {x a:Option R} {k:Nat} (h:x=a):x=hO k a:=by rw [fa];exact h
theorem Zq {c:Prop} [Decidable c] {a b a' b':Option R} (h1:a=a') (h2:b=b'):(if c then a else b)=(if c then a' else b'):=by rw [h1,h2]
theorem Fl {a a':Option S} {f f':S→Option R} (h1:a=a') (h2:∀ v,f v=f' v):a.bind f=a'.bind f':=by rw [h1,funext h2]
theorem dr {A B:Type} {x:Lx A B} {f f':A→Option R} {g g':B→Option R} {h h':Int→Option R} (h1:∀ v,f v=f' v) (h2:∀ v,g v=g' v) (h3:∀ v,h v=h' v):zO x f g h=zO x f' g' h':=by rw [funext h1,funext h2,funext h3]
end
def Cv (n:Nat) {R:Type} (c:T0) (k:Bool→Option R):Option R:=
 if (c.2.2.2.2.1 !=(4:Int))=false then
 if c.2.2.2.2.2.2.2.2.2.2.2.1=true then
  if ((c.2.2.2.2.2.2.2.2.2.1.n:Int)==(0:Int))=true then
  if (c.2.2.2.2.2.2.2.2.2.2.1==(0:Int))=true then
   if (!c.2.2.2.2.2.2.2.2.2.2.2.1)=false then
   k (c.2.2.2.2.1==(4:Int))
   else
   k true
  else
   k false
  else
  k false
 else
  (Qy n c.2.2.2.2.2.2.2.2.2.1).bind fun v=>
  if (!v.1)=true then
  (
   (Ey n c.2.2.2.2.2.2.2.2.2.1).bind fun v1=>
   if (c.2.2.2.2.2.2.2.2.2.2.1==v1)=true then
   k (decide (c.2.2.2.2.2.2.2.2.2.2.1≤(8192:Int)))
   else
   k false)
  else
  (
   k false)
 else
 if ((c.2.2.2.2.2.2.2.2.2.1.n:Int)==(0:Int))=true then
  if (c.2.2.2.2.2.2.2.2.2.2.1==(0:Int))=true then
  if (!c.2.2.2.2.2.2.2.2.2.2.2.1)=false then
   k (c.2.2.2.2.1==(4:Int))
  else
   k true
  else
  k false
 else
  k false
theorem QB: @Cv= @Wo:=by
 funext n R c k
 unfold Cv Wo
 repeat' first
  | with_reducible rfl
  | with_reducible refine Gl ?_ ?_
  | with_reducible refine Oq ?_
  | with_reducible refine Zq ?_ ?_
  | with_reducible refine Fl (by first | with_reducible rfl) (fun _=>?_)
  | with_reducible refine dr (fun _=>?_) (fun _=>?_) (fun _=>?_)
  | rfl
def lk (n:Nat) (c:T0):Option Bool:=Cv n c some
theorem JG: @lk= @jk:=by
 funext n c
 unfold lk jk
 simp only [QB]
def Fz (n:Nat) {R:Type} (c:T0) (k:Bool→Option R):Option R:=
 (Ed n c.1 (1:Int) (1099511627776:Int)).bind fun v=>
 if (!v)=false then
 (Ed n c.2.1 (0:Int) (3:Int)).bind fun v1=>
 if (!v1)=false then
  (Ed n c.2.2.1 (0:Int) (1099511627776:Int)).bind fun v2=>
  if (!v2)=false then
  (Ak n c.2.2.2.1).bind fun v3=>
  if (!v3)=false then
   (Ed n c.2.2.2.2.1 (0:Int) (5:Int)).bind fun v4=>
   if (!v4)=true then
   k false
   else
   if (c.2.2.2.2.2.1.toList==(⟨#[]⟩:BA).toList)=true then
    if (c.2.2.2.2.1 !=(0:Int))=true then
    if (c.2.2.2.2.1 !=(5:Int))=false then
     if (!(c.2.2.2.2.2.1.toList==(⟨#[]⟩:BA).toList))=true then
     if (c.2.2.2.2.1==(0:Int))=false then
      (Ud n c.2.2.2.2.2.1).bind fun v5=>
      if (!v5)=true then
      k false
      else
      (Sa n c).bind fun v6=>
      if v6=true then
       (lk n c).bind fun v7=>
       k v7
      else
       k false
     else
      k false
     else
     (Sa n c).bind fun v8=>
     if v8=true then
      (lk n c).bind fun v9=>
      k v9
     else
      k false
    else
     k false
    else
    if (!(c.2.2.2.2.2.1.toList==(⟨#[]⟩:BA).toList))=true then
     if (c.2.2.2.2.1==(0:Int))=false then
     (Ud n c.2.2.2.2.2.1).bind fun v10=>
     if (!v10)=true then
      k false
     else
      (Sa n c).bind fun v11=>
      if v11=true then
      (lk n c).bind fun v12=>
      k v12
      else
      k false
     else
     k false
    else
     (Sa n c).bind fun v13=>
     if v13=true then
     (lk n c).bind fun v14=>
     k v14
     else
     k false
   else
    if (!(c.2.2.2.2.2.1.toList==(⟨#[]⟩:BA).toList))=true then
    if (c.2.2.2.2.1==(0:Int))=false then
     (Ud n c.2.2.2.2.2.1).bind fun v15=>
     if (!v15)=true then
     k false
     else
     (Sa n c).bind fun v16=>
     if v16=true then
      (lk n c).bind fun v17=>
      k v17
     else
      k false
    else
     k false
    else
    (Sa n c).bind fun v18=>
    if v18=true then
     (lk n c).bind fun v19=>
     k v19
    else
     k false
  else
   k false
  else
  k false
 else
  k false
 else
 k false
theorem RD: @Fz= @jv:=by
 funext n R c k
 unfold Fz jv
 simp only [JG]
def yB (n:Nat) (c:T0):Option Bool:=Fz n c some
theorem iv: @yB= @xB:=by
 funext n c
 unfold yB xB
 simp only [RD]
def Ym (n:Nat) {R:Type} (c:T0) (k:(Int×Int×Int×BA×Bool×Int×BA×Bool×BA×BA×Int×Bool×(Sq (BA×(BA×Unit)))×(Sq BA)×Unit)→Option R):Option R:=
 (
 (ap 32 c.2.2.2.2.2.2.2.2.1).bind fun v=>
 (ap 16 c.2.2.2.2.2.2.2.2.2.1).bind fun v1=>
 k (c.1,(c.2.1,(c.2.2.1,(c.2.2.2.1.1,(c.2.2.2.1.2.1,(c.2.2.2.2.1,(c.2.2.2.2.2.1,(c.2.2.2.2.2.2.1,(c.2.2.2.2.2.2.2.1.1,(c.2.2.2.2.2.2.2.1.2.1,(c.2.2.2.2.2.2.2.2.2.2.1,(c.2.2.2.2.2.2.2.2.2.2.2.1,(v.1,(v1.1,())))))))))))))))
theorem Ax: @Ym= @Wh:=by
 funext n R c k
 unfold Ym Wh
 repeat' first
  | with_reducible rfl
  | with_reducible refine Gl ?_ ?_
  | with_reducible refine Oq ?_
  | with_reducible refine Zq ?_ ?_
  | with_reducible refine Fl (by first | with_reducible rfl) (fun _=>?_)
  | with_reducible refine dr (fun _=>?_) (fun _=>?_) (fun _=>?_)
  | rfl
def Zj (n:Nat) (c:T0):Option (Int×Int×Int×BA×Bool×Int×BA×Bool×BA×BA×Int×Bool×(Sq (BA×(BA×Unit)))×(Sq BA)×Unit):=Ym n c some
theorem Cs: @Zj= @tf:=by
 funext n c
 unfold Zj tf
 simp only [Ax]
def Dw (n:Nat) {R:Type} (v:T1) (k:(T1×Bool×Unit)→Option R):Option R:=
 if (v.1==(1:Int))=true then
 (fb n v.2.1).bind fun v1=>
 k ((v.1,(v.2.1,(false,(((⟨#[]⟩:BA),((⟨#[]⟩:BA),())),((0:Int),()))))),(v1,()))
 else
 if (v.1==(2:Int))=true then
  (fb n v.2.1).bind fun v2=>
  k ((v.1,(v.2.1,(false,(((⟨#[]⟩:BA),((⟨#[]⟩:BA),())),((0:Int),()))))),(v2,()))
 else
  if (v.1==(3:Int))=true then
  (
   if (!v.2.2.1)=true then
   if v.2.2.1=false then
    (sj n (v.2.2.2.1.1,(v.2.2.2.1.2.1,()))).bind fun v3=>
    if v3=true then
    if (decide (v.2.2.2.2.1≥(-1:Int)))=true then
     (
     k ((v.1,((⟨#[]⟩:BA),(v.2.2.1,((v.2.2.2.1.1,(v.2.2.2.1.2.1,())),(v.2.2.2.2.1,()))))),((decide (v.2.2.2.2.1≤(1073741824:Int))),())))
    else
     (
     k ((v.1,((⟨#[]⟩:BA),(v.2.2.1,((v.2.2.2.1.1,(v.2.2.2.1.2.1,())),(v.2.2.2.2.1,()))))),(false,())))
    else
    (
     k ((v.1,((⟨#[]⟩:BA),(v.2.2.1,((v.2.2.2.1.1,(v.2.2.2.1.2.1,())),(v.2.2.2.2.1,()))))),(false,())))
   else
    if (decide (v.2.2.2.2.1≥(-1:Int)))=true then
    (
     k ((v.1,((⟨#[]⟩:BA),(v.2.2.1,((v.2.2.2.1.1,(v.2.2.2.1.2.1,())),(v.2.2.2.2.1,()))))),((decide (v.2.2.2.2.1≤(1073741824:Int))),())))
    else
    (
     k ((v.1,((⟨#[]⟩:BA),(v.2.2.1,((v.2.2.2.1.1,(v.2.2.2.1.2.1,())),(v.2.2.2.2.1,()))))),(false,())))
   else
   if v.2.2.1=false then
    (sj n (v.2.2.2.1.1,(v.2.2.2.1.2.1,()))).bind fun v4=>
    if v4=true then
    if (decide (v.2.2.2.2.1≥(-1:Int)))=true then
     (
     k ((v.1,((⟨#[]⟩:BA),(v.2.2.1,(((⟨#[]⟩:BA),((⟨#[]⟩:BA),())),(v.2.2.2.2.1,()))))),((decide (v.2.2.2.2.1≤(1073741824:Int))),())))
    else
     (
     k ((v.1,((⟨#[]⟩:BA),(v.2.2.1,(((⟨#[]⟩:BA),((⟨#[]⟩:BA),())),(v.2.2.2.2.1,()))))),(false,())))
    else
    (
     k ((v.1,((⟨#[]⟩:BA),(v.2.2.1,(((⟨#[]⟩:BA),((⟨#[]⟩:BA),())),(v.2.2.2.2.1,()))))),(false,())))
   else
    if (decide (v.2.2.2.2.1≥(-1:Int)))=true then
    (
     k ((v.1,((⟨#[]⟩:BA),(v.2.2.1,(((⟨#[]⟩:BA),((⟨#[]⟩:BA),())),(v.2.2.2.2.1,()))))),((decide (v.2.2.2.2.1≤(1073741824:Int))),())))
    else
    (
     k ((v.1,((⟨#[]⟩:BA),(v.2.2.1,(((⟨#[]⟩:BA),((⟨#[]⟩:BA),())),(v.2.2.2.2.1,()))))),(false,()))))
  else
  if (v.1==(4:Int))=true then
   (sj n (v.2.2.2.1.1,(v.2.2.2.1.2.1,()))).bind fun v7=>
   k ((v.1,((⟨#[]⟩:BA),(false,((v.2.2.2.1.1,(v.2.2.2.1.2.1,())),((0:Int),()))))),(v7,()))
  else
   if (v.1==(7:Int))=true then
   (Mn n v.2.1).bind fun v8=>
   if v8=false then
    if (v.2.1.toList==(⟨#[]⟩:BA).toList)=true then
    (
     k ((v.1,(v.2.1,(false,(((⟨#[]⟩:BA),((⟨#[]⟩:BA),())),((0:Int),()))))),((v.1==(7:Int)),())))
    else
    (
     k ((v.1,(v.2.1,(false,(((⟨#[]⟩:BA),((⟨#[]⟩:BA),())),((0:Int),()))))),(false,())))
   else
    (
    k ((v.1,(v.2.1,(false,(((⟨#[]⟩:BA),((⟨#[]⟩:BA),())),((0:Int),()))))),(true,())))
   else
   if (v.1==(9:Int))=true then
    (Mn n v.2.1).bind fun v9=>
    if v9=false then
    if (v.2.1.toList==(⟨#[]⟩:BA).toList)=true then
     (
     k ((v.1,(v.2.1,(false,(((⟨#[]⟩:BA),((⟨#[]⟩:BA),())),((0:Int),()))))),((v.1==(7:Int)),())))
    else
     (
     k ((v.1,(v.2.1,(false,(((⟨#[]⟩:BA),((⟨#[]⟩:BA),())),((0:Int),()))))),(false,())))
    else
    (
     k ((v.1,(v.2.1,(false,(((⟨#[]⟩:BA),((⟨#[]⟩:BA),())),((0:Int),()))))),(true,())))
   else
    if (v.1==(5:Int))=true then
    k ((v.1,((⟨#[]⟩:BA),(false,(((⟨#[]⟩:BA),((⟨#[]⟩:BA),())),((0:Int),()))))),(true,()))
    else
    if (v.1==(6:Int))=true then
     k ((v.1,((⟨#[]⟩:BA),(false,(((⟨#[]⟩:BA),((⟨#[]⟩:BA),())),((0:Int),()))))),(true,()))
    else
     if (v.1==(8:Int))=true then
     k ((v.1,((⟨#[]⟩:BA),(false,(((⟨#[]⟩:BA),((⟨#[]⟩:BA),())),((0:Int),()))))),(true,()))
     else
     k ((v.1,((⟨#[]⟩:BA),(false,(((⟨#[]⟩:BA),((⟨#[]⟩:BA),())),((0:Int),()))))),(false,()))
theorem bD: @Dw= @Xp:=by
 funext n R v k
 unfold Dw Xp
 repeat' first
  | with_reducible rfl
  | with_reducible refine Gl ?_ ?_
  | with_reducible refine Oq ?_
  | with_reducible refine Zq ?_ ?_
  | with_reducible refine Fl (by first | with_reducible rfl) (fun _=>?_)
  | with_reducible refine dr (fun _=>?_) (fun _=>?_) (fun _=>?_)
  | rfl
def ZE (n:Nat) (v:T1):Option (T1×Bool×Unit):=Dw n v some
theorem uH: @ZE= @Yy:=by
 funext n v
 unfold ZE Yy
 simp only [bD]
def vA (n:Nat) {R:Type} (v:T1) (k:Bool→Option R):Option R:=
 (ZE n (v.1,(v.2.1,(v.2.2.1,((v.2.2.2.1.1,(v.2.2.2.1.2.1,())),(v.2.2.2.2.1,())))))).bind fun v1=>
 if v1.2.1=true then
 k ((v1.1.1==v.1)&&((v1.1.2.1.toList==v.2.1.toList)&&((v1.1.2.2.1==v.2.2.1)&&(((v1.1.2.2.2.1.1.toList==v.2.2.2.1.1.toList)&&((v1.1.2.2.2.1.2.1.toList==v.2.2.2.1.2.1.toList)&&true))&&((v1.1.2.2.2.2.1==v.2.2.2.2.1)&&true)))))
 else
 k false
theorem PE: @vA= @tw:=by
 funext n R v k
 unfold vA tw
 simp only [uH]
def Dc (n:Nat) (v:T1):Option Bool:=vA n v some
theorem QC: @Dc= @Fe:=by
 funext n v
 unfold Dc Fe
 simp only [PE]
def Hw (n:Nat) {R:Type} (s:BA) (k:T1→Option R) (kp:Int→Option R):Option R:=
 if (decide ((s.size:Int)≥(4:Int)))=true then
 if 0≤(4:Int)∧(4:Int)≤(s.size:Int) then
  (zi n (s.extract (Int.toNat (0:Int)) (Int.toNat (4:Int)))).bind fun v=>
  if (decide (v>(0:Int)))=true then
  if ((s.size:Int)==(4:Int))=false then
   if 0≤(4:Int)∧(4:Int)<(s.size:Int) then
   (ra n ((bt s (4:Int))==(32:Int)) (3:Int)).bind fun x_1=>AO x_1 (fun p=>
    kp p) (fun v1=>
   if 0≤(4:Int)∧(4:Int)≤(s.size:Int) then
    (zi n (s.extract (Int.toNat (0:Int)) (Int.toNat (4:Int)))).bind fun v2=>
    if 0≤(4:Int)∧(4:Int)≤(s.size:Int) then
    if (v2==(3:Int))=true then
     (Ib n (s.extract (Int.toNat (4:Int)) (Int.toNat (s.size:Int))) (⟨#[32,70,82,79,77,58]⟩:BA)).bind fun x_2=>AO x_2 (fun p1=>
     kp p1) (fun v3=>
     (Jd n v3).bind fun x_3=>AO x_3 (fun p2=>
     kp p2) (fun v4=>
     (wl n v4.2.2.1).bind fun x_4=>AO x_4 (fun p3=>
     kp p3) (fun v5=>
     (Dc n (v2,((⟨#[]⟩:BA),(v4.2.1,((v4.1.1,(v4.1.2.1,())),(v5,())))))).bind fun v6=>
     (ra n v6 (8:Int)).bind fun x_5=>AO x_5 (fun p4=>
     kp p4) (fun v7=>
     k (v2,((⟨#[]⟩:BA),(v4.2.1,((v4.1.1,(v4.1.2.1,())),(v5,())))))))))
    else
     if (v2==(4:Int))=true then
     (Ib n (s.extract (Int.toNat (4:Int)) (Int.toNat (s.size:Int))) (⟨#[32,84,79,58]⟩:BA)).bind fun x_6=>AO x_6 (fun p5=>
      kp p5) (fun v8=>
     (Jd n v8).bind fun x_7=>AO x_7 (fun p6=>
      kp p6) (fun v9=>
     (ra n (v9.2.2.1.toList==(⟨#[]⟩:BA).toList) (8:Int)).bind fun x_8=>AO x_8 (fun p7=>
      kp p7) (fun v10=>
     (Dc n (v2,((⟨#[]⟩:BA),(v9.2.1,((v9.1.1,(v9.1.2.1,())),((0:Int),())))))).bind fun v11=>
     (ra n v11 (8:Int)).bind fun x_9=>AO x_9 (fun p8=>
      kp p8) (fun v12=>
     k (v2,((⟨#[]⟩:BA),(v9.2.1,((v9.1.1,(v9.1.2.1,())),((0:Int),())))))))))
     else
     if (v2==(1:Int))=true then
      (qa n (s.extract (Int.toNat (4:Int)) (Int.toNat (s.size:Int))) (⟨#[32]⟩:BA)).bind fun v13=>
      (Ja n v13).bind fun v14=>
      (ra n (v14.2.1==(0:Int)) (8:Int)).bind fun x_10=>AO x_10 (fun p9=>
      kp p9) (fun v15=>
      (Dc n (v2,(v14.1,(false,(((⟨#[]⟩:BA),((⟨#[]⟩:BA),())),((0:Int),())))))).bind fun v16=>
      (ra n v16 (8:Int)).bind fun x_11=>AO x_11 (fun p10=>
      kp p10) (fun v17=>
      k (v2,(v14.1,(false,(((⟨#[]⟩:BA),((⟨#[]⟩:BA),())),((0:Int),())))))))
     else
      if (v2==(2:Int))=true then
      (qa n (s.extract (Int.toNat (4:Int)) (Int.toNat (s.size:Int))) (⟨#[32]⟩:BA)).bind fun v18=>
      (Ja n v18).bind fun v19=>
      (ra n (v19.2.1==(0:Int)) (8:Int)).bind fun x_12=>AO x_12 (fun p11=>
       kp p11) (fun v20=>
      (Dc n (v2,(v19.1,(false,(((⟨#[]⟩:BA),((⟨#[]⟩:BA),())),((0:Int),())))))).bind fun v21=>
      (ra n v21 (8:Int)).bind fun x_13=>AO x_13 (fun p12=>
       kp p12) (fun v22=>
      k (v2,(v19.1,(false,(((⟨#[]⟩:BA),((⟨#[]⟩:BA),())),((0:Int),())))))))
      else
      (ra n (!((s.extract (Int.toNat (4:Int)) (Int.toNat (s.size:Int))).toList==(⟨#[32]⟩:BA).toList)) (8:Int)).bind fun x_14=>AO x_14 (fun p13=>
       kp p13) (fun v23=>
      (qa n (s.extract (Int.toNat (4:Int)) (Int.toNat (s.size:Int))) (⟨#[32]⟩:BA)).bind fun v24=>
      (Dc n (v2,(v24,(false,(((⟨#[]⟩:BA),((⟨#[]⟩:BA),())),((0:Int),())))))).bind fun v25=>
      (ra n v25 (8:Int)).bind fun x_15=>AO x_15 (fun p14=>
       kp p14) (fun v26=>
      k (v2,(v24,(false,(((⟨#[]⟩:BA),((⟨#[]⟩:BA),())),((0:Int),())))))))
    else
    none
   else
    none)
   else
   none
  else
   (ra n true (3:Int)).bind fun x_16=>AO x_16 (fun p15=>
   kp p15) (fun v27=>
   if 0≤(4:Int)∧(4:Int)≤(s.size:Int) then
   (zi n (s.extract (Int.toNat (0:Int)) (Int.toNat (4:Int)))).bind fun v28=>
   if 0≤(4:Int)∧(4:Int)≤(s.size:Int) then
    if (v28==(3:Int))=true then
    (Ib n (s.extract (Int.toNat (4:Int)) (Int.toNat (s.size:Int))) (⟨#[32,70,82,79,77,58]⟩:BA)).bind fun x_17=>AO x_17 (fun p16=>
     kp p16) (fun v29=>
    (Jd n v29).bind fun x_18=>AO x_18 (fun p17=>
     kp p17) (fun v30=>
    (wl n v30.2.2.1).bind fun x_19=>AO x_19 (fun p18=>
     kp p18) (fun v31=>
    (Dc n (v28,((⟨#[]⟩:BA),(v30.2.1,((v30.1.1,(v30.1.2.1,())),(v31,())))))).bind fun v32=>
    (ra n v32 (8:Int)).bind fun x_20=>AO x_20 (fun p19=>
     kp p19) (fun v33=>
    k (v28,((⟨#[]⟩:BA),(v30.2.1,((v30.1.1,(v30.1.2.1,())),(v31,())))))))))
    else
    if (v28==(4:Int))=true then
     (Ib n (s.extract (Int.toNat (4:Int)) (Int.toNat (s.size:Int))) (⟨#[32,84,79,58]⟩:BA)).bind fun x_21=>AO x_21 (fun p20=>
     kp p20) (fun v34=>
     (Jd n v34).bind fun x_22=>AO x_22 (fun p21=>
     kp p21) (fun v35=>
     (ra n (v35.2.2.1.toList==(⟨#[]⟩:BA).toList) (8:Int)).bind fun x_23=>AO x_23 (fun p22=>
     kp p22) (fun v36=>
     (Dc n (v28,((⟨#[]⟩:BA),(v35.2.1,((v35.1.1,(v35.1.2.1,())),((0:Int),())))))).bind fun v37=>
     (ra n v37 (8:Int)).bind fun x_24=>AO x_24 (fun p23=>
     kp p23) (fun v38=>
     k (v28,((⟨#[]⟩:BA),(v35.2.1,((v35.1.1,(v35.1.2.1,())),((0:Int),())))))))))
    else
     if (v28==(1:Int))=true then
     (qa n (s.extract (Int.toNat (4:Int)) (Int.toNat (s.size:Int))) (⟨#[32]⟩:BA)).bind fun v39=>
     (Ja n v39).bind fun v40=>
     (ra n (v40.2.1==(0:Int)) (8:Int)).bind fun x_25=>AO x_25 (fun p24=>
      kp p24) (fun v41=>
     (Dc n (v28,(v40.1,(false,(((⟨#[]⟩:BA),((⟨#[]⟩:BA),())),((0:Int),())))))).bind fun v42=>
     (ra n v42 (8:Int)).bind fun x_26=>AO x_26 (fun p25=>
      kp p25) (fun v43=>
     k (v28,(v40.1,(false,(((⟨#[]⟩:BA),((⟨#[]⟩:BA),())),((0:Int),())))))))
     else
     if (v28==(2:Int))=true then
      (qa n (s.extract (Int.toNat (4:Int)) (Int.toNat (s.size:Int))) (⟨#[32]⟩:BA)).bind fun v44=>
      (Ja n v44).bind fun v45=>
      (ra n (v45.2.1==(0:Int)) (8:Int)).bind fun x_27=>AO x_27 (fun p26=>
      kp p26) (fun v46=>
      (Dc n (v28,(v45.1,(false,(((⟨#[]⟩:BA),((⟨#[]⟩:BA),())),((0:Int),())))))).bind fun v47=>
      (ra n v47 (8:Int)).bind fun x_28=>AO x_28 (fun p27=>
      kp p27) (fun v48=>
      k (v28,(v45.1,(false,(((⟨#[]⟩:BA),((⟨#[]⟩:BA),())),((0:Int),())))))))
     else
      (ra n (!((s.extract (Int.toNat (4:Int)) (Int.toNat (s.size:Int))).toList==(⟨#[32]⟩:BA).toList)) (8:Int)).bind fun x_29=>AO x_29 (fun p28=>
      kp p28) (fun v49=>
      (qa n (s.extract (Int.toNat (4:Int)) (Int.toNat (s.size:Int))) (⟨#[32]⟩:BA)).bind fun v50=>
      (Dc n (v28,(v50,(false,(((⟨#[]⟩:BA),((⟨#[]⟩:BA),())),((0:Int),())))))).bind fun v51=>
      (ra n v51 (8:Int)).bind fun x_30=>AO x_30 (fun p29=>
      kp p29) (fun v52=>
      k (v28,(v50,(false,(((⟨#[]⟩:BA),((⟨#[]⟩:BA),())),((0:Int),())))))))
   else
    none
   else
   none)
  else
  (ra n false (3:Int)).bind fun x_31=>AO x_31 (fun p30=>
   kp p30) (fun v53=>
  if 0≤(4:Int)∧(4:Int)≤(s.size:Int) then
   (zi n (s.extract (Int.toNat (0:Int)) (Int.toNat (4:Int)))).bind fun v54=>
   if 0≤(4:Int)∧(4:Int)≤(s.size:Int) then
   if (v54==(3:Int))=true then
    (Ib n (s.extract (Int.toNat (4:Int)) (Int.toNat (s.size:Int))) (⟨#[32,70,82,79,77,58]⟩:BA)).bind fun x_32=>AO x_32 (fun p31=>
    kp p31) (fun v55=>
    (Jd n v55).bind fun x_33=>AO x_33 (fun p32=>
    kp p32) (fun v56=>
    (wl n v56.2.2.1).bind fun x_34=>AO x_34 (fun p33=>
    kp p33) (fun v57=>
    (Dc n (v54,((⟨#[]⟩:BA),(v56.2.1,((v56.1.1,(v56.1.2.1,())),(v57,())))))).bind fun v58=>
    (ra n v58 (8:Int)).bind fun x_35=>AO x_35 (fun p34=>
    kp p34) (fun v59=>
    k (v54,((⟨#[]⟩:BA),(v56.2.1,((v56.1.1,(v56.1.2.1,())),(v57,())))))))))
   else
    if (v54==(4:Int))=true then
    (Ib n (s.extract (Int.toNat (4:Int)) (Int.toNat (s.size:Int))) (⟨#[32,84,79,58]⟩:BA)).bind fun x_36=>AO x_36 (fun p35=>
     kp p35) (fun v60=>
    (Jd n v60).bind fun x_37=>AO x_37 (fun p36=>
     kp p36) (fun v61=>
    (ra n (v61.2.2.1.toList==(⟨#[]⟩:BA).toList) (8:Int)).bind fun x_38=>AO x_38 (fun p37=>
     kp p37) (fun v62=>
    (Dc n (v54,((⟨#[]⟩:BA),(v61.2.1,((v61.1.1,(v61.1.2.1,())),((0:Int),())))))).bind fun v63=>
    (ra n v63 (8:Int)).bind fun x_39=>AO x_39 (fun p38=>
     kp p38) (fun v64=>
    k (v54,((⟨#[]⟩:BA),(v61.2.1,((v61.1.1,(v61.1.2.1,())),((0:Int),())))))))))
    else
    if (v54==(1:Int))=true then
     (qa n (s.extract (Int.toNat (4:Int)) (Int.toNat (s.size:Int))) (⟨#[32]⟩:BA)).bind fun v65=>
     (Ja n v65).bind fun v66=>
     (ra n (v66.2.1==(0:Int)) (8:Int)).bind fun x_40=>AO x_40 (fun p39=>
     kp p39) (fun v67=>
     (Dc n (v54,(v66.1,(false,(((⟨#[]⟩:BA),((⟨#[]⟩:BA),())),((0:Int),())))))).bind fun v68=>
     (ra n v68 (8:Int)).bind fun x_41=>AO x_41 (fun p40=>
     kp p40) (fun v69=>
     k (v54,(v66.1,(false,(((⟨#[]⟩:BA),((⟨#[]⟩:BA),())),((0:Int),())))))))
    else
     if (v54==(2:Int))=true then
     (qa n (s.extract (Int.toNat (4:Int)) (Int.toNat (s.size:Int))) (⟨#[32]⟩:BA)).bind fun v70=>
     (Ja n v70).bind fun v71=>
     (ra n (v71.2.1==(0:Int)) (8:Int)).bind fun x_42=>AO x_42 (fun p41=>
      kp p41) (fun v72=>
     (Dc n (v54,(v71.1,(false,(((⟨#[]⟩:BA),((⟨#[]⟩:BA),())),((0:Int),())))))).bind fun v73=>
     (ra n v73 (8:Int)).bind fun x_43=>AO x_43 (fun p42=>
      kp p42) (fun v74=>
     k (v54,(v71.1,(false,(((⟨#[]⟩:BA),((⟨#[]⟩:BA),())),((0:Int),())))))))
     else
     (ra n (!((s.extract (Int.toNat (4:Int)) (Int.toNat (s.size:Int))).toList==(⟨#[32]⟩:BA).toList)) (8:Int)).bind fun x_44=>AO x_44 (fun p43=>
      kp p43) (fun v75=>
     (qa n (s.extract (Int.toNat (4:Int)) (Int.toNat (s.size:Int))) (⟨#[32]⟩:BA)).bind fun v76=>
     (Dc n (v54,(v76,(false,(((⟨#[]⟩:BA),((⟨#[]⟩:BA),())),((0:Int),())))))).bind fun v77=>
     (ra n v77 (8:Int)).bind fun x_45=>AO x_45 (fun p44=>
      kp p44) (fun v78=>
     k (v54,(v76,(false,(((⟨#[]⟩:BA),((⟨#[]⟩:BA),())),((0:Int),())))))))
   else
   none
  else
   none)
 else
  none
 else
 (ra n false (3:Int)).bind fun x_46=>AO x_46 (fun p45=>
  kp p45) (fun v79=>
 if 0≤(4:Int)∧(4:Int)≤(s.size:Int) then
  (zi n (s.extract (Int.toNat (0:Int)) (Int.toNat (4:Int)))).bind fun v80=>
  if 0≤(4:Int)∧(4:Int)≤(s.size:Int) then
  if (v80==(3:Int))=true then
   (Ib n (s.extract (Int.toNat (4:Int)) (Int.toNat (s.size:Int))) (⟨#[32,70,82,79,77,58]⟩:BA)).bind fun x_47=>AO x_47 (fun p46=>
   kp p46) (fun v81=>
   (Jd n v81).bind fun x_48=>AO x_48 (fun p47=>
   kp p47) (fun v82=>
   (wl n v82.2.2.1).bind fun x_49=>AO x_49 (fun p48=>
   kp p48) (fun v83=>
   (Dc n (v80,((⟨#[]⟩:BA),(v82.2.1,((v82.1.1,(v82.1.2.1,())),(v83,())))))).bind fun v84=>
   (ra n v84 (8:Int)).bind fun x_50=>AO x_50 (fun p49=>
   kp p49) (fun v85=>
   k (v80,((⟨#[]⟩:BA),(v82.2.1,((v82.1.1,(v82.1.2.1,())),(v83,())))))))))
  else
   if (v80==(4:Int))=true then
   (Ib n (s.extract (Int.toNat (4:Int)) (Int.toNat (s.size:Int))) (⟨#[32,84,79,58]⟩:BA)).bind fun x_51=>AO x_51 (fun p50=>
    kp p50) (fun v86=>
   (Jd n v86).bind fun x_52=>AO x_52 (fun p51=>
    kp p51) (fun v87=>
   (ra n (v87.2.2.1.toList==(⟨#[]⟩:BA).toList) (8:Int)).bind fun x_53=>AO x_53 (fun p52=>
    kp p52) (fun v88=>
   (Dc n (v80,((⟨#[]⟩:BA),(v87.2.1,((v87.1.1,(v87.1.2.1,())),((0:Int),())))))).bind fun v89=>
   (ra n v89 (8:Int)).bind fun x_54=>AO x_54 (fun p53=>
    kp p53) (fun v90=>
   k (v80,((⟨#[]⟩:BA),(v87.2.1,((v87.1.1,(v87.1.2.1,())),((0:Int),())))))))))
   else
   if (v80==(1:Int))=true then
    (qa n (s.extract (Int.toNat (4:Int)) (Int.toNat (s.size:Int))) (⟨#[32]⟩:BA)).bind fun v91=>
    (Ja n v91).bind fun v92=>
    (ra n (v92.2.1==(0:Int)) (8:Int)).bind fun x_55=>AO x_55 (fun p54=>
    kp p54) (fun v93=>
    (Dc n (v80,(v92.1,(false,(((⟨#[]⟩:BA),((⟨#[]⟩:BA),())),((0:Int),())))))).bind fun v94=>
    (ra n v94 (8:Int)).bind fun x_56=>AO x_56 (fun p55=>
    kp p55) (fun v95=>
    k (v80,(v92.1,(false,(((⟨#[]⟩:BA),((⟨#[]⟩:BA),())),((0:Int),())))))))
   else
    if (v80==(2:Int))=true then
    (qa n (s.extract (Int.toNat (4:Int)) (Int.toNat (s.size:Int))) (⟨#[32]⟩:BA)).bind fun v96=>
    (Ja n v96).bind fun v97=>
    (ra n (v97.2.1==(0:Int)) (8:Int)).bind fun x_57=>AO x_57 (fun p56=>
     kp p56) (fun v98=>
    (Dc n (v80,(v97.1,(false,(((⟨#[]⟩:BA),((⟨#[]⟩:BA),())),((0:Int),())))))).bind fun v99=>
    (ra n v99 (8:Int)).bind fun x_58=>AO x_58 (fun p57=>
     kp p57) (fun v100=>
    k (v80,(v97.1,(false,(((⟨#[]⟩:BA),((⟨#[]⟩:BA),())),((0:Int),())))))))
    else
    (ra n (!((s.extract (Int.toNat (4:Int)) (Int.toNat (s.size:Int))).toList==(⟨#[32]⟩:BA).toList)) (8:Int)).bind fun x_59=>AO x_59 (fun p58=>
     kp p58) (fun v101=>
    (qa n (s.extract (Int.toNat (4:Int)) (Int.toNat (s.size:Int))) (⟨#[32]⟩:BA)).bind fun v102=>
    (Dc n (v80,(v102,(false,(((⟨#[]⟩:BA),((⟨#[]⟩:BA),())),((0:Int),())))))).bind fun v103=>
    (ra n v103 (8:Int)).bind fun x_60=>AO x_60 (fun p59=>
     kp p59) (fun v104=>
    k (v80,(v102,(false,(((⟨#[]⟩:BA),((⟨#[]⟩:BA),())),((0:Int),())))))))
  else
  none
 else
  none)
theorem eD: @Hw= @Yp:=by
 funext n R s k kp
 unfold Hw Yp
 simp only [QC]
def bF (n:Nat) (s:BA):Option (Except Int T1):=Hw n s (fun y=>some (.ok y)) (fun p=>some (.error p))
theorem xH: @bF= @Zy:=by
 funext n s
 unfold bF Zy
 simp only [eD]
def Cr (n:Nat) {R:Type} (s:BA) (k:(T1×Int×Unit)→Option R):Option R:=
 (bF n s).bind fun x_1=>AO x_1 (fun p=>
 k (((0:Int),((⟨#[]⟩:BA),(false,(((⟨#[]⟩:BA),((⟨#[]⟩:BA),())),((0:Int),()))))),(p,()))) (fun v=>
 k ((v.1,(v.2.1,(v.2.2.1,((v.2.2.2.1.1,(v.2.2.2.1.2.1,())),(v.2.2.2.2.1,()))))),((0:Int),())))
theorem yA: @Cr= @xi:=by
 funext n R s k
 unfold Cr xi
 simp only [xH]
def xA (n:Nat) (s:BA):Option (T1×Int×Unit):=Cr n s some
theorem QE: @xA= @Br:=by
 funext n s
 unfold xA Br
 simp only [yA]
def Mi (n:Nat) {R:Type} (c c1 c2:Int) (c3:BA) (c4:Bool) (c5:Int) (c6:BA) (c7:Bool) (c8 c9:BA) (c10:Int) (c11:Bool) (l:(BA×(Bool×Unit))) (r0:(Sq (BA×(BA×Unit)))) (r1:(Sq BA)) (k:(T0×Int×BA×T1×Unit)→Option R):Option R:=
 if (c5==(4:Int))=true then
 (td n c c1 c2 c3 c4 c5 c6 c7 c8 c9 c10 c11 l r0 r1).bind fun v=>
 (
  k (v.1,((0:Int),(v.2.1,(((0:Int),((⟨#[]⟩:BA),(false,(((⟨#[]⟩:BA),((⟨#[]⟩:BA),())),((0:Int),()))))),())))))
 else
 if l.2.1=true then
  (
  k ((c,(c1,(c2,((c3,(c4,())),(c5,(c6,(c7,((c8,(c9,())),(r0,(r1,(c10,(c11,())))))))))))),((500:Int),((⟨#[]⟩:BA),(((0:Int),((⟨#[]⟩:BA),(false,(((⟨#[]⟩:BA),((⟨#[]⟩:BA),())),((0:Int),()))))),())))))
 else
  (xA n l.1).bind fun v1=>
  if (v1.2.1==(0:Int))=true then
  (Jc n c c1 c2 c3 c4 c5 c6 c7 c8 c9 c10 c11 v1.1 r0 r1).bind fun v2=>
  (
   k (v2.1,(v2.2.1,(v2.2.2.1,(v1.1,())))))
  else
  if (v1.2.1==(3:Int))=true then
   (
   k ((c,(c1,(c2,((c3,(c4,())),(c5,(c6,(c7,((c8,(c9,())),(r0,(r1,(c10,(c11,())))))))))))),((500:Int),((⟨#[]⟩:BA),(v1.1,())))))
  else
   (
   k ((c,(c1,(c2,((c3,(c4,())),(c5,(c6,(c7,((c8,(c9,())),(r0,(r1,(c10,(c11,())))))))))))),((501:Int),((⟨#[]⟩:BA),(v1.1,())))))
theorem jt: @Mi= @se:=by
 funext n R c c1 c2 c3 c4 c5 c6 c7 c8 c9 c10 c11 l r0 r1 k
 unfold Mi se
 repeat' first
  | with_reducible rfl
  | with_reducible refine Gl ?_ ?_
  | with_reducible refine Oq ?_
  | with_reducible refine Zq ?_ ?_
  | with_reducible refine Fl (by first | with_reducible rfl | simp only [QE]) (fun _=>?_)
  | with_reducible refine dr (fun _=>?_) (fun _=>?_) (fun _=>?_)
  | rfl
def Xm (n:Nat) (c c1 c2:Int) (c3:BA) (c4:Bool) (c5:Int) (c6:BA) (c7:Bool) (c8 c9:BA) (c10:Int) (c11:Bool) (l:(BA×(Bool×Unit))) (r0:(Sq (BA×(BA×Unit)))) (r1:(Sq BA)):Option (T0×Int×BA×T1×Unit):=Mi n c c1 c2 c3 c4 c5 c6 c7 c8 c9 c10 c11 l r0 r1 some
theorem ux: @Xm= @Td:=by
 funext n c c1 c2 c3 c4 c5 c6 c7 c8 c9 c10 c11 l r0 r1
 unfold Xm Td
 simp only [jt]
def Yu (n:Nat) {R:Type} (c:T0) (l:(BA×(Bool×Unit))) (k:(T0×Int×BA×Int×Unit)→Option R):Option R:=
 (yB n c).bind fun v=>
 if (!v)=true then
 k (((0:Int),((0:Int),((0:Int),(((⟨#[]⟩:BA),(false,())),((0:Int),((⟨#[]⟩:BA),(false,(((⟨#[]⟩:BA),((⟨#[]⟩:BA),())),((⟨0,fun _=>pa (.pair .str (.pair .str .unit))⟩:Sq (BA×(BA×Unit))),((⟨0,fun _=>pa .str⟩:Sq BA),((0:Int),(false,())))))))))))),((0:Int),((⟨#[]⟩:BA),((1:Int),()))))
 else
 if (c.2.2.2.2.1==(5:Int))=true then
  k (((0:Int),((0:Int),((0:Int),(((⟨#[]⟩:BA),(false,())),((0:Int),((⟨#[]⟩:BA),(false,(((⟨#[]⟩:BA),((⟨#[]⟩:BA),())),((⟨0,fun _=>pa (.pair .str (.pair .str .unit))⟩:Sq (BA×(BA×Unit))),((⟨0,fun _=>pa .str⟩:Sq BA),((0:Int),(false,())))))))))))),((0:Int),((⟨#[]⟩:BA),((6:Int),()))))
 else
  (
  (Zj n c).bind fun v1=>
  (Xm n v1.1 v1.2.1 v1.2.2.1 v1.2.2.2.1 v1.2.2.2.2.1 v1.2.2.2.2.2.1 v1.2.2.2.2.2.2.1 v1.2.2.2.2.2.2.2.1 v1.2.2.2.2.2.2.2.2.1 v1.2.2.2.2.2.2.2.2.2.1 v1.2.2.2.2.2.2.2.2.2.2.1 v1.2.2.2.2.2.2.2.2.2.2.2.1 l v1.2.2.2.2.2.2.2.2.2.2.2.2.1 v1.2.2.2.2.2.2.2.2.2.2.2.2.2.1).bind fun v2=>
  (Zj n v2.1).bind fun v3=>
  k ((v3.1,(v3.2.1,(v3.2.2.1,((v3.2.2.2.1,(v3.2.2.2.2.1,())),(v3.2.2.2.2.2.1,(v3.2.2.2.2.2.2.1,(v3.2.2.2.2.2.2.2.1,((v3.2.2.2.2.2.2.2.2.1,(v3.2.2.2.2.2.2.2.2.2.1,())),(v3.2.2.2.2.2.2.2.2.2.2.2.2.1,(v3.2.2.2.2.2.2.2.2.2.2.2.2.2.1,(v3.2.2.2.2.2.2.2.2.2.2.1,(v3.2.2.2.2.2.2.2.2.2.2.2.1,())))))))))))),(v2.2.1,(v2.2.2.1,((0:Int),())))))
theorem vB: @Yu= @Jo:=by
 funext n R c l k
 unfold Yu Jo
 repeat' first
  | with_reducible rfl
  | with_reducible refine Gl ?_ ?_
  | with_reducible refine Oq ?_
  | with_reducible refine Zq ?_ ?_
  | with_reducible refine Fl (by first | with_reducible rfl | simp only [iv,Cs,ux]) (fun _=>?_)
  | with_reducible refine dr (fun _=>?_) (fun _=>?_) (fun _=>?_)
  | rfl
def yq (n:Nat) (c:T0) (l:(BA×(Bool×Unit))):Option (T0×Int×BA×Int×Unit):=Yu n c l some
theorem zq: @yq= @Io:=by
 funext n c l
 unfold yq Io
 simp only [vB]
def nv (n:Nat) {R:Type} (id tenant ip:Int) (k:(T0×Int×Unit)→Option R):Option R:=
 (yB n (id,(tenant,(ip,(((⟨#[]⟩:BA),(false,())),((0:Int),((⟨#[]⟩:BA),(false,(((⟨#[]⟩:BA),((⟨#[]⟩:BA),())),((⟨0,fun _=>pa (.pair .str (.pair .str .unit))⟩:Sq (BA×(BA×Unit))),((⟨0,fun _=>pa .str⟩:Sq BA),((0:Int),(false,()))))))))))))).bind fun v=>
 if (!v)=true then
 k (((0:Int),((0:Int),((0:Int),(((⟨#[]⟩:BA),(false,())),((0:Int),((⟨#[]⟩:BA),(false,(((⟨#[]⟩:BA),((⟨#[]⟩:BA),())),((⟨0,fun _=>pa (.pair .str (.pair .str .unit))⟩:Sq (BA×(BA×Unit))),((⟨0,fun _=>pa .str⟩:Sq BA),((0:Int),(false,())))))))))))),((1:Int),()))
 else
 k ((id,(tenant,(ip,(((⟨#[]⟩:BA),(false,())),((0:Int),((⟨#[]⟩:BA),(false,(((⟨#[]⟩:BA),((⟨#[]⟩:BA),())),((⟨0,fun _=>pa (.pair .str (.pair .str .unit))⟩:Sq (BA×(BA×Unit))),((⟨0,fun _=>pa .str⟩:Sq BA),((0:Int),(false,())))))))))))),((0:Int),()))
theorem zB: @nv= @Ko:=by
 funext n R id tenant ip k
 unfold nv Ko
 simp only [iv]
def Gz (n:Nat) (id tenant ip:Int):Option (T0×Int×Unit):=nv n id tenant ip some
theorem By: @Gz= @mv:=by
 funext n id tenant ip
 unfold Gz mv
 simp only [zB]
def Sn (n:Nat) {R:Type} (k:Bool→Option R):Option R:=
 (Gz n (1:Int) (0:Int) (5:Int)).bind fun v=>
 (yq n v.1 ((⟨#[69,72,76,79,32,120]⟩:BA),(false,()))).bind fun v1=>
 (Jb n v.2.1).bind fun v2=>
 if (v2==(0:Int))=true then
 (Jb n v1.2.2.2.1).bind fun v3=>
 if (v3==(0:Int))=true then
  if (v1.2.1==(250:Int))=true then
  if (v1.2.2.1.toList==(⟨#[]⟩:BA).toList)=true then
   if (v1.1.2.2.2.2.1==(1:Int))=true then
   k (v1.1.2.2.2.2.2.1.toList==(⟨#[120]⟩:BA).toList)
   else
   k false
  else
   k false
  else
  k false
 else
  k false
 else
 k false
theorem my: @Sn= @Ci:=by
 funext n R k
 unfold Sn Ci
 simp only [zq,By]
def Uw (n:Nat):Option Bool:=Sn n some
theorem pD: @Uw= @Pl:=by
 funext n
 unfold Uw Pl
 simp only [my]
def Iz (n:Nat) {R:Type} (c:T0) (v:T1) (k:(T0×Int×Unit)→Option R):Option R:=
 (yB n c).bind fun v1=>
 if (!v1)=false then
 (Dc n v).bind fun v2=>
 if (!v2)=true then
  k (((0:Int),((0:Int),((0:Int),(((⟨#[]⟩:BA),(false,())),((0:Int),((⟨#[]⟩:BA),(false,(((⟨#[]⟩:BA),((⟨#[]⟩:BA),())),((⟨0,fun _=>pa (.pair .str (.pair .str .unit))⟩:Sq (BA×(BA×Unit))),((⟨0,fun _=>pa .str⟩:Sq BA),((0:Int),(false,())))))))))))),((1:Int),()))
 else
  (Zj n c).bind fun v3=>
  if (v.1==(3:Int))=true then
  if (v3.2.2.2.2.2.1 !=(1:Int))=true then
   k (((0:Int),((0:Int),((0:Int),(((⟨#[]⟩:BA),(false,())),((0:Int),((⟨#[]⟩:BA),(false,(((⟨#[]⟩:BA),((⟨#[]⟩:BA),())),((⟨0,fun _=>pa (.pair .str (.pair .str .unit))⟩:Sq (BA×(BA×Unit))),((⟨0,fun _=>pa .str⟩:Sq BA),((0:Int),(false,())))))))))))),((6:Int),()))
  else
   (
   (
    k ((v3.1,(v3.2.1,(v3.2.2.1,((v3.2.2.2.1,(v3.2.2.2.2.1,())),((2:Int),(v3.2.2.2.2.2.2.1,(v.2.2.1,(v.2.2.2.1,(v3.2.2.2.2.2.2.2.2.2.2.2.2.1,(v3.2.2.2.2.2.2.2.2.2.2.2.2.2.1,(v3.2.2.2.2.2.2.2.2.2.2.1,(v3.2.2.2.2.2.2.2.2.2.2.2.1,())))))))))))),((0:Int),()))))
  else
  if (v.1==(4:Int))=true then
   if (v3.2.2.2.2.2.1 !=(2:Int))=true then
   if (v3.2.2.2.2.2.1 !=(3:Int))=true then
    k (((0:Int),((0:Int),((0:Int),(((⟨#[]⟩:BA),(false,())),((0:Int),((⟨#[]⟩:BA),(false,(((⟨#[]⟩:BA),((⟨#[]⟩:BA),())),((⟨0,fun _=>pa (.pair .str (.pair .str .unit))⟩:Sq (BA×(BA×Unit))),((⟨0,fun _=>pa .str⟩:Sq BA),((0:Int),(false,())))))))))))),((6:Int),()))
   else
    (HO n v3.2.2.2.2.2.2.2.2.2.2.2.2.1 v.2.2.2.1).bind fun v4=>
    if v4=true then
    k (((0:Int),((0:Int),((0:Int),(((⟨#[]⟩:BA),(false,())),((0:Int),((⟨#[]⟩:BA),(false,(((⟨#[]⟩:BA),((⟨#[]⟩:BA),())),((⟨0,fun _=>pa (.pair .str (.pair .str .unit))⟩:Sq (BA×(BA×Unit))),((⟨0,fun _=>pa .str⟩:Sq BA),((0:Int),(false,())))))))))))),((4:Int),()))
    else
    if ((v3.2.2.2.2.2.2.2.2.2.2.2.2.1.n:Int)==(8:Int))=true then
     k (((0:Int),((0:Int),((0:Int),(((⟨#[]⟩:BA),(false,())),((0:Int),((⟨#[]⟩:BA),(false,(((⟨#[]⟩:BA),((⟨#[]⟩:BA),())),((⟨0,fun _=>pa (.pair .str (.pair .str .unit))⟩:Sq (BA×(BA×Unit))),((⟨0,fun _=>pa .str⟩:Sq BA),((0:Int),(false,())))))))))))),((5:Int),()))
    else
     if cd (v3.2.2.2.2.2.2.2.2.2.2.2.2.1.n+1) 32=true then
     k ((v3.1,(v3.2.1,(v3.2.2.1,((v3.2.2.2.1,(v3.2.2.2.2.1,())),((3:Int),(v3.2.2.2.2.2.2.1,(v3.2.2.2.2.2.2.2.1,((v3.2.2.2.2.2.2.2.2.1,(v3.2.2.2.2.2.2.2.2.2.1,())),((⟨(v3.2.2.2.2.2.2.2.2.2.2.2.2.1.n+1),fun q=>if q<v3.2.2.2.2.2.2.2.2.2.2.2.2.1.n then v3.2.2.2.2.2.2.2.2.2.2.2.2.1.at' q else (fun q=>List.getD (α:=(BA×(BA×Unit))) [v.2.2.2.1] q (pa (.pair .str (.pair .str .unit)))) (q - v3.2.2.2.2.2.2.2.2.2.2.2.2.1.n)⟩:Sq (BA×(BA×Unit))),(v3.2.2.2.2.2.2.2.2.2.2.2.2.2.1,(v3.2.2.2.2.2.2.2.2.2.2.1,(v3.2.2.2.2.2.2.2.2.2.2.2.1,())))))))))))),((0:Int),()))
     else
     none
   else
   (HO n v3.2.2.2.2.2.2.2.2.2.2.2.2.1 v.2.2.2.1).bind fun v5=>
   if v5=true then
    k (((0:Int),((0:Int),((0:Int),(((⟨#[]⟩:BA),(false,())),((0:Int),((⟨#[]⟩:BA),(false,(((⟨#[]⟩:BA),((⟨#[]⟩:BA),())),((⟨0,fun _=>pa (.pair .str (.pair .str .unit))⟩:Sq (BA×(BA×Unit))),((⟨0,fun _=>pa .str⟩:Sq BA),((0:Int),(false,())))))))))))),((4:Int),()))
   else
    if ((v3.2.2.2.2.2.2.2.2.2.2.2.2.1.n:Int)==(8:Int))=true then
    k (((0:Int),((0:Int),((0:Int),(((⟨#[]⟩:BA),(false,())),((0:Int),((⟨#[]⟩:BA),(false,(((⟨#[]⟩:BA),((⟨#[]⟩:BA),())),((⟨0,fun _=>pa (.pair .str (.pair .str .unit))⟩:Sq (BA×(BA×Unit))),((⟨0,fun _=>pa .str⟩:Sq BA),((0:Int),(false,())))))))))))),((5:Int),()))
    else
    if cd (v3.2.2.2.2.2.2.2.2.2.2.2.2.1.n+1) 32=true then
     k ((v3.1,(v3.2.1,(v3.2.2.1,((v3.2.2.2.1,(v3.2.2.2.2.1,())),((3:Int),(v3.2.2.2.2.2.2.1,(v3.2.2.2.2.2.2.2.1,((v3.2.2.2.2.2.2.2.2.1,(v3.2.2.2.2.2.2.2.2.2.1,())),((⟨(v3.2.2.2.2.2.2.2.2.2.2.2.2.1.n+1),fun q=>if q<v3.2.2.2.2.2.2.2.2.2.2.2.2.1.n then v3.2.2.2.2.2.2.2.2.2.2.2.2.1.at' q else (fun q=>List.getD (α:=(BA×(BA×Unit))) [v.2.2.2.1] q (pa (.pair .str (.pair .str .unit)))) (q - v3.2.2.2.2.2.2.2.2.2.2.2.2.1.n)⟩:Sq (BA×(BA×Unit))),(v3.2.2.2.2.2.2.2.2.2.2.2.2.2.1,(v3.2.2.2.2.2.2.2.2.2.2.1,(v3.2.2.2.2.2.2.2.2.2.2.2.1,())))))))))))),((0:Int),()))
    else
     none
  else
   k (((0:Int),((0:Int),((0:Int),(((⟨#[]⟩:BA),(false,())),((0:Int),((⟨#[]⟩:BA),(false,(((⟨#[]⟩:BA),((⟨#[]⟩:BA),())),((⟨0,fun _=>pa (.pair .str (.pair .str .unit))⟩:Sq (BA×(BA×Unit))),((⟨0,fun _=>pa .str⟩:Sq BA),((0:Int),(false,())))))))))))),((1:Int),()))
 else
 k (((0:Int),((0:Int),((0:Int),(((⟨#[]⟩:BA),(false,())),((0:Int),((⟨#[]⟩:BA),(false,(((⟨#[]⟩:BA),((⟨#[]⟩:BA),())),((⟨0,fun _=>pa (.pair .str (.pair .str .unit))⟩:Sq (BA×(BA×Unit))),((⟨0,fun _=>pa .str⟩:Sq BA),((0:Int),(false,())))))))))))),((1:Int),()))
theorem VD: @Iz= @tv:=by
 funext n R c v k
 unfold Iz tv
 repeat' first
  | with_reducible rfl
  | with_reducible refine Gl ?_ ?_
  | with_reducible refine Oq ?_
  | with_reducible refine Zq ?_ ?_
  | with_reducible refine Fl (by first | with_reducible rfl | simp only [iv,Cs,QC]) (fun _=>?_)
  | with_reducible refine dr (fun _=>?_) (fun _=>?_) (fun _=>?_)
  | rfl
def FB (n:Nat) (c:T0) (v:T1):Option (T0×Int×Unit):=Iz n c v some
theorem GB: @FB= @EB:=by
 funext n c v
 unfold FB EB
 simp only [VD]
def ke (n:Nat) {R:Type} (i p1 p2 p3:Int) (p4:BA) (p5:Bool) (p6:Int) (p7:BA) (p8:Bool) (p9 p10:BA) (p11:(Sq (BA×(BA×Unit)))) (p12:(Sq BA)) (p13:Int) (p14:Bool) (p15:(Sq T2)) (c c1 c2:Int) (c3:BA) (c4:Bool) (c5:Int) (c6:BA) (c7:Bool) (c8 c9:BA) (c10:(Sq (BA×(BA×Unit)))) (c11:(Sq BA)) (c12:Int) (c13:Bool) (kn:Int→Int→Int→Int→BA→Bool→Int→BA→Bool→BA→BA→(Sq (BA×(BA×Unit)))→(Sq BA)→Int→Bool→(Sq T2)→Int→Int→Int→BA→Bool→Int→BA→Bool→BA→BA→(Sq (BA×(BA×Unit)))→(Sq BA)→Int→Bool→Option R) (ko:(Int×Int×Int×BA×Bool×Int×BA×Bool×BA×BA×(Sq (BA×(BA×Unit)))×(Sq BA)×Int×Bool×(Sq T2))→Option R) (kr:(Bool)→Option R) (kp:Int→Option R):Option R:=
 if (decide (i<(10:Int)))=true then
 if Re (⟨#[82,67,80,84,32,84,79,58,60]⟩:BA) (Bf 1 (fun q=>List.getD (α:=Int) [(IntKind.wrap .u8 (IntKind.wrap .i64 ((97:Int)+i)))] q (pa (.int .u8))))=true then
  if Re ((⟨#[82,67,80,84,32,84,79,58,60]⟩:BA)++(Bf 1 (fun q=>List.getD (α:=Int) [(IntKind.wrap .u8 (IntKind.wrap .i64 ((97:Int)+i)))] q (pa (.int .u8))))) (⟨#[64,89,62]⟩:BA)=true then
  (yq n (c,(c1,(c2,((c3,(c4,())),(c5,(c6,(c7,((c8,(c9,())),(c10,(c11,(c12,(c13,())))))))))))) ((((⟨#[82,67,80,84,32,84,79,58,60]⟩:BA)++(Bf 1 (fun q=>List.getD (α:=Int) [(IntKind.wrap .u8 (IntKind.wrap .i64 ((97:Int)+i)))] q (pa (.int .u8)))))++(⟨#[64,89,62]⟩:BA)),(false,()))).bind fun v6=>
  (FB n (c,(c1,(c2,((c3,(c4,())),(c5,(c6,(c7,((c8,(c9,())),(c10,(c11,(c12,(c13,())))))))))))) ((4:Int),((⟨#[]⟩:BA),(false,(((Bf 1 (fun q=>List.getD (α:=Int) [(IntKind.wrap .u8 (IntKind.wrap .i64 ((97:Int)+i)))] q (pa (.int .u8)))),((⟨#[121]⟩:BA),())),((0:Int),())))))).bind fun v7=>
  (Jb n v6.2.2.2.1).bind fun v8=>
  if (v8 !=(0:Int))=true then
   kr false
  else
   if (decide (i≥(8:Int)))=true then
   if (v6.2.1 !=(452:Int))=false then
    if (!(v6.2.2.1.toList==(⟨#[]⟩:BA).toList))=false then
    (Jb n v7.2.1).bind fun v9=>
    if (v9 !=(5:Int))=true then
     kr false
    else
     kn (IntKind.wrap .i64 (i+(1:Int))) p1 p2 p3 p4 p5 p6 p7 p8 p9 p10 p11 p12 p13 p14 p15 c c1 c2 c3 c4 c5 c6 c7 c8 c9 c10 c11 c12 c13
    else
    kr false
   else
    kr false
   else
   if (v6.2.1 !=(0:Int))=false then
    if (!(v6.2.2.1.toList==(⟨#[114,99,112,116]⟩:BA).toList))=false then
    (Jb n v7.2.1).bind fun v10=>
    if (v10 !=(0:Int))=false then
     if ((v7.1.2.2.2.2.2.2.2.2.1.n:Int) !=(IntKind.wrap .i64 (i+(1:Int))))=true then
     kr false
     else
     if Re (⟨#[114,99,112,116,32,116,111,58,60]⟩:BA) (Bf 1 (fun q=>List.getD (α:=Int) [(IntKind.wrap .u8 (IntKind.wrap .i64 ((97:Int)+i)))] q (pa (.int .u8))))=true then
      if Re ((⟨#[114,99,112,116,32,116,111,58,60]⟩:BA)++(Bf 1 (fun q=>List.getD (α:=Int) [(IntKind.wrap .u8 (IntKind.wrap .i64 ((97:Int)+i)))] q (pa (.int .u8))))) (⟨#[64,121,62]⟩:BA)=true then
      (yq n v7.1 ((((⟨#[114,99,112,116,32,116,111,58,60]⟩:BA)++(Bf 1 (fun q=>List.getD (α:=Int) [(IntKind.wrap .u8 (IntKind.wrap .i64 ((97:Int)+i)))] q (pa (.int .u8)))))++(⟨#[64,121,62]⟩:BA)),(false,()))).bind fun v11=>
      (FB n v7.1 ((4:Int),((⟨#[]⟩:BA),(false,(((Bf 1 (fun q=>List.getD (α:=Int) [(IntKind.wrap .u8 (IntKind.wrap .i64 ((97:Int)+i)))] q (pa (.int .u8)))),((⟨#[121]⟩:BA),())),((0:Int),())))))).bind fun v12=>
      if (i==(7:Int))=true then
       (Jb n v11.2.2.2.1).bind fun v13=>
       if (v13 !=(0:Int))=false then
       if (v11.2.1 !=(452:Int))=false then
        if (!(v11.2.2.1.toList==(⟨#[]⟩:BA).toList))=false then
        (Jb n v12.2.1).bind fun v14=>
        if (v14 !=(4:Int))=true then
         kr false
        else
         kn (IntKind.wrap .i64 (i+(1:Int))) p1 p2 p3 p4 p5 p6 p7 p8 p9 p10 p11 p12 p13 p14 p15 v7.1.1 v7.1.2.1 v7.1.2.2.1 v7.1.2.2.2.1.1 v7.1.2.2.2.1.2.1 v7.1.2.2.2.2.1 v7.1.2.2.2.2.2.1 v7.1.2.2.2.2.2.2.1 v7.1.2.2.2.2.2.2.2.1.1 v7.1.2.2.2.2.2.2.2.1.2.1 v7.1.2.2.2.2.2.2.2.2.1 v7.1.2.2.2.2.2.2.2.2.2.1 v7.1.2.2.2.2.2.2.2.2.2.2.1 v7.1.2.2.2.2.2.2.2.2.2.2.2.1
        else
        kr false
       else
        kr false
       else
       kr false
      else
       (Jb n v11.2.2.2.1).bind fun v15=>
       if (v15 !=(0:Int))=false then
       if (v11.2.1 !=(250:Int))=false then
        if (!(v11.2.2.1.toList==(⟨#[]⟩:BA).toList))=false then
        (Jb n v12.2.1).bind fun v16=>
        if (v16 !=(4:Int))=true then
         kr false
        else
         kn (IntKind.wrap .i64 (i+(1:Int))) p1 p2 p3 p4 p5 p6 p7 p8 p9 p10 p11 p12 p13 p14 p15 v7.1.1 v7.1.2.1 v7.1.2.2.1 v7.1.2.2.2.1.1 v7.1.2.2.2.1.2.1 v7.1.2.2.2.2.1 v7.1.2.2.2.2.2.1 v7.1.2.2.2.2.2.2.1 v7.1.2.2.2.2.2.2.2.1.1 v7.1.2.2.2.2.2.2.2.1.2.1 v7.1.2.2.2.2.2.2.2.2.1 v7.1.2.2.2.2.2.2.2.2.2.1 v7.1.2.2.2.2.2.2.2.2.2.2.1 v7.1.2.2.2.2.2.2.2.2.2.2.2.1
        else
        kr false
       else
        kr false
       else
       kr false
      else
      none
     else
      none
    else
     kr false
    else
    kr false
   else
    kr false
  else
  none
 else
  none
 else
 ko (p1,p2,p3,p4,p5,p6,p7,p8,p9,p10,p11,p12,p13,p14,p15)
theorem em: @ke= @nb:=by
 funext n R i p1 p2 p3 p4 p5 p6 p7 p8 p9 p10 p11 p12 p13 p14 p15 c c1 c2 c3 c4 c5 c6 c7 c8 c9 c10 c11 c12 c13 kn ko kr kp
 unfold ke nb
 simp only [zq,GB]
def Lc (n:Nat):Nat→Int→Int→Int→Int→BA→Bool→Int→BA→Bool→BA→BA→(Sq (BA×(BA×Unit)))→(Sq BA)→Int→Bool→(Sq T2)→Int→Int→Int→BA→Bool→Int→BA→Bool→BA→BA→(Sq (BA×(BA×Unit)))→(Sq BA)→Int→Bool→Option (Lx (Int×Int×Int×BA×Bool×Int×BA×Bool×BA×BA×(Sq (BA×(BA×Unit)))×(Sq BA)×Int×Bool×(Sq T2)) (Bool))
 | 0,_,_,_,_,_,_,_,_,_,_,_,_,_,_,_,_,_,_,_,_,_,_,_,_,_,_,_,_,_,_=>none
 | m+1,i,p1,p2,p3,p4,p5,p6,p7,p8,p9,p10,p11,p12,p13,p14,p15,c,c1,c2,c3,c4,c5,c6,c7,c8,c9,c10,c11,c12,c13=>ke n i p1 p2 p3 p4 p5 p6 p7 p8 p9 p10 p11 p12 p13 p14 p15 c c1 c2 c3 c4 c5 c6 c7 c8 c9 c10 c11 c12 c13 (Lc n m) (fun a=>some (.out a)) (fun a=>some (.ret a)) (fun p=>some (.pan p))
theorem af (n:Nat):∀ (m:Nat),Lc n m=Da n m
 | 0=>rfl
 | m+1=>by
  funext i p1 p2 p3 p4 p5 p6 p7 p8 p9 p10 p11 p12 p13 p14 p15 c c1 c2 c3 c4 c5 c6 c7 c8 c9 c10 c11 c12 c13
  have ih:=af n m
  simp only [Lc,Da,ih,em]
def Se (n:Nat) {R:Type} (p:(T0×((Sq T2)×Unit))) (k:Bool→Option R):Option R:=
 (Gz n (1:Int) (0:Int) (5:Int)).bind fun v=>
 (yq n v.1 ((⟨#[72,69,76,79,32,120]⟩:BA),(false,()))).bind fun v1=>
 (FB n v1.1 ((3:Int),((⟨#[]⟩:BA),(true,(((⟨#[]⟩:BA),((⟨#[]⟩:BA),())),((-1:Int),())))))).bind fun v2=>
 (Jb n v.2.1).bind fun v3=>
 if (v3 !=(0:Int))=false then
 (Jb n v1.2.2.2.1).bind fun v4=>
 if (v4 !=(0:Int))=false then
  (Jb n v2.2.1).bind fun v5=>
  if (v5 !=(0:Int))=true then
  k false
  else
  (Lc n n (0:Int) p.1.1 p.1.2.1 p.1.2.2.1 p.1.2.2.2.1.1 p.1.2.2.2.1.2.1 p.1.2.2.2.2.1 p.1.2.2.2.2.2.1 p.1.2.2.2.2.2.2.1 p.1.2.2.2.2.2.2.2.1.1 p.1.2.2.2.2.2.2.2.1.2.1 p.1.2.2.2.2.2.2.2.2.1 p.1.2.2.2.2.2.2.2.2.2.1 p.1.2.2.2.2.2.2.2.2.2.2.1 p.1.2.2.2.2.2.2.2.2.2.2.2.1 p.2.1 v2.1.1 v2.1.2.1 v2.1.2.2.1 v2.1.2.2.2.1.1 v2.1.2.2.2.1.2.1 v2.1.2.2.2.2.1 v2.1.2.2.2.2.2.1 v2.1.2.2.2.2.2.2.1 v2.1.2.2.2.2.2.2.2.1.1 v2.1.2.2.2.2.2.2.2.1.2.1 v2.1.2.2.2.2.2.2.2.2.1 v2.1.2.2.2.2.2.2.2.2.2.1 v2.1.2.2.2.2.2.2.2.2.2.2.1 v2.1.2.2.2.2.2.2.2.2.2.2.2.1).bind fun x_1=>zO x_1
   (fun a_2=>
   if (decide ((a_2.2.2.2.2.2.2.2.2.2.2.2.2.2.2.n:Int)≥(0:Int)))=true then
    (Uw n).bind fun v17=>
    k v17
   else
    k false)
   (fun a_3=>
   k a_3)
   (fun _=>none)
 else
  k false
 else
 k false
theorem Pn: @Se= @Hc:=by
 funext n R p k
 unfold Se Hc
 simp only [zq,By,pD,GB,af]
def Mh (n:Nat) (p:(T0×((Sq T2)×Unit))):Option Bool:=Se n p some
theorem Lr: @Mh= @w2_CallerMany:=by
 funext n p
 unfold Mh w2_CallerMany
 simp only [Pn]
end
open Go Go.RowKit
set_option maxRecDepth 100000
theorem IJ (p:T0×(Sq T2×Unit)):Mh 10000000 p=(if (decide ((p.2.1.n:Int)≥(0:Int)))=true then some true else some false):=by kernel_rfl
theorem plain_CallerMany (p:T0×(Sq T2×Unit)) (h:PN reachBytes K4 p):∃ n,w2_CallerMany n p=some true:=⟨10000000,by
 rw [←Lr,IJ p,if_pos (decide_eq_true (Int.natCast_nonneg _))]⟩
end Go.Proofs.YtddefjokgaajfaaGreatDoor.AM
