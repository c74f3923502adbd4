/- The functions of this seat without what tells that orders are alike (dup), by program (dedup.py): so the kernel can compute them. -/
import Derived.Test.YtddefjokgaajfaaGreatDoorYF1
set_option linter.all false
set_option linter.unusedVariables false
set_option linter.unusedSimpArgs false
set_option maxRecDepth 1000000
set_option maxHeartbeats 0
namespace Go.Proofs.YtddefjokgaajfaaGreatDoor.AM
open Go Go.RowKit
noncomputable section
section
variable {R S:Type}
theorem dX {x a b:Option R} (h1:x=a) (h2:x=b):x=Q3 a b:=by rw [←h1,←h2,ba]
theorem ZZ {x a:Option R} {k:Nat} (h:x=a):x=dup k a:=by rw [fa];exact h
theorem Q0 {c:Prop} [Decidable c] {a b a' b':Option R} (h1:a=a') (h2:b=b'):(if c then a else b)=(if c then a' else b'):=by rw [h1,h2]
theorem cX {a a':Option S} {f f':S→Option R} (h1:a=a') (h2:∀ v,f v=f' v):a.bind f=a'.bind f':=by rw [h1,funext h2]
theorem P1 {A B:Type} {x:Lx A B} {f f':A→Option R} {g g':B→Option R} {h h':Int→Option R} (h1:∀ v,f v=f' v) (h2:∀ v,g v=g' v) (h3:∀ v,h v=h' v):onL x f g h=onL x f' g' h':=by rw [funext h1,funext h2,funext h3]
end
def nj (n:Nat) {R:Type} (to:BA) (b0:Bool) (b01:(Sq Int)) (b02:BA) (b03:Bool) (b04:BA) (b05:(Sq BA)) (b06:BA) (b07:Bool) (b08:BA) (r1:(Sq BA)) (k:(Bool×(Sq Int)×BA×Bool×BA×(Sq BA)×BA×Bool×BA×(Sq BA)×Unit)→Option R):Option R:=
 (
 if Ta (r1.n+3) 16=true then
  k (b0,(b01,(b02,(b03,(b04,(b05,(b06,(b07,(b08,((⟨(r1.n+3),fun q=>if q<r1.n then r1.at' q else (fun q=>List.getD (α:=BA) [b04,to,b06] q (Ba .str)) (q - r1.n)⟩:Sq BA),()))))))))))
 else
  none)
theorem Px: @nj= @ed:=by
 funext n R to b0 b01 b02 b03 b04 b05 b06 b07 b08 r1 k
 unfold nj ed
 repeat' first
  | with_reducible rfl
  | with_reducible refine dX ?_ ?_
  | with_reducible refine ZZ ?_
  | with_reducible refine Q0 ?_ ?_
  | with_reducible refine cX (by first | with_reducible rfl) (fun _=>?_)
  | with_reducible refine P1 (fun _=>?_) (fun _=>?_) (fun _=>?_)
  | rfl
def Fh (n:Nat) (to:BA) (b0:Bool) (b01:(Sq Int)) (b02:BA) (b03:Bool) (b04:BA) (b05:(Sq BA)) (b06:BA) (b07:Bool) (b08:BA) (r1:(Sq BA)):Option (Bool×(Sq Int)×BA×Bool×BA×(Sq BA)×BA×Bool×BA×(Sq BA)×Unit):=nj n to b0 b01 b02 b03 b04 b05 b06 b07 b08 r1 some
theorem cB: @Fh= @Ib:=by
 funext n to b0 b01 b02 b03 b04 b05 b06 b07 b08 r1
 unfold Fh Ib
 simp only [Px]
def ai (n:Nat) {R:Type} (ok:Bool) (t17:(Sq BA)) (t18 t19:Int) (p:Bool) (p1:(Sq Int)) (p2:BA) (p3:Bool) (p4:BA) (p5:(Sq BA)) (p6:BA) (p7:Bool) (p8:BA) (r11:(Sq BA)) (kn:Bool→(Sq BA)→Int→Int→Bool→(Sq Int)→BA→Bool→BA→(Sq BA)→BA→Bool→BA→(Sq BA)→Option R) (ko:(Bool×(Sq Int)×BA×Bool×BA×(Sq BA)×BA×Bool×BA×(Sq BA))→Option R) (kr:Unit→Option R) (kp:Int→Option R):Option R:=
 if (decide (t19<t18))=true then
 if 0≤t19∧t19<(t17.n:Int) then
  if ok=false then
  if p=true then
   (Ab n p p1 p2 p3 p4 p5 p6 p7 p8 r11).bind fun v1=>
   if v1.1=true then
   (Fh n (t17.at' (Int.toNat t19)) v1.2.1 v1.2.2.1 v1.2.2.2.1 v1.2.2.2.2.1 v1.2.2.2.2.2.1 v1.2.2.2.2.2.2.1 v1.2.2.2.2.2.2.2.1 v1.2.2.2.2.2.2.2.2.1 v1.2.2.2.2.2.2.2.2.2.1 v1.2.2.2.2.2.2.2.2.2.2.1).bind fun v2=>
   kn ok t17 t18 (IntKind.wrap .i64 (t19+(1:Int))) v2.1 v2.2.1 v2.2.2.1 v2.2.2.2.1 v2.2.2.2.2.1 v2.2.2.2.2.2.1 v2.2.2.2.2.2.2.1 v2.2.2.2.2.2.2.2.1 v2.2.2.2.2.2.2.2.2.1 v2.2.2.2.2.2.2.2.2.2.1
   else
   kn ok t17 t18 (IntKind.wrap .i64 (t19+(1:Int))) v1.2.1 v1.2.2.1 v1.2.2.2.1 v1.2.2.2.2.1 v1.2.2.2.2.2.1 v1.2.2.2.2.2.2.1 v1.2.2.2.2.2.2.2.1 v1.2.2.2.2.2.2.2.2.1 v1.2.2.2.2.2.2.2.2.2.1 v1.2.2.2.2.2.2.2.2.2.2.1
  else
   kn ok t17 t18 (IntKind.wrap .i64 (t19+(1:Int))) p p1 p2 p3 p4 p5 p6 p7 p8 r11
  else
  (Fh n (t17.at' (Int.toNat t19)) p p1 p2 p3 p4 p5 p6 p7 p8 r11).bind fun v3=>
  kn ok t17 t18 (IntKind.wrap .i64 (t19+(1:Int))) v3.1 v3.2.1 v3.2.2.1 v3.2.2.2.1 v3.2.2.2.2.1 v3.2.2.2.2.2.1 v3.2.2.2.2.2.2.1 v3.2.2.2.2.2.2.2.1 v3.2.2.2.2.2.2.2.2.1 v3.2.2.2.2.2.2.2.2.2.1
 else
  none
 else
 ko (p,p1,p2,p3,p4,p5,p6,p7,p8,r11)
theorem yw: @ai= @La:=by
 funext n R ok t17 t18 t19 p p1 p2 p3 p4 p5 p6 p7 p8 r11 kn ko kr kp
 unfold ai La
 simp only [cB]
def Dd (n:Nat):Nat→Bool→(Sq BA)→Int→Int→Bool→(Sq Int)→BA→Bool→BA→(Sq BA)→BA→Bool→BA→(Sq BA)→Option (Lx (Bool×(Sq Int)×BA×Bool×BA×(Sq BA)×BA×Bool×BA×(Sq BA)) Unit)
 | 0,_,_,_,_,_,_,_,_,_,_,_,_,_,_=>none
 | m+1,ok,t17,t18,t19,p,p1,p2,p3,p4,p5,p6,p7,p8,r11=>ai n ok t17 t18 t19 p p1 p2 p3 p4 p5 p6 p7 p8 r11 (Dd n m) (fun a=>some (.out a)) (fun a=>some (.ret a)) (fun p=>some (.pan p))
theorem Sk (n:Nat):∀ (m:Nat),Dd n m=ya n m
 | 0=>rfl
 | m+1=>by
  funext ok t17 t18 t19 p p1 p2 p3 p4 p5 p6 p7 p8 r11
  have ih:=Sk n m
  simp only [Dd,ya,ih,yw]
def ej (n:Nat) {R:Type} (b0:Bool) (b01:(Sq Int)) (b02:BA) (b03:Bool) (b04 b05:BA) (b06:Bool) (b07:BA) (r1 r2:(Sq BA)) (k:(Bool×(Sq Int)×BA×Bool×BA×BA×Bool×BA×(Sq BA)×(Sq BA)×Unit)→Option R):Option R:=
 if (!b0)=true then
 (Ab n b0 b01 b02 b03 b04 r1 b05 b06 b07 r2).bind fun v=>
 (Dd n n v.1 v.2.2.2.2.2.2.1 (v.2.2.2.2.2.2.1.n:Int) (0:Int) v.2.1 v.2.2.1 v.2.2.2.1 v.2.2.2.2.1 v.2.2.2.2.2.1 v.2.2.2.2.2.2.1 v.2.2.2.2.2.2.2.1 v.2.2.2.2.2.2.2.2.1 v.2.2.2.2.2.2.2.2.2.1 v.2.2.2.2.2.2.2.2.2.2.1).bind fun x_1=>onL x_1
  (fun a_2=>
  (Vb n a_2.1 a_2.2.1 a_2.2.2.1 a_2.2.2.2.1 a_2.2.2.2.2.1 a_2.2.2.2.2.2.1 a_2.2.2.2.2.2.2.1 a_2.2.2.2.2.2.2.2.1 a_2.2.2.2.2.2.2.2.2.1 a_2.2.2.2.2.2.2.2.2.2).bind fun v4=>
  k (v4.1,(v4.2.1,(v4.2.2.1,(v4.2.2.2.1,(v4.2.2.2.2.1,(v4.2.2.2.2.2.1,(v4.2.2.2.2.2.2.1,(v4.2.2.2.2.2.2.2.1,(v4.2.2.2.2.2.2.2.2.1,(v4.2.2.2.2.2.2.2.2.2.1,())))))))))))
  (fun _=>none)
  (fun _=>none)
 else
 (Dd n n false r1 (r1.n:Int) (0:Int) b0 b01 b02 b03 b04 r1 b05 b06 b07 r2).bind fun x_3=>onL x_3
  (fun a_4=>
  (Vb n a_4.1 a_4.2.1 a_4.2.2.1 a_4.2.2.2.1 a_4.2.2.2.2.1 a_4.2.2.2.2.2.1 a_4.2.2.2.2.2.2.1 a_4.2.2.2.2.2.2.2.1 a_4.2.2.2.2.2.2.2.2.1 a_4.2.2.2.2.2.2.2.2.2).bind fun v5=>
  k (v5.1,(v5.2.1,(v5.2.2.1,(v5.2.2.2.1,(v5.2.2.2.2.1,(v5.2.2.2.2.2.1,(v5.2.2.2.2.2.2.1,(v5.2.2.2.2.2.2.2.1,(v5.2.2.2.2.2.2.2.2.1,(v5.2.2.2.2.2.2.2.2.2.1,())))))))))))
  (fun _=>none)
  (fun _=>none)
theorem Kx: @ej= @bd:=by
 funext n R b0 b01 b02 b03 b04 b05 b06 b07 r1 r2 k
 unfold ej bd
 simp only [Sk]
def xl (n:Nat) (b0:Bool) (b01:(Sq Int)) (b02:BA) (b03:Bool) (b04 b05:BA) (b06:Bool) (b07:BA) (r1 r2:(Sq BA)):Option (Bool×(Sq Int)×BA×Bool×BA×BA×Bool×BA×(Sq BA)×(Sq BA)×Unit):=ej n b0 b01 b02 b03 b04 b05 b06 b07 r1 r2 some
theorem KA: @xl= @Wb:=by
 funext n b0 b01 b02 b03 b04 b05 b06 b07 r1 r2
 unfold xl Wb
 simp only [Kx]
def lj (n:Nat) {R:Type} (path:BA) (b0:Bool) (b01:(Sq Int)) (b02:BA) (b03:Bool) (b04 b05:BA) (b06:Bool) (b07:BA) (r1 r2:(Sq BA)) (k:(Bool×(Sq Int)×BA×Bool×BA×BA×Bool×BA×(Sq BA)×(Sq BA)×Unit)→Option R):Option R:=
 (Kz n path).bind fun v=>
 if (v.2.2.1 !=(0:Int))=false then
 if v.2.1=true then
  (ua n (500:Int) b0 b01 b02 b03 b04 b05 b06 b07 r1 r2).bind fun v1=>
  k (v1.1,(v1.2.1,(v1.2.2.1,(v1.2.2.2.1,(v1.2.2.2.2.1,(v1.2.2.2.2.2.1,(v1.2.2.2.2.2.2.1,(v1.2.2.2.2.2.2.2.1,(v1.2.2.2.2.2.2.2.2.1,(v1.2.2.2.2.2.2.2.2.2.1,()))))))))))
 else
  (Pb n b0 b01 b02 b03 b04 b05 b06 b07 r1 r2).bind fun v2=>
  if v2.1=true then
  (
   (AK n (v.1.1,(v.1.2.1,()))).bind fun v3=>
   if Ta (v2.2.2.2.2.2.2.2.2.2.1.n+1) 16=true then
   k (v2.2.1,(v2.2.2.1,(v2.2.2.2.1,(v2.2.2.2.2.1,(v2.2.2.2.2.2.1,(v2.2.2.2.2.2.2.1,(v2.2.2.2.2.2.2.2.1,(v2.2.2.2.2.2.2.2.2.1,((⟨(v2.2.2.2.2.2.2.2.2.2.1.n+1),fun q=>if q<v2.2.2.2.2.2.2.2.2.2.1.n then v2.2.2.2.2.2.2.2.2.2.1.at' q else (fun q=>List.getD (α:=BA) [v3] q (Ba .str)) (q - v2.2.2.2.2.2.2.2.2.2.1.n)⟩:Sq BA),(v2.2.2.2.2.2.2.2.2.2.2.1,()))))))))))
   else
   none)
  else
  k (v2.2.1,(v2.2.2.1,(v2.2.2.2.1,(v2.2.2.2.2.1,(v2.2.2.2.2.2.1,(v2.2.2.2.2.2.2.1,(v2.2.2.2.2.2.2.2.1,(v2.2.2.2.2.2.2.2.2.1,(v2.2.2.2.2.2.2.2.2.2.1,(v2.2.2.2.2.2.2.2.2.2.2.1,()))))))))))
 else
 (ua n (500:Int) b0 b01 b02 b03 b04 b05 b06 b07 r1 r2).bind fun v5=>
 k (v5.1,(v5.2.1,(v5.2.2.1,(v5.2.2.2.1,(v5.2.2.2.2.1,(v5.2.2.2.2.2.1,(v5.2.2.2.2.2.2.1,(v5.2.2.2.2.2.2.2.1,(v5.2.2.2.2.2.2.2.2.1,(v5.2.2.2.2.2.2.2.2.2.1,()))))))))))
theorem Ox: @lj= @Bb:=by
 funext n R path b0 b01 b02 b03 b04 b05 b06 b07 r1 r2 k
 unfold lj Bb
 repeat' first
  | with_reducible rfl
  | with_reducible refine dX ?_ ?_
  | with_reducible refine ZZ ?_
  | with_reducible refine Q0 ?_ ?_
  | with_reducible refine cX (by first | with_reducible rfl) (fun _=>?_)
  | with_reducible refine P1 (fun _=>?_) (fun _=>?_) (fun _=>?_)
  | rfl
def Ch (n:Nat) (path:BA) (b0:Bool) (b01:(Sq Int)) (b02:BA) (b03:Bool) (b04 b05:BA) (b06:Bool) (b07:BA) (r1 r2:(Sq BA)):Option (Bool×(Sq Int)×BA×Bool×BA×BA×Bool×BA×(Sq BA)×(Sq BA)×Unit):=lj n path b0 b01 b02 b03 b04 b05 b06 b07 r1 r2 some
theorem VA: @Ch= @Za:=by
 funext n path b0 b01 b02 b03 b04 b05 b06 b07 r1 r2
 unfold Ch Za
 simp only [Ox]
def ij (n:Nat) {R:Type} (l:(BA×(Bool×Unit))) (b0:Bool) (b01:(Sq Int)) (b02:BA) (b03:Bool) (b04 b05:BA) (b06:Bool) (b07:BA) (r1 r2:(Sq BA)) (k:(Bool×(Sq Int)×BA×Bool×BA×BA×Bool×BA×(Sq BA)×(Sq BA)×Unit)→Option R):Option R:=
 if l.2.1=true then
 (ua n (500:Int) b0 b01 b02 b03 b04 b05 b06 b07 r1 r2).bind fun v=>
 k (v.1,(v.2.1,(v.2.2.1,(v.2.2.2.1,(v.2.2.2.2.1,(v.2.2.2.2.2.1,(v.2.2.2.2.2.2.1,(v.2.2.2.2.2.2.2.1,(v.2.2.2.2.2.2.2.2.1,(v.2.2.2.2.2.2.2.2.2.1,()))))))))))
 else
 if b06=true then
  (xr n l.1).bind fun v1=>
  if v1.2.1=true then
  (xl n b0 b01 b02 b03 b04 b05 b06 b07 r1 r2).bind fun v2=>
  k (v2.1,(v2.2.1,(v2.2.2.1,(v2.2.2.2.1,(v2.2.2.2.2.1,(v2.2.2.2.2.2.1,(v2.2.2.2.2.2.2.1,(v2.2.2.2.2.2.2.2.1,(v2.2.2.2.2.2.2.2.2.1,(v2.2.2.2.2.2.2.2.2.2.1,()))))))))))
  else
  if Ca v1.1 (⟨#[13,10]⟩:BA)=true then
   if Ca b05 (v1.1++(⟨#[13,10]⟩:BA))=true then
   k (b0,(b01,(b02,(b03,(b04,((b05++(v1.1++(⟨#[13,10]⟩:BA))),(b06,(b07,(r1,(r2,()))))))))))
   else
   none
  else
   none
 else
  (Sa n l.1 (⟨#[69,72,76,79,32]⟩:BA)).bind fun v3=>
  if v3=true then
  (ua n (250:Int) b0 b01 b02 b03 b04 b05 b06 b07 r1 r2).bind fun v4=>
  k (v4.1,(v4.2.1,(v4.2.2.1,(v4.2.2.2.1,(v4.2.2.2.2.1,(v4.2.2.2.2.2.1,(v4.2.2.2.2.2.2.1,(v4.2.2.2.2.2.2.2.1,(v4.2.2.2.2.2.2.2.2.1,(v4.2.2.2.2.2.2.2.2.2.1,()))))))))))
  else
  (Sa n l.1 (⟨#[76,72,76,79,32]⟩:BA)).bind fun v5=>
  if v5=true then
   (ua n (250:Int) b0 b01 b02 b03 b04 b05 b06 b07 r1 r2).bind fun v6=>
   k (v6.1,(v6.2.1,(v6.2.2.1,(v6.2.2.2.1,(v6.2.2.2.2.1,(v6.2.2.2.2.2.1,(v6.2.2.2.2.2.2.1,(v6.2.2.2.2.2.2.2.1,(v6.2.2.2.2.2.2.2.2.1,(v6.2.2.2.2.2.2.2.2.2.1,()))))))))))
  else
   (Sa n l.1 (⟨#[77,65,73,76,32,70,82,79,77,58,60]⟩:BA)).bind fun v7=>
   if v7=true then
   if 0≤(11:Int)∧(11:Int)≤(l.1.size:Int) then
    (Tc n (l.1.extract (Int.toNat (11:Int)) (Int.toNat (l.1.size:Int))) (⟨#[62]⟩:BA)).bind fun v8=>
    if v8=true then
    if 0≤(IntKind.wrap .i64 ((l.1.size:Int) - (1:Int)))∧(IntKind.wrap .i64 ((l.1.size:Int) - (1:Int)))≤(l.1.size:Int) then
     if 0≤(11:Int)∧(11:Int)≤(IntKind.wrap .i64 ((l.1.size:Int) - (1:Int))) then
     (cd n (l.1.extract (Int.toNat (11:Int)) (Int.toNat (IntKind.wrap .i64 ((l.1.size:Int) - (1:Int))))) b0 b01 b02 b03 b04 b05 b06 b07 r1 r2).bind fun v9=>
     k (v9.1,(v9.2.1,(v9.2.2.1,(v9.2.2.2.1,(v9.2.2.2.2.1,(v9.2.2.2.2.2.1,(v9.2.2.2.2.2.2.1,(v9.2.2.2.2.2.2.2.1,(v9.2.2.2.2.2.2.2.2.1,(v9.2.2.2.2.2.2.2.2.2.1,()))))))))))
     else
     none
    else
     none
    else
    (Sa n l.1 (⟨#[82,67,80,84,32,84,79,58]⟩:BA)).bind fun v10=>
    if v10=true then
     if 0≤(8:Int)∧(8:Int)≤(l.1.size:Int) then
     (Ch n (l.1.extract (Int.toNat (8:Int)) (Int.toNat (l.1.size:Int))) b0 b01 b02 b03 b04 b05 b06 b07 r1 r2).bind fun v11=>
     k (v11.1,(v11.2.1,(v11.2.2.1,(v11.2.2.2.1,(v11.2.2.2.2.1,(v11.2.2.2.2.2.1,(v11.2.2.2.2.2.2.1,(v11.2.2.2.2.2.2.2.1,(v11.2.2.2.2.2.2.2.2.1,(v11.2.2.2.2.2.2.2.2.2.1,()))))))))))
     else
     none
    else
     if (l.1.toList==(⟨#[68,65,84,65]⟩:BA).toList)=true then
     (zb n b0 b01 b02 b03 b04 b05 b06 b07 r1 r2).bind fun v12=>
     k (v12.1,(v12.2.1,(v12.2.2.1,(v12.2.2.2.1,(v12.2.2.2.2.1,(v12.2.2.2.2.2.1,(v12.2.2.2.2.2.2.1,(v12.2.2.2.2.2.2.2.1,(v12.2.2.2.2.2.2.2.2.1,(v12.2.2.2.2.2.2.2.2.2.1,()))))))))))
     else
     if (l.1.toList==(⟨#[81,85,73,84]⟩:BA).toList)=true then
      (ua n (221:Int) b0 b01 b02 b03 b04 b05 b06 b07 r1 r2).bind fun v13=>
      k (v13.1,(v13.2.1,(v13.2.2.1,(v13.2.2.2.1,(v13.2.2.2.2.1,(v13.2.2.2.2.2.1,(v13.2.2.2.2.2.2.1,(v13.2.2.2.2.2.2.2.1,(v13.2.2.2.2.2.2.2.2.1,(v13.2.2.2.2.2.2.2.2.2.1,()))))))))))
     else
      (ua n (500:Int) b0 b01 b02 b03 b04 b05 b06 b07 r1 r2).bind fun v14=>
      k (v14.1,(v14.2.1,(v14.2.2.1,(v14.2.2.2.1,(v14.2.2.2.2.1,(v14.2.2.2.2.2.1,(v14.2.2.2.2.2.2.1,(v14.2.2.2.2.2.2.2.1,(v14.2.2.2.2.2.2.2.2.1,(v14.2.2.2.2.2.2.2.2.2.1,()))))))))))
   else
    none
   else
   (Sa n l.1 (⟨#[82,67,80,84,32,84,79,58]⟩:BA)).bind fun v15=>
   if v15=true then
    if 0≤(8:Int)∧(8:Int)≤(l.1.size:Int) then
    (Ch n (l.1.extract (Int.toNat (8:Int)) (Int.toNat (l.1.size:Int))) b0 b01 b02 b03 b04 b05 b06 b07 r1 r2).bind fun v16=>
    k (v16.1,(v16.2.1,(v16.2.2.1,(v16.2.2.2.1,(v16.2.2.2.2.1,(v16.2.2.2.2.2.1,(v16.2.2.2.2.2.2.1,(v16.2.2.2.2.2.2.2.1,(v16.2.2.2.2.2.2.2.2.1,(v16.2.2.2.2.2.2.2.2.2.1,()))))))))))
    else
    none
   else
    if (l.1.toList==(⟨#[68,65,84,65]⟩:BA).toList)=true then
    (zb n b0 b01 b02 b03 b04 b05 b06 b07 r1 r2).bind fun v17=>
    k (v17.1,(v17.2.1,(v17.2.2.1,(v17.2.2.2.1,(v17.2.2.2.2.1,(v17.2.2.2.2.2.1,(v17.2.2.2.2.2.2.1,(v17.2.2.2.2.2.2.2.1,(v17.2.2.2.2.2.2.2.2.1,(v17.2.2.2.2.2.2.2.2.2.1,()))))))))))
    else
    if (l.1.toList==(⟨#[81,85,73,84]⟩:BA).toList)=true then
     (ua n (221:Int) b0 b01 b02 b03 b04 b05 b06 b07 r1 r2).bind fun v18=>
     k (v18.1,(v18.2.1,(v18.2.2.1,(v18.2.2.2.1,(v18.2.2.2.2.1,(v18.2.2.2.2.2.1,(v18.2.2.2.2.2.2.1,(v18.2.2.2.2.2.2.2.1,(v18.2.2.2.2.2.2.2.2.1,(v18.2.2.2.2.2.2.2.2.2.1,()))))))))))
    else
     (ua n (500:Int) b0 b01 b02 b03 b04 b05 b06 b07 r1 r2).bind fun v19=>
     k (v19.1,(v19.2.1,(v19.2.2.1,(v19.2.2.2.1,(v19.2.2.2.2.1,(v19.2.2.2.2.2.1,(v19.2.2.2.2.2.2.1,(v19.2.2.2.2.2.2.2.1,(v19.2.2.2.2.2.2.2.2.1,(v19.2.2.2.2.2.2.2.2.2.1,()))))))))))
theorem Nx: @ij= @Ma:=by
 funext n R l b0 b01 b02 b03 b04 b05 b06 b07 r1 r2 k
 unfold ij Ma
 simp only [KA,VA]
def zl (n:Nat) (l:(BA×(Bool×Unit))) (b0:Bool) (b01:(Sq Int)) (b02:BA) (b03:Bool) (b04 b05:BA) (b06:Bool) (b07:BA) (r1 r2:(Sq BA)):Option (Bool×(Sq Int)×BA×Bool×BA×BA×Bool×BA×(Sq BA)×(Sq BA)×Unit):=ij n l b0 b01 b02 b03 b04 b05 b06 b07 r1 r2 some
theorem OA: @zl= @Aa:=by
 funext n l b0 b01 b02 b03 b04 b05 b06 b07 r1 r2
 unfold zl Aa
 simp only [Nx]
def Xh (n:Nat) {R:Type} (t25:(Sq (BA×(Bool×Unit)))) (t26 t27:Int) (p:Bool) (p1:(Sq Int)) (p2:BA) (p3:Bool) (p4 p5:BA) (p6:Bool) (p7:BA) (r11 r21:(Sq BA)) (kn:(Sq (BA×(Bool×Unit)))→Int→Int→Bool→(Sq Int)→BA→Bool→BA→BA→Bool→BA→(Sq BA)→(Sq BA)→Option R) (ko:(Bool×(Sq Int)×BA×Bool×BA×BA×Bool×BA×(Sq BA)×(Sq BA))→Option R) (kr:Unit→Option R) (kp:Int→Option R):Option R:=
 if (decide (t27<t26))=true then
 if 0≤t27∧t27<(t25.n:Int) then
  (zl n (((t25.at' (Int.toNat t27))).1,((((t25.at' (Int.toNat t27))).2).1,())) p p1 p2 p3 p4 p5 p6 p7 r11 r21).bind fun v1=>
  kn t25 t26 (IntKind.wrap .i64 (t27+(1:Int))) v1.1 v1.2.1 v1.2.2.1 v1.2.2.2.1 v1.2.2.2.2.1 v1.2.2.2.2.2.1 v1.2.2.2.2.2.2.1 v1.2.2.2.2.2.2.2.1 v1.2.2.2.2.2.2.2.2.1 v1.2.2.2.2.2.2.2.2.2.1
 else
  none
 else
 ko (p,p1,p2,p3,p4,p5,p6,p7,r11,r21)
theorem xw: @Xh= @Qc:=by
 funext n R t25 t26 t27 p p1 p2 p3 p4 p5 p6 p7 r11 r21 kn ko kr kp
 unfold Xh Qc
 simp only [OA]
def jf (n:Nat):Nat→(Sq (BA×(Bool×Unit)))→Int→Int→Bool→(Sq Int)→BA→Bool→BA→BA→Bool→BA→(Sq BA)→(Sq BA)→Option (Lx (Bool×(Sq Int)×BA×Bool×BA×BA×Bool×BA×(Sq BA)×(Sq BA)) Unit)
 | 0,_,_,_,_,_,_,_,_,_,_,_,_,_=>none
 | m+1,t25,t26,t27,p,p1,p2,p3,p4,p5,p6,p7,r11,r21=>Xh n t25 t26 t27 p p1 p2 p3 p4 p5 p6 p7 r11 r21 (jf n m) (fun a=>some (.out a)) (fun a=>some (.ret a)) (fun p=>some (.pan p))
theorem Pk (n:Nat):∀ (m:Nat),jf n m=jb n m
 | 0=>rfl
 | m+1=>by
  funext t25 t26 t27 p p1 p2 p3 p4 p5 p6 p7 r11 r21
  have ih:=Pk n m
  simp only [jf,jb,ih,xw]
def Yi (n:Nat) {R:Type} (b0:Bool) (b01:(Sq Int)) (b02:BA) (b03:Bool) (b04 b05:BA) (b06:Bool) (b07:BA) (r1:(Sq Int)) (r2 r3:(Sq BA)) (k:(BA×Bool×(Sq Int)×BA×Bool×BA×BA×Bool×BA×(Sq BA)×(Sq BA)×Unit)→Option R):Option R:=
 (bo n (b02,(b03,())) r1).bind fun v=>
 (jf n n v.2.1 (v.2.1.n:Int) (0:Int) b0 b01 v.1.1 v.1.2.1 b04 b05 b06 (⟨#[]⟩:BA) r2 r3).bind fun x_1=>onL x_1
 (fun a_2=>
  k (a_2.2.2.2.2.2.2.2.1,(a_2.1,(a_2.2.1,(a_2.2.2.1,(a_2.2.2.2.1,(a_2.2.2.2.2.1,(a_2.2.2.2.2.2.1,(a_2.2.2.2.2.2.2.1,(a_2.2.2.2.2.2.2.2.1,(a_2.2.2.2.2.2.2.2.2.1,(a_2.2.2.2.2.2.2.2.2.2,()))))))))))))
 (fun _=>none)
 (fun _=>none)
theorem Dx: @Yi= @qe:=by
 funext n R b0 b01 b02 b03 b04 b05 b06 b07 r1 r2 r3 k
 unfold Yi qe
 simp only [Pk]
def ol (n:Nat) (b0:Bool) (b01:(Sq Int)) (b02:BA) (b03:Bool) (b04 b05:BA) (b06:Bool) (b07:BA) (r1:(Sq Int)) (r2 r3:(Sq BA)):Option (BA×Bool×(Sq Int)×BA×Bool×BA×BA×Bool×BA×(Sq BA)×(Sq BA)×Unit):=Yi n b0 b01 b02 b03 b04 b05 b06 b07 r1 r2 r3 some
theorem pA: @ol= @tc:=by
 funext n b0 b01 b02 b03 b04 b05 b06 b07 r1 r2 r3
 unfold ol tc
 simp only [Dx]
def wk (n:Nat) {R:Type} (k:Bool→Option R):Option R:=
 (Hd n false (⟨0,fun _=>Ba (.int .i64)⟩:Sq Int)).bind fun v=>
 (lc n v.1 v.2.1 v.2.2.1 v.2.2.2.1 v.2.2.2.2.1 v.2.2.2.2.2.1 v.2.2.2.2.2.2.1 v.2.2.2.2.2.2.2.1 v.2.2.2.2.2.2.2.2.1 v.2.2.2.2.2.2.2.2.2.1).bind fun v1=>
 if (v1.1.toList==(⟨#[50,50,48,32,104,101,114,101,13,10]⟩:BA).toList)=true then
 (ol n v1.2.1 v1.2.2.1 v1.2.2.2.1 v1.2.2.2.2.1 v1.2.2.2.2.2.1 v1.2.2.2.2.2.2.1 v1.2.2.2.2.2.2.2.1 v1.2.2.2.2.2.2.2.2.1 (⟨6,fun q=>List.getD (α:=Int) [(81:Int),(85:Int),(73:Int),(84:Int),(13:Int),(10:Int)] q (Ba (.int .u8))⟩:Sq Int) v1.2.2.2.2.2.2.2.2.2.1 v1.2.2.2.2.2.2.2.2.2.2.1).bind fun v2=>
 k (v2.1.toList==(⟨#[50,50,49,32,98,121,101,13,10]⟩:BA).toList)
 else
 k false
theorem tz: @wk= @zf:=by
 funext n R k
 unfold wk zf
 simp only [pA]
def Cw (n:Nat):Option Bool:=wk n some
theorem QD: @Cw= @Gb:=by
 funext n
 unfold Cw Gb
 simp only [tz]
end
end Go.Proofs.YtddefjokgaajfaaGreatDoor.AM
