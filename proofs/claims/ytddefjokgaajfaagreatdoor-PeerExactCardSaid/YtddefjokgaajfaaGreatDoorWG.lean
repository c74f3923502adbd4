/- The functions of this seat without what tells that orders are alike (dup), by program (dedup.py): so the kernel can compute them. -/
import Derived.Test.YtddefjokgaajfaaGreatDoorWF1
set_option linter.all false
set_option linter.unusedVariables false
set_option linter.unusedSimpArgs false
set_option maxRecDepth 1000000
set_option maxHeartbeats 0
namespace Go.Proofs.YtddefjokgaajfaaGreatDoor.AM
open Go Go.RowKit
noncomputable section
section
variable {R S:Type}
theorem MV {x a b:Option R} (h1:x=a) (h2:x=b):x=o0 a b:=by rw [←h1,←h2,ba]
theorem IY {x a:Option R} {k:Nat} (h:x=a):x=dup k a:=by rw [fa];exact h
theorem aZ {c:Prop} [Decidable c] {a b a' b':Option R} (h1:a=a') (h2:b=b'):(if c then a else b)=(if c then a' else b'):=by rw [h1,h2]
theorem LV {a a':Option S} {f f':S→Option R} (h1:a=a') (h2:∀ v,f v=f' v):a.bind f=a'.bind f':=by rw [h1,funext h2]
theorem qZ {A B:Type} {x:Lx A B} {f f':A→Option R} {g g':B→Option R} {h h':Int→Option R} (h1:∀ v,f v=f' v) (h2:∀ v,g v=g' v) (h3:∀ v,h v=h' v):onL x f g h=onL x f' g' h':=by rw [funext h1,funext h2,funext h3]
end
def Si (n:Nat) {R:Type} (to:BA) (b0:Bool) (b01:(Sq Int)) (b02:BA) (b03:Bool) (b04:BA) (b05:(Sq BA)) (b06:BA) (b07:Bool) (b08:BA) (r1:(Sq BA)) (k:(Bool×(Sq Int)×BA×Bool×BA×(Sq BA)×BA×Bool×BA×(Sq BA)×Unit)→Option R):Option R:=
 (
 if Ta (r1.n+3) 16=true then
  k (b0,(b01,(b02,(b03,(b04,(b05,(b06,(b07,(b08,((⟨(r1.n+3),fun q=>if q<r1.n then r1.at' q else (fun q=>List.getD (α:=BA) [b04,to,b06] q (Aa .str)) (q - r1.n)⟩:Sq BA),()))))))))))
 else
  none)
theorem Jw: @Si= @Tc:=by
 funext n R to b0 b01 b02 b03 b04 b05 b06 b07 b08 r1 k
 unfold Si Tc
 repeat' first
  | with_reducible rfl
  | with_reducible refine MV ?_ ?_
  | with_reducible refine IY ?_
  | with_reducible refine aZ ?_ ?_
  | with_reducible refine LV (by first | with_reducible rfl) (fun _=>?_)
  | with_reducible refine qZ (fun _=>?_) (fun _=>?_) (fun _=>?_)
  | rfl
def ph (n:Nat) (to:BA) (b0:Bool) (b01:(Sq Int)) (b02:BA) (b03:Bool) (b04:BA) (b05:(Sq BA)) (b06:BA) (b07:Bool) (b08:BA) (r1:(Sq BA)):Option (Bool×(Sq Int)×BA×Bool×BA×(Sq BA)×BA×Bool×BA×(Sq BA)×Unit):=Si n to b0 b01 b02 b03 b04 b05 b06 b07 b08 r1 some
theorem Yz: @ph= @Cb:=by
 funext n to b0 b01 b02 b03 b04 b05 b06 b07 b08 r1
 unfold ph Cb
 simp only [Jw]
def Ih (n:Nat) {R:Type} (ok:Bool) (t17:(Sq BA)) (t18 t19:Int) (p:Bool) (p1:(Sq Int)) (p2:BA) (p3:Bool) (p4:BA) (p5:(Sq BA)) (p6:BA) (p7:Bool) (p8:BA) (r11:(Sq BA)) (kn:Bool→(Sq BA)→Int→Int→Bool→(Sq Int)→BA→Bool→BA→(Sq BA)→BA→Bool→BA→(Sq BA)→Option R) (ko:(Bool×(Sq Int)×BA×Bool×BA×(Sq BA)×BA×Bool×BA×(Sq BA))→Option R) (kr:Unit→Option R) (kp:Int→Option R):Option R:=
 if (decide (t19<t18))=true then
 if 0≤t19∧t19<(t17.n:Int) then
  if ok=false then
  if p=true then
   (pb n p p1 p2 p3 p4 p5 p6 p7 p8 r11).bind fun v1=>
   if v1.1=true then
   (ph n (t17.at' (Int.toNat t19)) v1.2.1 v1.2.2.1 v1.2.2.2.1 v1.2.2.2.2.1 v1.2.2.2.2.2.1 v1.2.2.2.2.2.2.1 v1.2.2.2.2.2.2.2.1 v1.2.2.2.2.2.2.2.2.1 v1.2.2.2.2.2.2.2.2.2.1 v1.2.2.2.2.2.2.2.2.2.2.1).bind fun v2=>
   kn ok t17 t18 (IntKind.wrap .i64 (t19+(1:Int))) v2.1 v2.2.1 v2.2.2.1 v2.2.2.2.1 v2.2.2.2.2.1 v2.2.2.2.2.2.1 v2.2.2.2.2.2.2.1 v2.2.2.2.2.2.2.2.1 v2.2.2.2.2.2.2.2.2.1 v2.2.2.2.2.2.2.2.2.2.1
   else
   kn ok t17 t18 (IntKind.wrap .i64 (t19+(1:Int))) v1.2.1 v1.2.2.1 v1.2.2.2.1 v1.2.2.2.2.1 v1.2.2.2.2.2.1 v1.2.2.2.2.2.2.1 v1.2.2.2.2.2.2.2.1 v1.2.2.2.2.2.2.2.2.1 v1.2.2.2.2.2.2.2.2.2.1 v1.2.2.2.2.2.2.2.2.2.2.1
  else
   kn ok t17 t18 (IntKind.wrap .i64 (t19+(1:Int))) p p1 p2 p3 p4 p5 p6 p7 p8 r11
  else
  (ph n (t17.at' (Int.toNat t19)) p p1 p2 p3 p4 p5 p6 p7 p8 r11).bind fun v3=>
  kn ok t17 t18 (IntKind.wrap .i64 (t19+(1:Int))) v3.1 v3.2.1 v3.2.2.1 v3.2.2.2.1 v3.2.2.2.2.1 v3.2.2.2.2.2.1 v3.2.2.2.2.2.2.1 v3.2.2.2.2.2.2.2.1 v3.2.2.2.2.2.2.2.2.1 v3.2.2.2.2.2.2.2.2.2.1
 else
  none
 else
 ko (p,p1,p2,p3,p4,p5,p6,p7,p8,r11)
theorem zv: @Ih= @Ka:=by
 funext n R ok t17 t18 t19 p p1 p2 p3 p4 p5 p6 p7 p8 r11 kn ko kr kp
 unfold Ih Ka
 simp only [Yz]
def td (n:Nat):Nat→Bool→(Sq BA)→Int→Int→Bool→(Sq Int)→BA→Bool→BA→(Sq BA)→BA→Bool→BA→(Sq BA)→Option (Lx (Bool×(Sq Int)×BA×Bool×BA×(Sq BA)×BA×Bool×BA×(Sq BA)) Unit)
 | 0,_,_,_,_,_,_,_,_,_,_,_,_,_,_=>none
 | m+1,ok,t17,t18,t19,p,p1,p2,p3,p4,p5,p6,p7,p8,r11=>Ih n ok t17 t18 t19 p p1 p2 p3 p4 p5 p6 p7 p8 r11 (td n m) (fun a=>some (.out a)) (fun a=>some (.ret a)) (fun p=>some (.pan p))
theorem jk (n:Nat):∀ (m:Nat),td n m=wa n m
 | 0=>rfl
 | m+1=>by
  funext ok t17 t18 t19 p p1 p2 p3 p4 p5 p6 p7 p8 r11
  have ih:=jk n m
  simp only [td,wa,ih,zv]
def Mi (n:Nat) {R:Type} (b0:Bool) (b01:(Sq Int)) (b02:BA) (b03:Bool) (b04 b05:BA) (b06:Bool) (b07:BA) (r1 r2:(Sq BA)) (k:(Bool×(Sq Int)×BA×Bool×BA×BA×Bool×BA×(Sq BA)×(Sq BA)×Unit)→Option R):Option R:=
 if (!b0)=true then
 (pb n b0 b01 b02 b03 b04 r1 b05 b06 b07 r2).bind fun v=>
 (td n n v.1 v.2.2.2.2.2.2.1 (v.2.2.2.2.2.2.1.n:Int) (0:Int) v.2.1 v.2.2.1 v.2.2.2.1 v.2.2.2.2.1 v.2.2.2.2.2.1 v.2.2.2.2.2.2.1 v.2.2.2.2.2.2.2.1 v.2.2.2.2.2.2.2.2.1 v.2.2.2.2.2.2.2.2.2.1 v.2.2.2.2.2.2.2.2.2.2.1).bind fun x_1=>onL x_1
  (fun a_2=>
  (Qb n a_2.1 a_2.2.1 a_2.2.2.1 a_2.2.2.2.1 a_2.2.2.2.2.1 a_2.2.2.2.2.2.1 a_2.2.2.2.2.2.2.1 a_2.2.2.2.2.2.2.2.1 a_2.2.2.2.2.2.2.2.2.1 a_2.2.2.2.2.2.2.2.2.2).bind fun v4=>
  k (v4.1,(v4.2.1,(v4.2.2.1,(v4.2.2.2.1,(v4.2.2.2.2.1,(v4.2.2.2.2.2.1,(v4.2.2.2.2.2.2.1,(v4.2.2.2.2.2.2.2.1,(v4.2.2.2.2.2.2.2.2.1,(v4.2.2.2.2.2.2.2.2.2.1,())))))))))))
  (fun _=>none)
  (fun _=>none)
 else
 (td n n false r1 (r1.n:Int) (0:Int) b0 b01 b02 b03 b04 r1 b05 b06 b07 r2).bind fun x_3=>onL x_3
  (fun a_4=>
  (Qb n a_4.1 a_4.2.1 a_4.2.2.1 a_4.2.2.2.1 a_4.2.2.2.2.1 a_4.2.2.2.2.2.1 a_4.2.2.2.2.2.2.1 a_4.2.2.2.2.2.2.2.1 a_4.2.2.2.2.2.2.2.2.1 a_4.2.2.2.2.2.2.2.2.2).bind fun v5=>
  k (v5.1,(v5.2.1,(v5.2.2.1,(v5.2.2.2.1,(v5.2.2.2.2.1,(v5.2.2.2.2.2.1,(v5.2.2.2.2.2.2.1,(v5.2.2.2.2.2.2.2.1,(v5.2.2.2.2.2.2.2.2.1,(v5.2.2.2.2.2.2.2.2.2.1,())))))))))))
  (fun _=>none)
  (fun _=>none)
theorem Fw: @Mi= @Rc:=by
 funext n R b0 b01 b02 b03 b04 b05 b06 b07 r1 r2 k
 unfold Mi Rc
 simp only [jk]
def Mk (n:Nat) (b0:Bool) (b01:(Sq Int)) (b02:BA) (b03:Bool) (b04 b05:BA) (b06:Bool) (b07:BA) (r1 r2:(Sq BA)):Option (Bool×(Sq Int)×BA×Bool×BA×BA×Bool×BA×(Sq BA)×(Sq BA)×Unit):=Mi n b0 b01 b02 b03 b04 b05 b06 b07 r1 r2 some
theorem Hz: @Mk= @Rb:=by
 funext n b0 b01 b02 b03 b04 b05 b06 b07 r1 r2
 unfold Mk Rb
 simp only [Fw]
def Qi (n:Nat) {R:Type} (path:BA) (b0:Bool) (b01:(Sq Int)) (b02:BA) (b03:Bool) (b04 b05:BA) (b06:Bool) (b07:BA) (r1 r2:(Sq BA)) (k:(Bool×(Sq Int)×BA×Bool×BA×BA×Bool×BA×(Sq BA)×(Sq BA)×Unit)→Option R):Option R:=
 (Jy n path).bind fun v=>
 if (v.2.2.1 !=(0:Int))=false then
 if v.2.1=true then
  (ta n (500:Int) b0 b01 b02 b03 b04 b05 b06 b07 r1 r2).bind fun v1=>
  k (v1.1,(v1.2.1,(v1.2.2.1,(v1.2.2.2.1,(v1.2.2.2.2.1,(v1.2.2.2.2.2.1,(v1.2.2.2.2.2.2.1,(v1.2.2.2.2.2.2.2.1,(v1.2.2.2.2.2.2.2.2.1,(v1.2.2.2.2.2.2.2.2.2.1,()))))))))))
 else
  (Jb n b0 b01 b02 b03 b04 b05 b06 b07 r1 r2).bind fun v2=>
  if v2.1=true then
  (
   (pJ n (v.1.1,(v.1.2.1,()))).bind fun v3=>
   if Ta (v2.2.2.2.2.2.2.2.2.2.1.n+1) 16=true then
   k (v2.2.1,(v2.2.2.1,(v2.2.2.2.1,(v2.2.2.2.2.1,(v2.2.2.2.2.2.1,(v2.2.2.2.2.2.2.1,(v2.2.2.2.2.2.2.2.1,(v2.2.2.2.2.2.2.2.2.1,((⟨(v2.2.2.2.2.2.2.2.2.2.1.n+1),fun q=>if q<v2.2.2.2.2.2.2.2.2.2.1.n then v2.2.2.2.2.2.2.2.2.2.1.at' q else (fun q=>List.getD (α:=BA) [v3] q (Aa .str)) (q - v2.2.2.2.2.2.2.2.2.2.1.n)⟩:Sq BA),(v2.2.2.2.2.2.2.2.2.2.2.1,()))))))))))
   else
   none)
  else
  k (v2.2.1,(v2.2.2.1,(v2.2.2.2.1,(v2.2.2.2.2.1,(v2.2.2.2.2.2.1,(v2.2.2.2.2.2.2.1,(v2.2.2.2.2.2.2.2.1,(v2.2.2.2.2.2.2.2.2.1,(v2.2.2.2.2.2.2.2.2.2.1,(v2.2.2.2.2.2.2.2.2.2.2.1,()))))))))))
 else
 (ta n (500:Int) b0 b01 b02 b03 b04 b05 b06 b07 r1 r2).bind fun v5=>
 k (v5.1,(v5.2.1,(v5.2.2.1,(v5.2.2.2.1,(v5.2.2.2.2.1,(v5.2.2.2.2.2.1,(v5.2.2.2.2.2.2.1,(v5.2.2.2.2.2.2.2.1,(v5.2.2.2.2.2.2.2.2.1,(v5.2.2.2.2.2.2.2.2.2.1,()))))))))))
theorem Iw: @Qi= @tb:=by
 funext n R path b0 b01 b02 b03 b04 b05 b06 b07 r1 r2 k
 unfold Qi tb
 repeat' first
  | with_reducible rfl
  | with_reducible refine MV ?_ ?_
  | with_reducible refine IY ?_
  | with_reducible refine aZ ?_ ?_
  | with_reducible refine LV (by first | with_reducible rfl) (fun _=>?_)
  | with_reducible refine qZ (fun _=>?_) (fun _=>?_) (fun _=>?_)
  | rfl
def mh (n:Nat) (path:BA) (b0:Bool) (b01:(Sq Int)) (b02:BA) (b03:Bool) (b04 b05:BA) (b06:Bool) (b07:BA) (r1 r2:(Sq BA)):Option (Bool×(Sq Int)×BA×Bool×BA×BA×Bool×BA×(Sq BA)×(Sq BA)×Unit):=Qi n path b0 b01 b02 b03 b04 b05 b06 b07 r1 r2 some
theorem Sz: @mh= @Wa:=by
 funext n path b0 b01 b02 b03 b04 b05 b06 b07 r1 r2
 unfold mh Wa
 simp only [Iw]
def Oi (n:Nat) {R:Type} (l:(BA×(Bool×Unit))) (b0:Bool) (b01:(Sq Int)) (b02:BA) (b03:Bool) (b04 b05:BA) (b06:Bool) (b07:BA) (r1 r2:(Sq BA)) (k:(Bool×(Sq Int)×BA×Bool×BA×BA×Bool×BA×(Sq BA)×(Sq BA)×Unit)→Option R):Option R:=
 if l.2.1=true then
 (ta n (500:Int) b0 b01 b02 b03 b04 b05 b06 b07 r1 r2).bind fun v=>
 k (v.1,(v.2.1,(v.2.2.1,(v.2.2.2.1,(v.2.2.2.2.1,(v.2.2.2.2.2.1,(v.2.2.2.2.2.2.1,(v.2.2.2.2.2.2.2.1,(v.2.2.2.2.2.2.2.2.1,(v.2.2.2.2.2.2.2.2.2.1,()))))))))))
 else
 if b06=true then
  (Gq n l.1).bind fun v1=>
  if v1.2.1=true then
  (Mk n b0 b01 b02 b03 b04 b05 b06 b07 r1 r2).bind fun v2=>
  k (v2.1,(v2.2.1,(v2.2.2.1,(v2.2.2.2.1,(v2.2.2.2.2.1,(v2.2.2.2.2.2.1,(v2.2.2.2.2.2.2.1,(v2.2.2.2.2.2.2.2.1,(v2.2.2.2.2.2.2.2.2.1,(v2.2.2.2.2.2.2.2.2.2.1,()))))))))))
  else
  if Ca v1.1 (⟨#[13,10]⟩:BA)=true then
   if Ca b05 (v1.1++(⟨#[13,10]⟩:BA))=true then
   k (b0,(b01,(b02,(b03,(b04,((b05++(v1.1++(⟨#[13,10]⟩:BA))),(b06,(b07,(r1,(r2,()))))))))))
   else
   none
  else
   none
 else
  (Pa n l.1 (⟨#[69,72,76,79,32]⟩:BA)).bind fun v3=>
  if v3=true then
  (ta n (250:Int) b0 b01 b02 b03 b04 b05 b06 b07 r1 r2).bind fun v4=>
  k (v4.1,(v4.2.1,(v4.2.2.1,(v4.2.2.2.1,(v4.2.2.2.2.1,(v4.2.2.2.2.2.1,(v4.2.2.2.2.2.2.1,(v4.2.2.2.2.2.2.2.1,(v4.2.2.2.2.2.2.2.2.1,(v4.2.2.2.2.2.2.2.2.2.1,()))))))))))
  else
  (Pa n l.1 (⟨#[76,72,76,79,32]⟩:BA)).bind fun v5=>
  if v5=true then
   (ta n (250:Int) b0 b01 b02 b03 b04 b05 b06 b07 r1 r2).bind fun v6=>
   k (v6.1,(v6.2.1,(v6.2.2.1,(v6.2.2.2.1,(v6.2.2.2.2.1,(v6.2.2.2.2.2.1,(v6.2.2.2.2.2.2.1,(v6.2.2.2.2.2.2.2.1,(v6.2.2.2.2.2.2.2.2.1,(v6.2.2.2.2.2.2.2.2.2.1,()))))))))))
  else
   (Pa n l.1 (⟨#[77,65,73,76,32,70,82,79,77,58,60]⟩:BA)).bind fun v7=>
   if v7=true then
   if 0≤(11:Int)∧(11:Int)≤(l.1.size:Int) then
    (Mc n (l.1.extract (Int.toNat (11:Int)) (Int.toNat (l.1.size:Int))) (⟨#[62]⟩:BA)).bind fun v8=>
    if v8=true then
    if 0≤(IntKind.wrap .i64 ((l.1.size:Int) - (1:Int)))∧(IntKind.wrap .i64 ((l.1.size:Int) - (1:Int)))≤(l.1.size:Int) then
     if 0≤(11:Int)∧(11:Int)≤(IntKind.wrap .i64 ((l.1.size:Int) - (1:Int))) then
     (Sc n (l.1.extract (Int.toNat (11:Int)) (Int.toNat (IntKind.wrap .i64 ((l.1.size:Int) - (1:Int))))) b0 b01 b02 b03 b04 b05 b06 b07 r1 r2).bind fun v9=>
     k (v9.1,(v9.2.1,(v9.2.2.1,(v9.2.2.2.1,(v9.2.2.2.2.1,(v9.2.2.2.2.2.1,(v9.2.2.2.2.2.2.1,(v9.2.2.2.2.2.2.2.1,(v9.2.2.2.2.2.2.2.2.1,(v9.2.2.2.2.2.2.2.2.2.1,()))))))))))
     else
     none
    else
     none
    else
    (Pa n l.1 (⟨#[82,67,80,84,32,84,79,58]⟩:BA)).bind fun v10=>
    if v10=true then
     if 0≤(8:Int)∧(8:Int)≤(l.1.size:Int) then
     (mh n (l.1.extract (Int.toNat (8:Int)) (Int.toNat (l.1.size:Int))) b0 b01 b02 b03 b04 b05 b06 b07 r1 r2).bind fun v11=>
     k (v11.1,(v11.2.1,(v11.2.2.1,(v11.2.2.2.1,(v11.2.2.2.2.1,(v11.2.2.2.2.2.1,(v11.2.2.2.2.2.2.1,(v11.2.2.2.2.2.2.2.1,(v11.2.2.2.2.2.2.2.2.1,(v11.2.2.2.2.2.2.2.2.2.1,()))))))))))
     else
     none
    else
     if (l.1.toList==(⟨#[68,65,84,65]⟩:BA).toList)=true then
     (mb n b0 b01 b02 b03 b04 b05 b06 b07 r1 r2).bind fun v12=>
     k (v12.1,(v12.2.1,(v12.2.2.1,(v12.2.2.2.1,(v12.2.2.2.2.1,(v12.2.2.2.2.2.1,(v12.2.2.2.2.2.2.1,(v12.2.2.2.2.2.2.2.1,(v12.2.2.2.2.2.2.2.2.1,(v12.2.2.2.2.2.2.2.2.2.1,()))))))))))
     else
     if (l.1.toList==(⟨#[81,85,73,84]⟩:BA).toList)=true then
      (ta n (221:Int) b0 b01 b02 b03 b04 b05 b06 b07 r1 r2).bind fun v13=>
      k (v13.1,(v13.2.1,(v13.2.2.1,(v13.2.2.2.1,(v13.2.2.2.2.1,(v13.2.2.2.2.2.1,(v13.2.2.2.2.2.2.1,(v13.2.2.2.2.2.2.2.1,(v13.2.2.2.2.2.2.2.2.1,(v13.2.2.2.2.2.2.2.2.2.1,()))))))))))
     else
      (ta n (500:Int) b0 b01 b02 b03 b04 b05 b06 b07 r1 r2).bind fun v14=>
      k (v14.1,(v14.2.1,(v14.2.2.1,(v14.2.2.2.1,(v14.2.2.2.2.1,(v14.2.2.2.2.2.1,(v14.2.2.2.2.2.2.1,(v14.2.2.2.2.2.2.2.1,(v14.2.2.2.2.2.2.2.2.1,(v14.2.2.2.2.2.2.2.2.2.1,()))))))))))
   else
    none
   else
   (Pa n l.1 (⟨#[82,67,80,84,32,84,79,58]⟩:BA)).bind fun v15=>
   if v15=true then
    if 0≤(8:Int)∧(8:Int)≤(l.1.size:Int) then
    (mh n (l.1.extract (Int.toNat (8:Int)) (Int.toNat (l.1.size:Int))) b0 b01 b02 b03 b04 b05 b06 b07 r1 r2).bind fun v16=>
    k (v16.1,(v16.2.1,(v16.2.2.1,(v16.2.2.2.1,(v16.2.2.2.2.1,(v16.2.2.2.2.2.1,(v16.2.2.2.2.2.2.1,(v16.2.2.2.2.2.2.2.1,(v16.2.2.2.2.2.2.2.2.1,(v16.2.2.2.2.2.2.2.2.2.1,()))))))))))
    else
    none
   else
    if (l.1.toList==(⟨#[68,65,84,65]⟩:BA).toList)=true then
    (mb n b0 b01 b02 b03 b04 b05 b06 b07 r1 r2).bind fun v17=>
    k (v17.1,(v17.2.1,(v17.2.2.1,(v17.2.2.2.1,(v17.2.2.2.2.1,(v17.2.2.2.2.2.1,(v17.2.2.2.2.2.2.1,(v17.2.2.2.2.2.2.2.1,(v17.2.2.2.2.2.2.2.2.1,(v17.2.2.2.2.2.2.2.2.2.1,()))))))))))
    else
    if (l.1.toList==(⟨#[81,85,73,84]⟩:BA).toList)=true then
     (ta n (221:Int) b0 b01 b02 b03 b04 b05 b06 b07 r1 r2).bind fun v18=>
     k (v18.1,(v18.2.1,(v18.2.2.1,(v18.2.2.2.1,(v18.2.2.2.2.1,(v18.2.2.2.2.2.1,(v18.2.2.2.2.2.2.1,(v18.2.2.2.2.2.2.2.1,(v18.2.2.2.2.2.2.2.2.1,(v18.2.2.2.2.2.2.2.2.2.1,()))))))))))
    else
     (ta n (500:Int) b0 b01 b02 b03 b04 b05 b06 b07 r1 r2).bind fun v19=>
     k (v19.1,(v19.2.1,(v19.2.2.1,(v19.2.2.2.1,(v19.2.2.2.2.1,(v19.2.2.2.2.2.1,(v19.2.2.2.2.2.2.1,(v19.2.2.2.2.2.2.2.1,(v19.2.2.2.2.2.2.2.2.1,(v19.2.2.2.2.2.2.2.2.2.1,()))))))))))
theorem Hw: @Oi= @La:=by
 funext n R l b0 b01 b02 b03 b04 b05 b06 b07 r1 r2 k
 unfold Oi La
 simp only [Hz,Sz]
def Ok (n:Nat) (l:(BA×(Bool×Unit))) (b0:Bool) (b01:(Sq Int)) (b02:BA) (b03:Bool) (b04 b05:BA) (b06:Bool) (b07:BA) (r1 r2:(Sq BA)):Option (Bool×(Sq Int)×BA×Bool×BA×BA×Bool×BA×(Sq BA)×(Sq BA)×Unit):=Oi n l b0 b01 b02 b03 b04 b05 b06 b07 r1 r2 some
theorem Lz: @Ok= @Ba:=by
 funext n l b0 b01 b02 b03 b04 b05 b06 b07 r1 r2
 unfold Ok Ba
 simp only [Hw]
def Fh (n:Nat) {R:Type} (t25:(Sq (BA×(Bool×Unit)))) (t26 t27:Int) (p:Bool) (p1:(Sq Int)) (p2:BA) (p3:Bool) (p4 p5:BA) (p6:Bool) (p7:BA) (r11 r21:(Sq BA)) (kn:(Sq (BA×(Bool×Unit)))→Int→Int→Bool→(Sq Int)→BA→Bool→BA→BA→Bool→BA→(Sq BA)→(Sq BA)→Option R) (ko:(Bool×(Sq Int)×BA×Bool×BA×BA×Bool×BA×(Sq BA)×(Sq BA))→Option R) (kr:Unit→Option R) (kp:Int→Option R):Option R:=
 if (decide (t27<t26))=true then
 if 0≤t27∧t27<(t25.n:Int) then
  (Ok n (((t25.at' (Int.toNat t27))).1,((((t25.at' (Int.toNat t27))).2).1,())) p p1 p2 p3 p4 p5 p6 p7 r11 r21).bind fun v1=>
  kn t25 t26 (IntKind.wrap .i64 (t27+(1:Int))) v1.1 v1.2.1 v1.2.2.1 v1.2.2.2.1 v1.2.2.2.2.1 v1.2.2.2.2.2.1 v1.2.2.2.2.2.2.1 v1.2.2.2.2.2.2.2.1 v1.2.2.2.2.2.2.2.2.1 v1.2.2.2.2.2.2.2.2.2.1
 else
  none
 else
 ko (p,p1,p2,p3,p4,p5,p6,p7,r11,r21)
theorem yv: @Fh= @Ic:=by
 funext n R t25 t26 t27 p p1 p2 p3 p4 p5 p6 p7 r11 r21 kn ko kr kp
 unfold Fh Ic
 simp only [Lz]
def Te (n:Nat):Nat→(Sq (BA×(Bool×Unit)))→Int→Int→Bool→(Sq Int)→BA→Bool→BA→BA→Bool→BA→(Sq BA)→(Sq BA)→Option (Lx (Bool×(Sq Int)×BA×Bool×BA×BA×Bool×BA×(Sq BA)×(Sq BA)) Unit)
 | 0,_,_,_,_,_,_,_,_,_,_,_,_,_=>none
 | m+1,t25,t26,t27,p,p1,p2,p3,p4,p5,p6,p7,r11,r21=>Fh n t25 t26 t27 p p1 p2 p3 p4 p5 p6 p7 r11 r21 (Te n m) (fun a=>some (.out a)) (fun a=>some (.ret a)) (fun p=>some (.pan p))
theorem fk (n:Nat):∀ (m:Nat),Te n m=ab n m
 | 0=>rfl
 | m+1=>by
  funext t25 t26 t27 p p1 p2 p3 p4 p5 p6 p7 r11 r21
  have ih:=fk n m
  simp only [Te,ab,ih,yv]
def Gi (n:Nat) {R:Type} (b0:Bool) (b01:(Sq Int)) (b02:BA) (b03:Bool) (b04 b05:BA) (b06:Bool) (b07:BA) (r1:(Sq Int)) (r2 r3:(Sq BA)) (k:(BA×Bool×(Sq Int)×BA×Bool×BA×BA×Bool×BA×(Sq BA)×(Sq BA)×Unit)→Option R):Option R:=
 (yn n (b02,(b03,())) r1).bind fun v=>
 (Te n n v.2.1 (v.2.1.n:Int) (0:Int) b0 b01 v.1.1 v.1.2.1 b04 b05 b06 (⟨#[]⟩:BA) r2 r3).bind fun x_1=>onL x_1
 (fun a_2=>
  k (a_2.2.2.2.2.2.2.2.1,(a_2.1,(a_2.2.1,(a_2.2.2.1,(a_2.2.2.2.1,(a_2.2.2.2.2.1,(a_2.2.2.2.2.2.1,(a_2.2.2.2.2.2.2.1,(a_2.2.2.2.2.2.2.2.1,(a_2.2.2.2.2.2.2.2.2.1,(a_2.2.2.2.2.2.2.2.2.2,()))))))))))))
 (fun _=>none)
 (fun _=>none)
theorem zw: @Gi= @de:=by
 funext n R b0 b01 b02 b03 b04 b05 b06 b07 r1 r2 r3 k
 unfold Gi de
 simp only [fk]
def Fk (n:Nat) (b0:Bool) (b01:(Sq Int)) (b02:BA) (b03:Bool) (b04 b05:BA) (b06:Bool) (b07:BA) (r1:(Sq Int)) (r2 r3:(Sq BA)):Option (BA×Bool×(Sq Int)×BA×Bool×BA×BA×Bool×BA×(Sq BA)×(Sq BA)×Unit):=Gi n b0 b01 b02 b03 b04 b05 b06 b07 r1 r2 r3 some
theorem nz: @Fk= @ic:=by
 funext n b0 b01 b02 b03 b04 b05 b06 b07 r1 r2 r3
 unfold Fk ic
 simp only [zw]
def Pj (n:Nat) {R:Type} (k:Bool→Option R):Option R:=
 (fg n false (⟨0,fun _=>Aa (.int .i64)⟩:Sq Int)).bind fun v=>
 (rb n v.1 v.2.1 v.2.2.1 v.2.2.2.1 v.2.2.2.2.1 v.2.2.2.2.2.1 v.2.2.2.2.2.2.1 v.2.2.2.2.2.2.2.1 v.2.2.2.2.2.2.2.2.1 v.2.2.2.2.2.2.2.2.2.1).bind fun v1=>
 if (v1.1.toList==(⟨#[50,50,48,32,104,101,114,101,13,10]⟩:BA).toList)=true then
 (Fk n v1.2.1 v1.2.2.1 v1.2.2.2.1 v1.2.2.2.2.1 v1.2.2.2.2.2.1 v1.2.2.2.2.2.2.1 v1.2.2.2.2.2.2.2.1 v1.2.2.2.2.2.2.2.2.1 (⟨6,fun q=>List.getD (α:=Int) [(81:Int),(85:Int),(73:Int),(84:Int),(13:Int),(10:Int)] q (Aa (.int .u8))⟩:Sq Int) v1.2.2.2.2.2.2.2.2.2.1 v1.2.2.2.2.2.2.2.2.2.2.1).bind fun v2=>
 k (v2.1.toList==(⟨#[50,50,49,32,98,121,101,13,10]⟩:BA).toList)
 else
 k false
theorem qy: @Pj= @ef:=by
 funext n R k
 unfold Pj ef
 simp only [nz]
def Cv (n:Nat):Option Bool:=Pj n some
theorem yC: @Cv= @ac:=by
 funext n
 unfold Cv ac
 simp only [qy]
end
end Go.Proofs.YtddefjokgaajfaaGreatDoor.AM
