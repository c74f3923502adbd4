/- The functions of this seat without what tells that orders are alike (dup), by program (dedup.py): so the kernel can compute them. -/
import Derived.Test.YtddefjokgaajfaaGreatDoorRF1
set_option linter.all false
set_option linter.unusedVariables false
set_option linter.unusedSimpArgs false
set_option maxRecDepth 1000000
set_option maxHeartbeats 0
namespace Go.Proofs.YtddefjokgaajfaaGreatDoor.AM
open Go Go.RowKit
noncomputable section
section
variable {R S:Type}
theorem nE {x a b:Option R} (h1:x=a) (h2:x=b):x=yI a b:=by rw [←h1,←h2,da]
theorem pG {x a:Option R} {k:Nat} (h:x=a):x=SL k a:=by rw [ia];exact h
theorem EG {c:Prop} [Decidable c] {a b a' b':Option R} (h1:a=a') (h2:b=b'):(if c then a else b)=(if c then a' else b'):=by rw [h1,h2]
theorem mE {a a':Option S} {f f':S→Option R} (h1:a=a') (h2:∀ v,f v=f' v):a.bind f=a'.bind f':=by rw [h1,funext h2]
theorem QG {A B:Type} {x:Lx A B} {f f':A→Option R} {g g':B→Option R} {h h':Int→Option R} (h1:∀ v,f v=f' v) (h2:∀ v,g v=g' v) (h3:∀ v,h v=h' v):lM x f g h=lM x f' g' h':=by rw [funext h1,funext h2,funext h3]
end
def se (n:Nat) {R:Type} (to:BA) (b0:Bool) (b01:(Sq Int)) (b02:BA) (b03:Bool) (b04:BA) (b05:(Sq BA)) (b06:BA) (b07:Bool) (b08:BA) (r1:(Sq BA)) (k:(Bool×(Sq Int)×BA×Bool×BA×(Sq BA)×BA×Bool×BA×(Sq BA)×Unit)→Option R):Option R:=
 (
 if Pd (r1.n+3) 16=true then
  k (b0,(b01,(b02,(b03,(b04,(b05,(b06,(b07,(b08,((⟨(r1.n+3),fun q=>if q<r1.n then r1.at' q else (fun q=>List.getD (α:=BA) [b04,to,b06] q (Na .str)) (q - r1.n)⟩:Sq BA),()))))))))))
 else
  none)
theorem Xl: @se= @Vb:=by
 funext n R to b0 b01 b02 b03 b04 b05 b06 b07 b08 r1 k
 unfold se Vb
 repeat' first
  | with_reducible rfl
  | with_reducible refine nE ?_ ?_
  | with_reducible refine pG ?_
  | with_reducible refine EG ?_ ?_
  | with_reducible refine mE (by first | with_reducible rfl) (fun _=>?_)
  | with_reducible refine QG (fun _=>?_) (fun _=>?_) (fun _=>?_)
  | rfl
def Bd (n:Nat) (to:BA) (b0:Bool) (b01:(Sq Int)) (b02:BA) (b03:Bool) (b04:BA) (b05:(Sq BA)) (b06:BA) (b07:Bool) (b08:BA) (r1:(Sq BA)):Option (Bool×(Sq Int)×BA×Bool×BA×(Sq BA)×BA×Bool×BA×(Sq BA)×Unit):=se n to b0 b01 b02 b03 b04 b05 b06 b07 b08 r1 some
theorem Vo: @Bd= @Ta:=by
 funext n to b0 b01 b02 b03 b04 b05 b06 b07 b08 r1
 unfold Bd Ta
 simp only [Xl]
def Od (n:Nat) {R:Type} (ok:Bool) (t17:(Sq BA)) (t18 t19:Int) (p:Bool) (p1:(Sq Int)) (p2:BA) (p3:Bool) (p4:BA) (p5:(Sq BA)) (p6:BA) (p7:Bool) (p8:BA) (r11:(Sq BA)) (kn:Bool→(Sq BA)→Int→Int→Bool→(Sq Int)→BA→Bool→BA→(Sq BA)→BA→Bool→BA→(Sq BA)→Option R) (ko:(Bool×(Sq Int)×BA×Bool×BA×(Sq BA)×BA×Bool×BA×(Sq BA))→Option R) (kr:Unit→Option R) (kp:Int→Option R):Option R:=
 if (decide (t19<t18))=true then
 if 0≤t19∧t19<(t17.n:Int) then
  if ok=false then
  if p=true then
   (Ka n p p1 p2 p3 p4 p5 p6 p7 p8 r11).bind fun v1=>
   if v1.1=true then
   (Bd n (t17.at' (Int.toNat t19)) v1.2.1 v1.2.2.1 v1.2.2.2.1 v1.2.2.2.2.1 v1.2.2.2.2.2.1 v1.2.2.2.2.2.2.1 v1.2.2.2.2.2.2.2.1 v1.2.2.2.2.2.2.2.2.1 v1.2.2.2.2.2.2.2.2.2.1 v1.2.2.2.2.2.2.2.2.2.2.1).bind fun v2=>
   kn ok t17 t18 (IntKind.wrap .i64 (t19+(1:Int))) v2.1 v2.2.1 v2.2.2.1 v2.2.2.2.1 v2.2.2.2.2.1 v2.2.2.2.2.2.1 v2.2.2.2.2.2.2.1 v2.2.2.2.2.2.2.2.1 v2.2.2.2.2.2.2.2.2.1 v2.2.2.2.2.2.2.2.2.2.1
   else
   kn ok t17 t18 (IntKind.wrap .i64 (t19+(1:Int))) v1.2.1 v1.2.2.1 v1.2.2.2.1 v1.2.2.2.2.1 v1.2.2.2.2.2.1 v1.2.2.2.2.2.2.1 v1.2.2.2.2.2.2.2.1 v1.2.2.2.2.2.2.2.2.1 v1.2.2.2.2.2.2.2.2.2.1 v1.2.2.2.2.2.2.2.2.2.2.1
  else
   kn ok t17 t18 (IntKind.wrap .i64 (t19+(1:Int))) p p1 p2 p3 p4 p5 p6 p7 p8 r11
  else
  (Bd n (t17.at' (Int.toNat t19)) p p1 p2 p3 p4 p5 p6 p7 p8 r11).bind fun v3=>
  kn ok t17 t18 (IntKind.wrap .i64 (t19+(1:Int))) v3.1 v3.2.1 v3.2.2.1 v3.2.2.2.1 v3.2.2.2.2.1 v3.2.2.2.2.2.1 v3.2.2.2.2.2.2.1 v3.2.2.2.2.2.2.2.1 v3.2.2.2.2.2.2.2.2.1 v3.2.2.2.2.2.2.2.2.2.1
 else
  none
 else
 ko (p,p1,p2,p3,p4,p5,p6,p7,p8,r11)
theorem Yk: @Od= @Za:=by
 funext n R ok t17 t18 t19 p p1 p2 p3 p4 p5 p6 p7 p8 r11 kn ko kr kp
 unfold Od Za
 simp only [Vo]
def wb (n:Nat):Nat→Bool→(Sq BA)→Int→Int→Bool→(Sq Int)→BA→Bool→BA→(Sq BA)→BA→Bool→BA→(Sq BA)→Option (Lx (Bool×(Sq Int)×BA×Bool×BA×(Sq BA)×BA×Bool×BA×(Sq BA)) Unit)
 | 0,_,_,_,_,_,_,_,_,_,_,_,_,_,_=>none
 | m+1,ok,t17,t18,t19,p,p1,p2,p3,p4,p5,p6,p7,p8,r11=>Od n ok t17 t18 t19 p p1 p2 p3 p4 p5 p6 p7 p8 r11 (wb n m) (fun a=>some (.out a)) (fun a=>some (.ret a)) (fun p=>some (.pan p))
theorem sf (n:Nat):∀ (m:Nat),wb n m=ta n m
 | 0=>rfl
 | m+1=>by
  funext ok t17 t18 t19 p p1 p2 p3 p4 p5 p6 p7 p8 r11
  have ih:=sf n m
  simp only [wb,ta,ih,Yk]
def ke (n:Nat) {R:Type} (b0:Bool) (b01:(Sq Int)) (b02:BA) (b03:Bool) (b04 b05:BA) (b06:Bool) (b07:BA) (r1 r2:(Sq BA)) (k:(Bool×(Sq Int)×BA×Bool×BA×BA×Bool×BA×(Sq BA)×(Sq BA)×Unit)→Option R):Option R:=
 if (!b0)=true then
 (Ka n b0 b01 b02 b03 b04 r1 b05 b06 b07 r2).bind fun v=>
 (wb n n v.1 v.2.2.2.2.2.2.1 (v.2.2.2.2.2.2.1.n:Int) (0:Int) v.2.1 v.2.2.1 v.2.2.2.1 v.2.2.2.2.1 v.2.2.2.2.2.1 v.2.2.2.2.2.2.1 v.2.2.2.2.2.2.2.1 v.2.2.2.2.2.2.2.2.1 v.2.2.2.2.2.2.2.2.2.1 v.2.2.2.2.2.2.2.2.2.2.1).bind fun x_1=>lM x_1
  (fun a_2=>
  (Qa n a_2.1 a_2.2.1 a_2.2.2.1 a_2.2.2.2.1 a_2.2.2.2.2.1 a_2.2.2.2.2.2.1 a_2.2.2.2.2.2.2.1 a_2.2.2.2.2.2.2.2.1 a_2.2.2.2.2.2.2.2.2.1 a_2.2.2.2.2.2.2.2.2.2).bind fun v4=>
  k (v4.1,(v4.2.1,(v4.2.2.1,(v4.2.2.2.1,(v4.2.2.2.2.1,(v4.2.2.2.2.2.1,(v4.2.2.2.2.2.2.1,(v4.2.2.2.2.2.2.2.1,(v4.2.2.2.2.2.2.2.2.1,(v4.2.2.2.2.2.2.2.2.2.1,())))))))))))
  (fun _=>none)
  (fun _=>none)
 else
 (wb n n false r1 (r1.n:Int) (0:Int) b0 b01 b02 b03 b04 r1 b05 b06 b07 r2).bind fun x_3=>lM x_3
  (fun a_4=>
  (Qa n a_4.1 a_4.2.1 a_4.2.2.1 a_4.2.2.2.1 a_4.2.2.2.2.1 a_4.2.2.2.2.2.1 a_4.2.2.2.2.2.2.1 a_4.2.2.2.2.2.2.2.1 a_4.2.2.2.2.2.2.2.2.1 a_4.2.2.2.2.2.2.2.2.2).bind fun v5=>
  k (v5.1,(v5.2.1,(v5.2.2.1,(v5.2.2.2.1,(v5.2.2.2.2.1,(v5.2.2.2.2.2.1,(v5.2.2.2.2.2.2.1,(v5.2.2.2.2.2.2.2.1,(v5.2.2.2.2.2.2.2.2.1,(v5.2.2.2.2.2.2.2.2.2.1,())))))))))))
  (fun _=>none)
  (fun _=>none)
theorem Tl: @ke= @Sb:=by
 funext n R b0 b01 b02 b03 b04 b05 b06 b07 r1 r2 k
 unfold ke Sb
 simp only [sf]
def Lf (n:Nat) (b0:Bool) (b01:(Sq Int)) (b02:BA) (b03:Bool) (b04 b05:BA) (b06:Bool) (b07:BA) (r1 r2:(Sq BA)):Option (Bool×(Sq Int)×BA×Bool×BA×BA×Bool×BA×(Sq BA)×(Sq BA)×Unit):=ke n b0 b01 b02 b03 b04 b05 b06 b07 r1 r2 some
theorem Bo: @Lf= @lb:=by
 funext n b0 b01 b02 b03 b04 b05 b06 b07 r1 r2
 unfold Lf lb
 simp only [Tl]
def qe (n:Nat) {R:Type} (path:BA) (b0:Bool) (b01:(Sq Int)) (b02:BA) (b03:Bool) (b04 b05:BA) (b06:Bool) (b07:BA) (r1 r2:(Sq BA)) (k:(Bool×(Sq Int)×BA×Bool×BA×BA×Bool×BA×(Sq BA)×(Sq BA)×Unit)→Option R):Option R:=
 (Vw n path).bind fun v=>
 if (v.2.2.1 !=(0:Int))=false then
 if v.2.1=true then
  (oa n (500:Int) b0 b01 b02 b03 b04 b05 b06 b07 r1 r2).bind fun v1=>
  k (v1.1,(v1.2.1,(v1.2.2.1,(v1.2.2.2.1,(v1.2.2.2.2.1,(v1.2.2.2.2.2.1,(v1.2.2.2.2.2.2.1,(v1.2.2.2.2.2.2.2.1,(v1.2.2.2.2.2.2.2.2.1,(v1.2.2.2.2.2.2.2.2.2.1,()))))))))))
 else
  (Ua n b0 b01 b02 b03 b04 b05 b06 b07 r1 r2).bind fun v2=>
  if v2.1=true then
  (
   (Jz n (v.1.1,(v.1.2.1,()))).bind fun v3=>
   if Pd (v2.2.2.2.2.2.2.2.2.2.1.n+1) 16=true then
   k (v2.2.1,(v2.2.2.1,(v2.2.2.2.1,(v2.2.2.2.2.1,(v2.2.2.2.2.2.1,(v2.2.2.2.2.2.2.1,(v2.2.2.2.2.2.2.2.1,(v2.2.2.2.2.2.2.2.2.1,((⟨(v2.2.2.2.2.2.2.2.2.2.1.n+1),fun q=>if q<v2.2.2.2.2.2.2.2.2.2.1.n then v2.2.2.2.2.2.2.2.2.2.1.at' q else (fun q=>List.getD (α:=BA) [v3] q (Na .str)) (q - v2.2.2.2.2.2.2.2.2.2.1.n)⟩:Sq BA),(v2.2.2.2.2.2.2.2.2.2.2.1,()))))))))))
   else
   none)
  else
  k (v2.2.1,(v2.2.2.1,(v2.2.2.2.1,(v2.2.2.2.2.1,(v2.2.2.2.2.2.1,(v2.2.2.2.2.2.2.1,(v2.2.2.2.2.2.2.2.1,(v2.2.2.2.2.2.2.2.2.1,(v2.2.2.2.2.2.2.2.2.2.1,(v2.2.2.2.2.2.2.2.2.2.2.1,()))))))))))
 else
 (oa n (500:Int) b0 b01 b02 b03 b04 b05 b06 b07 r1 r2).bind fun v5=>
 k (v5.1,(v5.2.1,(v5.2.2.1,(v5.2.2.2.1,(v5.2.2.2.2.1,(v5.2.2.2.2.2.1,(v5.2.2.2.2.2.2.1,(v5.2.2.2.2.2.2.2.1,(v5.2.2.2.2.2.2.2.2.1,(v5.2.2.2.2.2.2.2.2.2.1,()))))))))))
theorem Wl: @qe= @Ub:=by
 funext n R path b0 b01 b02 b03 b04 b05 b06 b07 r1 r2 k
 unfold qe Ub
 repeat' first
  | with_reducible rfl
  | with_reducible refine nE ?_ ?_
  | with_reducible refine pG ?_
  | with_reducible refine EG ?_ ?_
  | with_reducible refine mE (by first | with_reducible rfl) (fun _=>?_)
  | with_reducible refine QG (fun _=>?_) (fun _=>?_) (fun _=>?_)
  | rfl
def Ad (n:Nat) (path:BA) (b0:Bool) (b01:(Sq Int)) (b02:BA) (b03:Bool) (b04 b05:BA) (b06:Bool) (b07:BA) (r1 r2:(Sq BA)):Option (Bool×(Sq Int)×BA×Bool×BA×BA×Bool×BA×(Sq BA)×(Sq BA)×Unit):=qe n path b0 b01 b02 b03 b04 b05 b06 b07 r1 r2 some
theorem Oo: @Ad= @Sa:=by
 funext n path b0 b01 b02 b03 b04 b05 b06 b07 r1 r2
 unfold Ad Sa
 simp only [Wl]
def me (n:Nat) {R:Type} (l:(BA×(Bool×Unit))) (b0:Bool) (b01:(Sq Int)) (b02:BA) (b03:Bool) (b04 b05:BA) (b06:Bool) (b07:BA) (r1 r2:(Sq BA)) (k:(Bool×(Sq Int)×BA×Bool×BA×BA×Bool×BA×(Sq BA)×(Sq BA)×Unit)→Option R):Option R:=
 if l.2.1=true then
 (oa n (500:Int) b0 b01 b02 b03 b04 b05 b06 b07 r1 r2).bind fun v=>
 k (v.1,(v.2.1,(v.2.2.1,(v.2.2.2.1,(v.2.2.2.2.1,(v.2.2.2.2.2.1,(v.2.2.2.2.2.2.1,(v.2.2.2.2.2.2.2.1,(v.2.2.2.2.2.2.2.2.1,(v.2.2.2.2.2.2.2.2.2.1,()))))))))))
 else
 if b06=true then
  (Kn n l.1).bind fun v1=>
  if v1.2.1=true then
  (Lf n b0 b01 b02 b03 b04 b05 b06 b07 r1 r2).bind fun v2=>
  k (v2.1,(v2.2.1,(v2.2.2.1,(v2.2.2.2.1,(v2.2.2.2.2.1,(v2.2.2.2.2.2.1,(v2.2.2.2.2.2.2.1,(v2.2.2.2.2.2.2.2.1,(v2.2.2.2.2.2.2.2.2.1,(v2.2.2.2.2.2.2.2.2.2.1,()))))))))))
  else
  if Wa v1.1 (⟨#[13,10]⟩:BA)=true then
   if Wa b05 (v1.1++(⟨#[13,10]⟩:BA))=true then
   k (b0,(b01,(b02,(b03,(b04,((b05++(v1.1++(⟨#[13,10]⟩:BA))),(b06,(b07,(r1,(r2,()))))))))))
   else
   none
  else
   none
 else
  (Da n l.1 (⟨#[69,72,76,79,32]⟩:BA)).bind fun v3=>
  if v3=true then
  (oa n (250:Int) b0 b01 b02 b03 b04 b05 b06 b07 r1 r2).bind fun v4=>
  k (v4.1,(v4.2.1,(v4.2.2.1,(v4.2.2.2.1,(v4.2.2.2.2.1,(v4.2.2.2.2.2.1,(v4.2.2.2.2.2.2.1,(v4.2.2.2.2.2.2.2.1,(v4.2.2.2.2.2.2.2.2.1,(v4.2.2.2.2.2.2.2.2.2.1,()))))))))))
  else
  (Da n l.1 (⟨#[76,72,76,79,32]⟩:BA)).bind fun v5=>
  if v5=true then
   (oa n (250:Int) b0 b01 b02 b03 b04 b05 b06 b07 r1 r2).bind fun v6=>
   k (v6.1,(v6.2.1,(v6.2.2.1,(v6.2.2.2.1,(v6.2.2.2.2.1,(v6.2.2.2.2.2.1,(v6.2.2.2.2.2.2.1,(v6.2.2.2.2.2.2.2.1,(v6.2.2.2.2.2.2.2.2.1,(v6.2.2.2.2.2.2.2.2.2.1,()))))))))))
  else
   (Da n l.1 (⟨#[77,65,73,76,32,70,82,79,77,58,60]⟩:BA)).bind fun v7=>
   if v7=true then
   if 0≤(11:Int)∧(11:Int)≤(l.1.size:Int) then
    (Lb n (l.1.extract (Int.toNat (11:Int)) (Int.toNat (l.1.size:Int))) (⟨#[62]⟩:BA)).bind fun v8=>
    if v8=true then
    if 0≤(IntKind.wrap .i64 ((l.1.size:Int) - (1:Int)))∧(IntKind.wrap .i64 ((l.1.size:Int) - (1:Int)))≤(l.1.size:Int) then
     if 0≤(11:Int)∧(11:Int)≤(IntKind.wrap .i64 ((l.1.size:Int) - (1:Int))) then
     (Mb n (l.1.extract (Int.toNat (11:Int)) (Int.toNat (IntKind.wrap .i64 ((l.1.size:Int) - (1:Int))))) b0 b01 b02 b03 b04 b05 b06 b07 r1 r2).bind fun v9=>
     k (v9.1,(v9.2.1,(v9.2.2.1,(v9.2.2.2.1,(v9.2.2.2.2.1,(v9.2.2.2.2.2.1,(v9.2.2.2.2.2.2.1,(v9.2.2.2.2.2.2.2.1,(v9.2.2.2.2.2.2.2.2.1,(v9.2.2.2.2.2.2.2.2.2.1,()))))))))))
     else
     none
    else
     none
    else
    (Da n l.1 (⟨#[82,67,80,84,32,84,79,58]⟩:BA)).bind fun v10=>
    if v10=true then
     if 0≤(8:Int)∧(8:Int)≤(l.1.size:Int) then
     (Ad n (l.1.extract (Int.toNat (8:Int)) (Int.toNat (l.1.size:Int))) b0 b01 b02 b03 b04 b05 b06 b07 r1 r2).bind fun v11=>
     k (v11.1,(v11.2.1,(v11.2.2.1,(v11.2.2.2.1,(v11.2.2.2.2.1,(v11.2.2.2.2.2.1,(v11.2.2.2.2.2.2.1,(v11.2.2.2.2.2.2.2.1,(v11.2.2.2.2.2.2.2.2.1,(v11.2.2.2.2.2.2.2.2.2.1,()))))))))))
     else
     none
    else
     if (l.1.toList==(⟨#[68,65,84,65]⟩:BA).toList)=true then
     (Ra n b0 b01 b02 b03 b04 b05 b06 b07 r1 r2).bind fun v12=>
     k (v12.1,(v12.2.1,(v12.2.2.1,(v12.2.2.2.1,(v12.2.2.2.2.1,(v12.2.2.2.2.2.1,(v12.2.2.2.2.2.2.1,(v12.2.2.2.2.2.2.2.1,(v12.2.2.2.2.2.2.2.2.1,(v12.2.2.2.2.2.2.2.2.2.1,()))))))))))
     else
     if (l.1.toList==(⟨#[81,85,73,84]⟩:BA).toList)=true then
      (oa n (221:Int) b0 b01 b02 b03 b04 b05 b06 b07 r1 r2).bind fun v13=>
      k (v13.1,(v13.2.1,(v13.2.2.1,(v13.2.2.2.1,(v13.2.2.2.2.1,(v13.2.2.2.2.2.1,(v13.2.2.2.2.2.2.1,(v13.2.2.2.2.2.2.2.1,(v13.2.2.2.2.2.2.2.2.1,(v13.2.2.2.2.2.2.2.2.2.1,()))))))))))
     else
      (oa n (500:Int) b0 b01 b02 b03 b04 b05 b06 b07 r1 r2).bind fun v14=>
      k (v14.1,(v14.2.1,(v14.2.2.1,(v14.2.2.2.1,(v14.2.2.2.2.1,(v14.2.2.2.2.2.1,(v14.2.2.2.2.2.2.1,(v14.2.2.2.2.2.2.2.1,(v14.2.2.2.2.2.2.2.2.1,(v14.2.2.2.2.2.2.2.2.2.1,()))))))))))
   else
    none
   else
   (Da n l.1 (⟨#[82,67,80,84,32,84,79,58]⟩:BA)).bind fun v15=>
   if v15=true then
    if 0≤(8:Int)∧(8:Int)≤(l.1.size:Int) then
    (Ad n (l.1.extract (Int.toNat (8:Int)) (Int.toNat (l.1.size:Int))) b0 b01 b02 b03 b04 b05 b06 b07 r1 r2).bind fun v16=>
    k (v16.1,(v16.2.1,(v16.2.2.1,(v16.2.2.2.1,(v16.2.2.2.2.1,(v16.2.2.2.2.2.1,(v16.2.2.2.2.2.2.1,(v16.2.2.2.2.2.2.2.1,(v16.2.2.2.2.2.2.2.2.1,(v16.2.2.2.2.2.2.2.2.2.1,()))))))))))
    else
    none
   else
    if (l.1.toList==(⟨#[68,65,84,65]⟩:BA).toList)=true then
    (Ra n b0 b01 b02 b03 b04 b05 b06 b07 r1 r2).bind fun v17=>
    k (v17.1,(v17.2.1,(v17.2.2.1,(v17.2.2.2.1,(v17.2.2.2.2.1,(v17.2.2.2.2.2.1,(v17.2.2.2.2.2.2.1,(v17.2.2.2.2.2.2.2.1,(v17.2.2.2.2.2.2.2.2.1,(v17.2.2.2.2.2.2.2.2.2.1,()))))))))))
    else
    if (l.1.toList==(⟨#[81,85,73,84]⟩:BA).toList)=true then
     (oa n (221:Int) b0 b01 b02 b03 b04 b05 b06 b07 r1 r2).bind fun v18=>
     k (v18.1,(v18.2.1,(v18.2.2.1,(v18.2.2.2.1,(v18.2.2.2.2.1,(v18.2.2.2.2.2.1,(v18.2.2.2.2.2.2.1,(v18.2.2.2.2.2.2.2.1,(v18.2.2.2.2.2.2.2.2.1,(v18.2.2.2.2.2.2.2.2.2.1,()))))))))))
    else
     (oa n (500:Int) b0 b01 b02 b03 b04 b05 b06 b07 r1 r2).bind fun v19=>
     k (v19.1,(v19.2.1,(v19.2.2.1,(v19.2.2.2.1,(v19.2.2.2.2.1,(v19.2.2.2.2.2.1,(v19.2.2.2.2.2.2.1,(v19.2.2.2.2.2.2.2.1,(v19.2.2.2.2.2.2.2.2.1,(v19.2.2.2.2.2.2.2.2.2.1,()))))))))))
theorem Vl: @me= @Tb:=by
 funext n R l b0 b01 b02 b03 b04 b05 b06 b07 r1 r2 k
 unfold me Tb
 simp only [Bo,Oo]
def Nf (n:Nat) (l:(BA×(Bool×Unit))) (b0:Bool) (b01:(Sq Int)) (b02:BA) (b03:Bool) (b04 b05:BA) (b06:Bool) (b07:BA) (r1 r2:(Sq BA)):Option (Bool×(Sq Int)×BA×Bool×BA×BA×Bool×BA×(Sq BA)×(Sq BA)×Unit):=me n l b0 b01 b02 b03 b04 b05 b06 b07 r1 r2 some
theorem Ho: @Nf= @mb:=by
 funext n l b0 b01 b02 b03 b04 b05 b06 b07 r1 r2
 unfold Nf mb
 simp only [Vl]
def Ld (n:Nat) {R:Type} (t25:(Sq (BA×(Bool×Unit)))) (t26 t27:Int) (p:Bool) (p1:(Sq Int)) (p2:BA) (p3:Bool) (p4 p5:BA) (p6:Bool) (p7:BA) (r11 r21:(Sq BA)) (kn:(Sq (BA×(Bool×Unit)))→Int→Int→Bool→(Sq Int)→BA→Bool→BA→BA→Bool→BA→(Sq BA)→(Sq BA)→Option R) (ko:(Bool×(Sq Int)×BA×Bool×BA×BA×Bool×BA×(Sq BA)×(Sq BA))→Option R) (kr:Unit→Option R) (kp:Int→Option R):Option R:=
 if (decide (t27<t26))=true then
 if 0≤t27∧t27<(t25.n:Int) then
  (Nf n (((t25.at' (Int.toNat t27))).1,((((t25.at' (Int.toNat t27))).2).1,())) p p1 p2 p3 p4 p5 p6 p7 r11 r21).bind fun v1=>
  kn t25 t26 (IntKind.wrap .i64 (t27+(1:Int))) v1.1 v1.2.1 v1.2.2.1 v1.2.2.2.1 v1.2.2.2.2.1 v1.2.2.2.2.2.1 v1.2.2.2.2.2.2.1 v1.2.2.2.2.2.2.2.1 v1.2.2.2.2.2.2.2.2.1 v1.2.2.2.2.2.2.2.2.2.1
 else
  none
 else
 ko (p,p1,p2,p3,p4,p5,p6,p7,r11,r21)
theorem Xk: @Ld= @Ya:=by
 funext n R t25 t26 t27 p p1 p2 p3 p4 p5 p6 p7 r11 r21 kn ko kr kp
 unfold Ld Ya
 simp only [Ho]
def mc (n:Nat):Nat→(Sq (BA×(Bool×Unit)))→Int→Int→Bool→(Sq Int)→BA→Bool→BA→BA→Bool→BA→(Sq BA)→(Sq BA)→Option (Lx (Bool×(Sq Int)×BA×Bool×BA×BA×Bool×BA×(Sq BA)×(Sq BA)) Unit)
 | 0,_,_,_,_,_,_,_,_,_,_,_,_,_=>none
 | m+1,t25,t26,t27,p,p1,p2,p3,p4,p5,p6,p7,r11,r21=>Ld n t25 t26 t27 p p1 p2 p3 p4 p5 p6 p7 r11 r21 (mc n m) (fun a=>some (.out a)) (fun a=>some (.ret a)) (fun p=>some (.pan p))
theorem mf (n:Nat):∀ (m:Nat),mc n m=wa n m
 | 0=>rfl
 | m+1=>by
  funext t25 t26 t27 p p1 p2 p3 p4 p5 p6 p7 r11 r21
  have ih:=mf n m
  simp only [mc,wa,ih,Xk]
def ce (n:Nat) {R:Type} (b0:Bool) (b01:(Sq Int)) (b02:BA) (b03:Bool) (b04 b05:BA) (b06:Bool) (b07:BA) (r1:(Sq Int)) (r2 r3:(Sq BA)) (k:(BA×Bool×(Sq Int)×BA×Bool×BA×BA×Bool×BA×(Sq BA)×(Sq BA)×Unit)→Option R):Option R:=
 (On n (b02,(b03,())) r1).bind fun v=>
 (mc n n v.2.1 (v.2.1.n:Int) (0:Int) b0 b01 v.1.1 v.1.2.1 b04 b05 b06 (⟨#[]⟩:BA) r2 r3).bind fun x_1=>lM x_1
 (fun a_2=>
  k (a_2.2.2.2.2.2.2.2.1,(a_2.1,(a_2.2.1,(a_2.2.2.1,(a_2.2.2.2.1,(a_2.2.2.2.2.1,(a_2.2.2.2.2.2.1,(a_2.2.2.2.2.2.2.1,(a_2.2.2.2.2.2.2.2.1,(a_2.2.2.2.2.2.2.2.2.1,(a_2.2.2.2.2.2.2.2.2.2,()))))))))))))
 (fun _=>none)
 (fun _=>none)
theorem Nl: @ce= @Rb:=by
 funext n R b0 b01 b02 b03 b04 b05 b06 b07 r1 r2 r3 k
 unfold ce Rb
 simp only [mf]
def zd (n:Nat) (b0:Bool) (b01:(Sq Int)) (b02:BA) (b03:Bool) (b04 b05:BA) (b06:Bool) (b07:BA) (r1:(Sq Int)) (r2 r3:(Sq BA)):Option (BA×Bool×(Sq Int)×BA×Bool×BA×BA×Bool×BA×(Sq BA)×(Sq BA)×Unit):=ce n b0 b01 b02 b03 b04 b05 b06 b07 r1 r2 r3 some
theorem fh: @zd= @Pa:=by
 funext n b0 b01 b02 b03 b04 b05 b06 b07 r1 r2 r3
 unfold zd Pa
 simp only [Nl]
def bf (n:Nat) {R:Type} (k:Bool→Option R):Option R:=
 (Eg n false (⟨0,fun _=>Na (.int .i64)⟩:Sq Int)).bind fun v=>
 (jb n v.1 v.2.1 v.2.2.1 v.2.2.2.1 v.2.2.2.2.1 v.2.2.2.2.2.1 v.2.2.2.2.2.2.1 v.2.2.2.2.2.2.2.1 v.2.2.2.2.2.2.2.2.1 v.2.2.2.2.2.2.2.2.2.1).bind fun v1=>
 if (v1.1.toList==(⟨#[50,50,48,32,104,101,114,101,13,10]⟩:BA).toList)=true then
 (zd n v1.2.1 v1.2.2.1 v1.2.2.2.1 v1.2.2.2.2.1 v1.2.2.2.2.2.1 v1.2.2.2.2.2.2.1 v1.2.2.2.2.2.2.2.1 v1.2.2.2.2.2.2.2.2.1 (⟨6,fun q=>List.getD (α:=Int) [(81:Int),(85:Int),(73:Int),(84:Int),(13:Int),(10:Int)] q (Na (.int .u8))⟩:Sq Int) v1.2.2.2.2.2.2.2.2.2.1 v1.2.2.2.2.2.2.2.2.2.2.1).bind fun v2=>
 k (v2.1.toList==(⟨#[50,50,49,32,98,121,101,13,10]⟩:BA).toList)
 else
 k false
theorem en: @bf= @Ac:=by
 funext n R k
 unfold bf Ac
 simp only [fh]
def Vd (n:Nat):Option Bool:=bf n some
theorem Hq: @Vd= @zb:=by
 funext n
 unfold Vd zb
 simp only [en]
def sa (n:Nat) {R:Type} (p:(Bool×((Sq Int)×((Sq (Sq Int))×Unit)))) (k:Bool→Option R):Option R:=
 (ib n (p.2.2.1.n:Int) (5:Int)).bind fun v=>
 (ua n n (IntKind.wrap .i64 ((1:Int)+v)) (⟨#[]⟩:BA) (⟨#[]⟩:BA) (0:Int) p.1 p.2.1 p.2.2.1).bind fun x_1=>lM x_1
 (fun a_2=>
  (Dg n a_2.2.2.1 (⟨5,fun q=>List.getD (α:=Int) [(250:Int),(550:Int),(250:Int),(250:Int),(451:Int)] q (Na (.int .i64))⟩:Sq Int)).bind fun v1=>
  if Wa (⟨#[69,72,76,79,32,104,13,10,77,65,73,76,32,70,82,79,77,58,60,97,64,98,62,13,10,82,67,80,84,32,84,79,58,60,99,64,100,62,13,10,82,67,80,84,32,84,79,58,60,101,64,100,62,13,10,82,67,80,84,32,84,79,58,60,102,64,100,62,13,10,68,65,84,65,13,10]⟩:BA) a_2.1=true then
  if Wa ((⟨#[69,72,76,79,32,104,13,10,77,65,73,76,32,70,82,79,77,58,60,97,64,98,62,13,10,82,67,80,84,32,84,79,58,60,99,64,100,62,13,10,82,67,80,84,32,84,79,58,60,101,64,100,62,13,10,82,67,80,84,32,84,79,58,60,102,64,100,62,13,10,68,65,84,65,13,10]⟩:BA)++a_2.1) (⟨#[46,13,10,81,85,73,84,13,10]⟩:BA)=true then
   (zd n v1.1 v1.2.1 v1.2.2.1 v1.2.2.2.1 v1.2.2.2.2.1 v1.2.2.2.2.2.1 v1.2.2.2.2.2.2.1 v1.2.2.2.2.2.2.2.1 (⟨(((⟨#[69,72,76,79,32,104,13,10,77,65,73,76,32,70,82,79,77,58,60,97,64,98,62,13,10,82,67,80,84,32,84,79,58,60,99,64,100,62,13,10,82,67,80,84,32,84,79,58,60,101,64,100,62,13,10,82,67,80,84,32,84,79,58,60,102,64,100,62,13,10,68,65,84,65,13,10]⟩:BA)++a_2.1)++(⟨#[46,13,10,81,85,73,84,13,10]⟩:BA)).size,fun q=>bt (((⟨#[69,72,76,79,32,104,13,10,77,65,73,76,32,70,82,79,77,58,60,97,64,98,62,13,10,82,67,80,84,32,84,79,58,60,99,64,100,62,13,10,82,67,80,84,32,84,79,58,60,101,64,100,62,13,10,82,67,80,84,32,84,79,58,60,102,64,100,62,13,10,68,65,84,65,13,10]⟩:BA)++a_2.1)++(⟨#[46,13,10,81,85,73,84,13,10]⟩:BA)) q⟩:Sq Int) v1.2.2.2.2.2.2.2.2.1 v1.2.2.2.2.2.2.2.2.2.1).bind fun v2=>
   if a_2.2.2.1=true then
   if (v2.1.toList==(⟨#[50,53,48,32,111,107,13,10,50,53,48,32,111,107,13,10,53,53,48,32,110,111,13,10,50,53,48,32,111,107,13,10,50,53,48,32,111,107,13,10,51,53,52,32,103,111,32,111,110,13,10,52,53,49,32,110,111,13,10,50,53,48,32,111,107,13,10,50,50,49,32,98,121,101,13,10]⟩:BA).toList)=true then
    (ab n v2.2.1 v2.2.2.1 v2.2.2.2.1 v2.2.2.2.2.1 v2.2.2.2.2.2.1 v2.2.2.2.2.2.2.1 v2.2.2.2.2.2.2.2.1 v2.2.2.2.2.2.2.2.2.1 v2.2.2.2.2.2.2.2.2.2.1 v2.2.2.2.2.2.2.2.2.2.2.1).bind fun v3=>
    (sh n v3.2.2.2.2.2.2.2.2.1 (⟨3,fun q=>List.getD (α:=BA) [(⟨#[97,64,98]⟩:BA),(⟨#[102,64,100]⟩:BA),a_2.2.1] q (Na .str)⟩:Sq BA)).bind fun v4=>
    if v4=true then
    (Vd n).bind fun v5=>
    k v5
    else
    k false
   else
    k false
   else
   if (v2.1.toList==(⟨#[50,53,48,32,111,107,13,10,50,53,48,32,111,107,13,10,53,53,48,32,110,111,13,10,50,53,48,32,111,107,13,10,50,53,48,32,111,107,13,10,51,53,52,32,103,111,32,111,110,13,10,52,53,49,32,110,111,13,10,50,50,49,32,98,121,101,13,10]⟩:BA).toList)=true then
    (ab n v2.2.1 v2.2.2.1 v2.2.2.2.1 v2.2.2.2.2.1 v2.2.2.2.2.2.1 v2.2.2.2.2.2.2.1 v2.2.2.2.2.2.2.2.1 v2.2.2.2.2.2.2.2.2.1 v2.2.2.2.2.2.2.2.2.2.1 v2.2.2.2.2.2.2.2.2.2.2.1).bind fun v6=>
    if ((v6.2.2.2.2.2.2.2.2.1.n:Int)==(0:Int))=true then
    (Vd n).bind fun v7=>
    k v7
    else
    k false
   else
    k false
  else
   none
  else
  none)
 (fun _=>none)
 (fun _=>none)
theorem rj: @sa= @fb:=by
 funext n R p k
 unfold sa fb
 simp only [fh,Hq]
def la (n:Nat) (p:(Bool×((Sq Int)×((Sq (Sq Int))×Unit)))):Option Bool:=sa n p some
theorem Zk: @la= @pouchlaw27_PeerTakes:=by
 funext n p
 unfold la pouchlaw27_PeerTakes
 simp only [rj]
end
open Go Go.RowKit
set_option maxRecDepth 100000
theorem DJ (x:Int):∃ r:Nat,r<5∧ib 10000000 x 5=some (r:Int):=by
 have e5:IntKind.wrap .u64 5=5:=by decide
 have ex:IntKind.wrap .u64 x=x%18446744073709551616:=by unfold IntKind.wrap;rfl
 have h0:0≤x%18446744073709551616:=Int.emod_nonneg _ (by decide)
 have h1:Int.tmod (x%18446744073709551616) 5=(x%18446744073709551616)%5:=Int.tmod_eq_emod_of_nonneg h0
 refine ⟨((x%18446744073709551616)%5).toNat,by omega,?_⟩
 unfold ib sm
 rw [if_neg (by decide),ex,e5,h1,IntKind.wrap_i64]
 congr 1
 omega
theorem JH (q:Sq Int) (l:Sq (Sq Int)) (h:ib 10000000 (l.n:Int) 5=some ((0:Nat):Int)):la 10000000 (true,(q,(l,())))=some true:=by
 unfold la sa
 dsimp only
 rw [h,Option.bind_some]
 kernel_rfl
theorem IH (q:Sq Int) (l:Sq (Sq Int)) (h:ib 10000000 (l.n:Int) 5=some ((0:Nat):Int)):la 10000000 (false,(q,(l,())))=some true:=by
 unfold la sa
 dsimp only
 rw [h,Option.bind_some]
 kernel_rfl
theorem LH (q:Sq Int) (l:Sq (Sq Int)) (h:ib 10000000 (l.n:Int) 5=some ((1:Nat):Int)):la 10000000 (true,(q,(l,())))=some true:=by
 unfold la sa
 dsimp only
 rw [h,Option.bind_some]
 kernel_rfl
theorem KH (q:Sq Int) (l:Sq (Sq Int)) (h:ib 10000000 (l.n:Int) 5=some ((1:Nat):Int)):la 10000000 (false,(q,(l,())))=some true:=by
 unfold la sa
 dsimp only
 rw [h,Option.bind_some]
 kernel_rfl
theorem NH (q:Sq Int) (l:Sq (Sq Int)) (h:ib 10000000 (l.n:Int) 5=some ((2:Nat):Int)):la 10000000 (true,(q,(l,())))=some true:=by
 unfold la sa
 dsimp only
 rw [h,Option.bind_some]
 kernel_rfl
theorem MH (q:Sq Int) (l:Sq (Sq Int)) (h:ib 10000000 (l.n:Int) 5=some ((2:Nat):Int)):la 10000000 (false,(q,(l,())))=some true:=by
 unfold la sa
 dsimp only
 rw [h,Option.bind_some]
 kernel_rfl
theorem PH (q:Sq Int) (l:Sq (Sq Int)) (h:ib 10000000 (l.n:Int) 5=some ((3:Nat):Int)):la 10000000 (true,(q,(l,())))=some true:=by
 unfold la sa
 dsimp only
 rw [h,Option.bind_some]
 kernel_rfl
theorem OH (q:Sq Int) (l:Sq (Sq Int)) (h:ib 10000000 (l.n:Int) 5=some ((3:Nat):Int)):la 10000000 (false,(q,(l,())))=some true:=by
 unfold la sa
 dsimp only
 rw [h,Option.bind_some]
 kernel_rfl
theorem RH (q:Sq Int) (l:Sq (Sq Int)) (h:ib 10000000 (l.n:Int) 5=some ((4:Nat):Int)):la 10000000 (true,(q,(l,())))=some true:=by
 unfold la sa
 dsimp only
 rw [h,Option.bind_some]
 kernel_rfl
theorem QH (q:Sq Int) (l:Sq (Sq Int)) (h:ib 10000000 (l.n:Int) 5=some ((4:Nat):Int)):la 10000000 (false,(q,(l,())))=some true:=by
 unfold la sa
 dsimp only
 rw [h,Option.bind_some]
 kernel_rfl
theorem SH (b:Bool) (q:Sq Int) (l:Sq (Sq Int)) (r:Nat) (hr:r<5) (h:ib 10000000 (l.n:Int) 5=some (r:Int)):la 10000000 (b,(q,(l,())))=some true:=by
 rcases (by omega:r=0∨r=1∨r=2∨r=3∨r=4) with rfl | rfl | rfl | rfl | rfl<;>cases b
 · exact IH q l h
 · exact JH q l h
 · exact KH q l h
 · exact LH q l h
 · exact MH q l h
 · exact NH q l h
 · exact OH q l h
 · exact PH q l h
 · exact QH q l h
 · exact RH q l h
theorem plain_PeerTakes (p:Bool×(Sq Int×(Sq (Sq Int)×Unit))) (_:GL reachBytes K4 p):∃ n,pouchlaw27_PeerTakes n p=some true:=⟨10000000,by
 obtain ⟨b,q,l,⟨⟩⟩:=p
 obtain ⟨r,h1,h2⟩:=DJ (l.n:Int)
 rw [←Zk]
 exact SH b q l r h1 h2⟩
end Go.Proofs.YtddefjokgaajfaaGreatDoor.AM
