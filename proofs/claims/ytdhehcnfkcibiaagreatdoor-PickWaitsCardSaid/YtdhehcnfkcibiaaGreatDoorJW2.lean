/- Typed functions that tell what the Go functions of this seat answer, and proofs of it, by program (gen.py). -/
import Derived.Test.YtdhehcnfkcibiaaGreatDoorJW1
set_option linter.all false
set_option linter.unusedVariables false
set_option linter.unusedSimpArgs false
set_option maxRecDepth 1000000
set_option maxHeartbeats 0
namespace Go.Proofs.YtdhehcnfkcibiaaGreatDoor.AM
open Go Go.RowKit
noncomputable section
def ic (n:Nat) {R:Type} (now k0 p1:Int) (p2:(Sq T1)) (p3:(Sq T3)) (p4:BA) (p5 p6:Int) (p7:(Sq Int)) (p8 p9:Int) (p10:Nat) (p11:(Sq T2)) (p12:(Sq BA)) (p13 p14 p15:Int) (p16:BA) (p17 p18:(Sq Int)) (p19:Int) (kn:Int→Int→Int→(Sq T1)→(Sq T3)→BA→Int→Int→(Sq Int)→Int→Int→Nat→(Sq T2)→(Sq BA)→Int→Int→Int→BA→(Sq Int)→(Sq Int)→Int→Option R) (ko:(Int×Int×(Sq T1)×(Sq T3)×BA×Int×Int×(Sq Int)×Int×Int×Nat×(Sq T2)×(Sq BA)×Int×Int×Int×BA×(Sq Int)×(Sq Int)×Int)→Option R) (kr:(Bool)→Option R) (kp:Int→Option R):Option R:=
 if (decide (k0<(9:Int)))=true then
 (ed n).bind fun v=>
 if (k0==(0:Int))=true then
  (Cc n (2:Int) now (⟨1,fun q=>List.getD (α:=T1) [(v.1,(v.2.1,(v.2.2.1,((v.2.2.2.1,(v.2.2.2.2.1,())),(v.2.2.2.2.2.2.2.2.2.1,(v.2.2.2.2.2.1,(v.2.2.2.2.2.2.1,(v.2.2.2.2.2.2.2.1,(v.2.2.2.2.2.2.2.2.1,())))))))))] q (ra K3)⟩:Sq T1) (⟨0,fun _=>ra K2⟩:Sq T2) (⟨0,fun _=>ra .str⟩:Sq BA)).bind fun v1=>
  (Pa n v1.1).bind fun v2=>
  if (v2 !=(0:Int))=false then
  if ((v1.2.1.n:Int) !=(1:Int))=true then
   kr false
  else
   kn now (IntKind.wrap .i64 (k0+(1:Int))) p1 p2 p3 p4 p5 p6 p7 p8 p9 p10 p11 p12 p13 p14 p15 p16 p17 p18 p19
  else
  kr false
 else
  if (k0==(1:Int))=true then
  (Cc n (2:Int) now (⟨1,fun q=>List.getD (α:=T1) [(v.1,(v.2.1,(v.2.2.1,((v.2.2.2.1,(v.2.2.2.2.1,())),(v.2.2.2.2.2.2.2.2.2.1,(v.2.2.2.2.2.1,(v.2.2.2.2.2.2.1,(true,(v.2.2.2.2.2.2.2.2.1,())))))))))] q (ra K3)⟩:Sq T1) (⟨0,fun _=>ra K2⟩:Sq T2) (⟨0,fun _=>ra .str⟩:Sq BA)).bind fun v3=>
  (Pa n v3.1).bind fun v4=>
  if (v4 !=(0:Int))=false then
   if ((v3.2.1.n:Int) !=(0:Int))=true then
   kr false
   else
   kn now (IntKind.wrap .i64 (k0+(1:Int))) p1 p2 p3 p4 p5 p6 p7 p8 p9 p10 p11 p12 p13 p14 p15 p16 p17 p18 p19
  else
   kr false
  else
  if (k0==(2:Int))=true then
   if 0≤(0:Int)∧(0:Int)<(v.2.2.2.2.2.2.2.2.2.1.n:Int) then
   (Cc n (2:Int) now (⟨1,fun q=>List.getD (α:=T1) [(v.1,(v.2.1,(v.2.2.1,((v.2.2.2.1,(v.2.2.2.2.1,())),((⟨v.2.2.2.2.2.2.2.2.2.1.n,fun q=>if q=(Int.toNat (0:Int))∧q<v.2.2.2.2.2.2.2.2.2.1.n then (((((v.2.2.2.2.2.2.2.2.2.1.at' (Int.toNat (0:Int)))).1).1,(((((v.2.2.2.2.2.2.2.2.2.1.at' (Int.toNat (0:Int)))).1).2).1,())),((((v.2.2.2.2.2.2.2.2.2.1.at' (Int.toNat (0:Int)))).2).1,(((((v.2.2.2.2.2.2.2.2.2.1.at' (Int.toNat (0:Int)))).2).2).1,((IntKind.wrap .i64 (now+(1:Int))),(((((((v.2.2.2.2.2.2.2.2.2.1.at' (Int.toNat (0:Int)))).2).2).2).2).1,()))))) else v.2.2.2.2.2.2.2.2.2.1.at' q⟩:Sq T0),(v.2.2.2.2.2.1,(v.2.2.2.2.2.2.1,(v.2.2.2.2.2.2.2.1,(v.2.2.2.2.2.2.2.2.1,())))))))))] q (ra K3)⟩:Sq T1) (⟨0,fun _=>ra K2⟩:Sq T2) (⟨0,fun _=>ra .str⟩:Sq BA)).bind fun v5=>
   (Pa n v5.1).bind fun v6=>
   if (v6 !=(0:Int))=false then
    if ((v5.2.1.n:Int) !=(0:Int))=true then
    kr false
    else
    kn now (IntKind.wrap .i64 (k0+(1:Int))) p1 p2 p3 p4 p5 p6 p7 p8 p9 p10 p11 p12 p13 p14 p15 p16 p17 p18 p19
   else
    kr false
   else
   none
  else
   if (k0==(3:Int))=true then
   if 0≤(0:Int)∧(0:Int)<(v.2.2.2.2.2.2.2.2.2.1.n:Int) then
    (Cc n (2:Int) now (⟨1,fun q=>List.getD (α:=T1) [(v.1,(v.2.1,(v.2.2.1,((v.2.2.2.1,(v.2.2.2.2.1,())),((⟨v.2.2.2.2.2.2.2.2.2.1.n,fun q=>if q=(Int.toNat (0:Int))∧q<v.2.2.2.2.2.2.2.2.2.1.n then (((((v.2.2.2.2.2.2.2.2.2.1.at' (Int.toNat (0:Int)))).1).1,(((((v.2.2.2.2.2.2.2.2.2.1.at' (Int.toNat (0:Int)))).1).2).1,())),((((v.2.2.2.2.2.2.2.2.2.1.at' (Int.toNat (0:Int)))).2).1,(((((v.2.2.2.2.2.2.2.2.2.1.at' (Int.toNat (0:Int)))).2).2).1,(now,(((((((v.2.2.2.2.2.2.2.2.2.1.at' (Int.toNat (0:Int)))).2).2).2).2).1,()))))) else v.2.2.2.2.2.2.2.2.2.1.at' q⟩:Sq T0),(v.2.2.2.2.2.1,(v.2.2.2.2.2.2.1,(v.2.2.2.2.2.2.2.1,(v.2.2.2.2.2.2.2.2.1,())))))))))] q (ra K3)⟩:Sq T1) (⟨0,fun _=>ra K2⟩:Sq T2) (⟨0,fun _=>ra .str⟩:Sq BA)).bind fun v7=>
    (Pa n v7.1).bind fun v8=>
    if (v8 !=(0:Int))=false then
    if ((v7.2.1.n:Int) !=(1:Int))=true then
     kr false
    else
     kn now (IntKind.wrap .i64 (k0+(1:Int))) p1 p2 p3 p4 p5 p6 p7 p8 p9 p10 p11 p12 p13 p14 p15 p16 p17 p18 p19
    else
    kr false
   else
    none
   else
   if (k0==(4:Int))=true then
    (jd n (0:Int) (⟨#[120]⟩:BA)).bind fun v9=>
    (le n (2:Int) now (⟨1,fun q=>List.getD (α:=T1) [(v.1,(v.2.1,(v.2.2.1,((v.2.2.2.1,(v.2.2.2.2.1,())),(v.2.2.2.2.2.2.2.2.2.1,(v.2.2.2.2.2.1,(v.2.2.2.2.2.2.1,(v.2.2.2.2.2.2.2.1,(v.2.2.2.2.2.2.2.2.1,())))))))))] q (ra K3)⟩:Sq T1) (⟨0,fun _=>ra K2⟩:Sq T2) (⟨1,fun q=>List.getD (α:=BA) [v9] q (ra .str)⟩:Sq BA)).bind fun v10=>
    (Pa n v10.1).bind fun v11=>
    if (v11 !=(0:Int))=false then
    if ((v10.2.1.n:Int) !=(0:Int))=true then
     kr false
    else
     kn now (IntKind.wrap .i64 (k0+(1:Int))) p1 p2 p3 p4 p5 p6 p7 p8 p9 p10 p11 p12 p13 p14 p15 p16 p17 p18 p19
    else
    kr false
   else
    if (k0==(5:Int))=true then
    (jd n (1:Int) (⟨#[120]⟩:BA)).bind fun v12=>
    (jd n (0:Int) (⟨#[121]⟩:BA)).bind fun v13=>
    (le n (2:Int) now (⟨1,fun q=>List.getD (α:=T1) [(v.1,(v.2.1,(v.2.2.1,((v.2.2.2.1,(v.2.2.2.2.1,())),(v.2.2.2.2.2.2.2.2.2.1,(v.2.2.2.2.2.1,(v.2.2.2.2.2.2.1,(v.2.2.2.2.2.2.2.1,(v.2.2.2.2.2.2.2.2.1,())))))))))] q (ra K3)⟩:Sq T1) (⟨0,fun _=>ra K2⟩:Sq T2) (⟨2,fun q=>List.getD (α:=BA) [v12,v13] q (ra .str)⟩:Sq BA)).bind fun v14=>
    (Pa n v14.1).bind fun v15=>
    if (v15 !=(0:Int))=false then
     if ((v14.2.1.n:Int) !=(1:Int))=true then
     kr false
     else
     kn now (IntKind.wrap .i64 (k0+(1:Int))) p1 p2 p3 p4 p5 p6 p7 p8 p9 p10 p11 p12 p13 p14 p15 p16 p17 p18 p19
    else
     kr false
    else
    if (k0==(6:Int))=true then
     (Nd n).bind fun v16=>
     (rd n (2:Int) now (⟨1,fun q=>List.getD (α:=T1) [(v.1,(v.2.1,(v.2.2.1,((v.2.2.2.1,(v.2.2.2.2.1,())),(v.2.2.2.2.2.2.2.2.2.1,(v.2.2.2.2.2.1,(v.2.2.2.2.2.2.1,(v.2.2.2.2.2.2.2.1,(v.2.2.2.2.2.2.2.2.1,())))))))))] q (ra K3)⟩:Sq T1) (⟨1,fun q=>List.getD (α:=T2) [((⟨#[120]⟩:BA),(((1:Int),((0:Int),((IntKind.wrap .i64 (now+(1:Int))),((v16.1,(v16.2.1,())),())))),()))] q (ra K2)⟩:Sq T2) (⟨0,fun _=>ra .str⟩:Sq BA)).bind fun v17=>
     (Pa n v17.1).bind fun v18=>
     if (v18 !=(0:Int))=false then
     if ((v17.2.1.n:Int) !=(0:Int))=true then
      kr false
     else
      kn now (IntKind.wrap .i64 (k0+(1:Int))) p1 p2 p3 p4 p5 p6 p7 p8 p9 p10 p11 p12 p13 p14 p15 p16 p17 p18 p19
     else
     kr false
    else
     if (k0==(7:Int))=true then
     (Nd n).bind fun v19=>
     (rd n (2:Int) now (⟨1,fun q=>List.getD (α:=T1) [(v.1,(v.2.1,(v.2.2.1,((v.2.2.2.1,(v.2.2.2.2.1,())),(v.2.2.2.2.2.2.2.2.2.1,(v.2.2.2.2.2.1,(v.2.2.2.2.2.2.1,(v.2.2.2.2.2.2.2.1,(v.2.2.2.2.2.2.2.2.1,())))))))))] q (ra K3)⟩:Sq T1) (⟨1,fun q=>List.getD (α:=T2) [((⟨#[120]⟩:BA),(((2:Int),((0:Int),((0:Int),((v19.1,(v19.2.1,())),())))),()))] q (ra K2)⟩:Sq T2) (⟨0,fun _=>ra .str⟩:Sq BA)).bind fun v20=>
     (Pa n v20.1).bind fun v21=>
     if (v21 !=(0:Int))=false then
      if ((v20.2.1.n:Int) !=(0:Int))=true then
      kr false
      else
      kn now (IntKind.wrap .i64 (k0+(1:Int))) p1 p2 p3 p4 p5 p6 p7 p8 p9 p10 p11 p12 p13 p14 p15 p16 p17 p18 p19
     else
      kr false
     else
     if (k0==(8:Int))=true then
      (Nd n).bind fun v22=>
      (rd n (2:Int) now (⟨1,fun q=>List.getD (α:=T1) [(v.1,(v.2.1,(v.2.2.1,((v.2.2.2.1,(v.2.2.2.2.1,())),(v.2.2.2.2.2.2.2.2.2.1,(v.2.2.2.2.2.1,(v.2.2.2.2.2.2.1,(v.2.2.2.2.2.2.2.1,(v.2.2.2.2.2.2.2.2.1,())))))))))] q (ra K3)⟩:Sq T1) (⟨1,fun q=>List.getD (α:=T2) [((⟨#[120]⟩:BA),(((1:Int),((0:Int),(now,((v22.1,(v22.2.1,())),())))),()))] q (ra K2)⟩:Sq T2) (⟨0,fun _=>ra .str⟩:Sq BA)).bind fun v23=>
      (Pa n v23.1).bind fun v24=>
      if (v24 !=(0:Int))=false then
      if ((v23.2.1.n:Int) !=(1:Int))=true then
       kr false
      else
       kn now (IntKind.wrap .i64 (k0+(1:Int))) p1 p2 p3 p4 p5 p6 p7 p8 p9 p10 p11 p12 p13 p14 p15 p16 p17 p18 p19
      else
      kr false
     else
      (Cc n (2:Int) now (⟨1,fun q=>List.getD (α:=T1) [(v.1,(v.2.1,(v.2.2.1,((v.2.2.2.1,(v.2.2.2.2.1,())),(v.2.2.2.2.2.2.2.2.2.1,(v.2.2.2.2.2.1,(v.2.2.2.2.2.2.1,(v.2.2.2.2.2.2.2.1,(v.2.2.2.2.2.2.2.2.1,())))))))))] q (ra K3)⟩:Sq T1) (⟨0,fun _=>ra K2⟩:Sq T2) (⟨0,fun _=>ra .str⟩:Sq BA)).bind fun v25=>
      (Pa n v25.1).bind fun v26=>
      if (v26 !=(0:Int))=false then
      if ((v25.2.1.n:Int) !=(0:Int))=true then
       kr false
      else
       kn now (IntKind.wrap .i64 (k0+(1:Int))) p1 p2 p3 p4 p5 p6 p7 p8 p9 p10 p11 p12 p13 p14 p15 p16 p17 p18 p19
      else
      kr false
 else
 ko (now,p1,p2,p3,p4,p5,p6,p7,p8,p9,p10,p11,p12,p13,p14,p15,p16,p17,p18,p19)
def Ja (n:Nat):Nat→Int→Int→Int→(Sq T1)→(Sq T3)→BA→Int→Int→(Sq Int)→Int→Int→Nat→(Sq T2)→(Sq BA)→Int→Int→Int→BA→(Sq Int)→(Sq Int)→Int→Option (Lx (Int×Int×(Sq T1)×(Sq T3)×BA×Int×Int×(Sq Int)×Int×Int×Nat×(Sq T2)×(Sq BA)×Int×Int×Int×BA×(Sq Int)×(Sq Int)×Int) (Bool))
 | 0,_,_,_,_,_,_,_,_,_,_,_,_,_,_,_,_,_,_,_,_,_=>none
 | m+1,now,k0,p1,p2,p3,p4,p5,p6,p7,p8,p9,p10,p11,p12,p13,p14,p15,p16,p17,p18,p19=>ic n now k0 p1 p2 p3 p4 p5 p6 p7 p8 p9 p10 p11 p12 p13 p14 p15 p16 p17 p18 p19 (Ja n m) (fun a=>some (.out a)) (fun a=>some (.ret a)) (fun p=>some (.pan p))
theorem Sm (n m:Nat) {S:Type}:∀ now k0 p1 p2 p3 p4 p5 p6 p7 p8 p9 p10 p11 p12 p13 p14 p15 p16 p17 p18 p19 (φ:_→Option S),(Ja n (m+1) now k0 p1 p2 p3 p4 p5 p6 p7 p8 p9 p10 p11 p12 p13 p14 p15 p16 p17 p18 p19).bind φ=ic n now k0 p1 p2 p3 p4 p5 p6 p7 p8 p9 p10 p11 p12 p13 p14 p15 p16 p17 p18 p19 (fun now k0 p1 p2 p3 p4 p5 p6 p7 p8 p9 p10 p11 p12 p13 p14 p15 p16 p17 p18 p19=>(Ja n m now k0 p1 p2 p3 p4 p5 p6 p7 p8 p9 p10 p11 p12 p13 p14 p15 p16 p17 p18 p19).bind φ) (fun a=>φ (.out a)) (fun a=>φ (.ret a)) (fun p=>φ (.pan p)):=by
 intros;first | (simp only [Ja,ic,ia,ba,iB,bB,oL,oX,nB,Option.bind_some]) | rfl
def Mc:List Sl:=.top::.ptr 0 0 0::.top::.dat (.int .i64)::.dat (.int .i64)::tp 122 []
def Lc:List RS:=[.box 35 19 true [.dat (.int .i64),.dat (.sl K3),.dat (.sl TU),.dat .str,.dat (.int .i64),.dat (.int .i64),.dat (.sl (.int .i64)),.dat (.int .i64),.dat (.int .i64),.dat (.flt .f64),.dat (.sl K2),.dat (.sl .str),.dat (.int .i64),.dat (.int .i64),.dat (.int .i64),.dat .str,.dat (.sl (.int .i64)),.dat (.sl (.int .i64)),.dat (.int .i64)]]
def fi:List Sl:=.top::.ptr 0 0 0::.top::.dat (.int .i64)::tp 123 []
def ei:List RS:=[.box 35 19 true [.dat (.int .i64),.dat (.sl K3),.dat (.sl TU),.dat .str,.dat (.int .i64),.dat (.int .i64),.dat (.sl (.int .i64)),.dat (.int .i64),.dat (.int .i64),.dat (.flt .f64),.dat (.sl K2),.dat (.sl .str),.dat (.int .i64),.dat (.int .i64),.dat (.int .i64),.dat .str,.dat (.sl (.int .i64)),.dat (.sl (.int .i64)),.dat (.int .i64)]]
def ji:List Sl:=.top::.top::.dat .bool::tp 124 []
def ii:List RS:=[]
def Na (K:XE→List AV→fa→Option Out):Lx (Int×Int×(Sq T1)×(Sq T3)×BA×Int×Int×(Sq Int)×Int×Int×Nat×(Sq T2)×(Sq BA)×Int×Int×Int×BA×(Sq Int)×(Sq Int)×Int) (Bool)→Option Out:=fun x=>LV x (fun a=>ql fi ei (a.1,()) ((a.2.1,(a.2.2.1,(a.2.2.2.1,(a.2.2.2.2.1,(a.2.2.2.2.2.1,(a.2.2.2.2.2.2.1,(a.2.2.2.2.2.2.2.1,(a.2.2.2.2.2.2.2.2.1,(a.2.2.2.2.2.2.2.2.2.1,(a.2.2.2.2.2.2.2.2.2.2.1,(a.2.2.2.2.2.2.2.2.2.2.2.1,(a.2.2.2.2.2.2.2.2.2.2.2.2.1,(a.2.2.2.2.2.2.2.2.2.2.2.2.2.1,(a.2.2.2.2.2.2.2.2.2.2.2.2.2.2.1,(a.2.2.2.2.2.2.2.2.2.2.2.2.2.2.2.1,(a.2.2.2.2.2.2.2.2.2.2.2.2.2.2.2.2.1,(a.2.2.2.2.2.2.2.2.2.2.2.2.2.2.2.2.2.1,(a.2.2.2.2.2.2.2.2.2.2.2.2.2.2.2.2.2.2.1,(a.2.2.2.2.2.2.2.2.2.2.2.2.2.2.2.2.2.2.2,()))))))))))))))))))),()) (K (.exit 0))) (fun a=>ql ji ii (a,()) () (K .ret)) (fun _=>none)
def jc (n:Nat) {R:Type} (now2 s p39:Int) (p40:(Sq T1)) (p41:(Sq T3)) (p42:BA) (p43 p44:Int) (p45:(Sq Int)) (p46 p47:Int) (p48:Nat) (p49:(Sq T2)) (p50:(Sq BA)) (p51 p52 p53:Int) (p54:BA) (p55 p56:(Sq Int)) (p57:Int) (kn:Int→Int→Int→(Sq T1)→(Sq T3)→BA→Int→Int→(Sq Int)→Int→Int→Nat→(Sq T2)→(Sq BA)→Int→Int→Int→BA→(Sq Int)→(Sq Int)→Int→Option R) (ko:(Int×(Sq T1)×(Sq T3)×BA×Int×Int×(Sq Int)×Int×Int×Nat×(Sq T2)×(Sq BA)×Int×Int×Int×BA×(Sq Int)×(Sq Int)×Int)→Option R) (kr:(Bool)→Option R) (kp:Int→Option R):Option R:=
 if (decide (s≤(4:Int)))=true then
 (ed n).bind fun v27=>
 if 0≤(0:Int)∧(0:Int)<(v27.2.2.2.2.2.2.2.2.2.1.n:Int) then
  (me n (2:Int) (⟨0,fun _=>ra K2⟩:Sq T2) (⟨0,fun _=>ra .str⟩:Sq BA) now2 (⟨1,fun q=>List.getD (α:=T1) [(v27.1,(v27.2.1,(v27.2.2.1,((v27.2.2.2.1,(v27.2.2.2.2.1,())),((⟨v27.2.2.2.2.2.2.2.2.2.1.n,fun q=>if q=(Int.toNat (0:Int))∧q<v27.2.2.2.2.2.2.2.2.2.1.n then (((((v27.2.2.2.2.2.2.2.2.2.1.at' (Int.toNat (0:Int)))).1).1,(((((v27.2.2.2.2.2.2.2.2.2.1.at' (Int.toNat (0:Int)))).1).2).1,())),(s,(((((v27.2.2.2.2.2.2.2.2.2.1.at' (Int.toNat (0:Int)))).2).2).1,((((((v27.2.2.2.2.2.2.2.2.2.1.at' (Int.toNat (0:Int)))).2).2).2).1,(((((((v27.2.2.2.2.2.2.2.2.2.1.at' (Int.toNat (0:Int)))).2).2).2).2).1,()))))) else v27.2.2.2.2.2.2.2.2.2.1.at' q⟩:Sq T0),(v27.2.2.2.2.2.1,(v27.2.2.2.2.2.2.1,(v27.2.2.2.2.2.2.2.1,(v27.2.2.2.2.2.2.2.2.1,())))))))))] q (ra K3)⟩:Sq T1)).bind fun v28=>
  (Pa n v28.1).bind fun v29=>
  if (v29 !=(0:Int))=false then
  if ((v28.2.1.n:Int) !=(0:Int))=true then
   kr false
  else
   kn now2 (IntKind.wrap .i64 (s+(1:Int))) p39 p40 p41 p42 p43 p44 p45 p46 p47 p48 p49 p50 p51 p52 p53 p54 p55 p56 p57
  else
  kr false
 else
  none
 else
 ko (p39,p40,p41,p42,p43,p44,p45,p46,p47,p48,p49,p50,p51,p52,p53,p54,p55,p56,p57)
def Ka (n:Nat):Nat→Int→Int→Int→(Sq T1)→(Sq T3)→BA→Int→Int→(Sq Int)→Int→Int→Nat→(Sq T2)→(Sq BA)→Int→Int→Int→BA→(Sq Int)→(Sq Int)→Int→Option (Lx (Int×(Sq T1)×(Sq T3)×BA×Int×Int×(Sq Int)×Int×Int×Nat×(Sq T2)×(Sq BA)×Int×Int×Int×BA×(Sq Int)×(Sq Int)×Int) (Bool))
 | 0,_,_,_,_,_,_,_,_,_,_,_,_,_,_,_,_,_,_,_,_,_=>none
 | m+1,now2,s,p39,p40,p41,p42,p43,p44,p45,p46,p47,p48,p49,p50,p51,p52,p53,p54,p55,p56,p57=>jc n now2 s p39 p40 p41 p42 p43 p44 p45 p46 p47 p48 p49 p50 p51 p52 p53 p54 p55 p56 p57 (Ka n m) (fun a=>some (.out a)) (fun a=>some (.ret a)) (fun p=>some (.pan p))
theorem Tm (n m:Nat) {S:Type}:∀ now2 s p39 p40 p41 p42 p43 p44 p45 p46 p47 p48 p49 p50 p51 p52 p53 p54 p55 p56 p57 (φ:_→Option S),(Ka n (m+1) now2 s p39 p40 p41 p42 p43 p44 p45 p46 p47 p48 p49 p50 p51 p52 p53 p54 p55 p56 p57).bind φ=jc n now2 s p39 p40 p41 p42 p43 p44 p45 p46 p47 p48 p49 p50 p51 p52 p53 p54 p55 p56 p57 (fun now2 s p39 p40 p41 p42 p43 p44 p45 p46 p47 p48 p49 p50 p51 p52 p53 p54 p55 p56 p57=>(Ka n m now2 s p39 p40 p41 p42 p43 p44 p45 p46 p47 p48 p49 p50 p51 p52 p53 p54 p55 p56 p57).bind φ) (fun a=>φ (.out a)) (fun a=>φ (.ret a)) (fun p=>φ (.pan p)):=by
 intros;first | (simp only [Ka,jc,ia,ba,iB,bB,oL,oX,nB,Option.bind_some]) | rfl
def Oc:List Sl:=.top::.ptr 0 0 0::.top::.dat (.int .i64)::tp 8 (.dat (.int .i64)::tp 114 [])
def Nc:List RS:=[.box 35 19 true [.dat (.int .i64),.dat (.sl K3),.dat (.sl TU),.dat .str,.dat (.int .i64),.dat (.int .i64),.dat (.sl (.int .i64)),.dat (.int .i64),.dat (.int .i64),.dat (.flt .f64),.dat (.sl K2),.dat (.sl .str),.dat (.int .i64),.dat (.int .i64),.dat (.int .i64),.dat .str,.dat (.sl (.int .i64)),.dat (.sl (.int .i64)),.dat (.int .i64)]]
def mi:List Sl:=.top::.ptr 0 0 0::tp 125 []
def li:List RS:=[.box 35 19 true [.dat (.int .i64),.dat (.sl K3),.dat (.sl TU),.dat .str,.dat (.int .i64),.dat (.int .i64),.dat (.sl (.int .i64)),.dat (.int .i64),.dat (.int .i64),.dat (.flt .f64),.dat (.sl K2),.dat (.sl .str),.dat (.int .i64),.dat (.int .i64),.dat (.int .i64),.dat .str,.dat (.sl (.int .i64)),.dat (.sl (.int .i64)),.dat (.int .i64)]]
def pi:List Sl:=.top::.top::.dat .bool::tp 124 []
def ni:List RS:=[]
def Oa (K:XE→List AV→fa→Option Out):Lx (Int×(Sq T1)×(Sq T3)×BA×Int×Int×(Sq Int)×Int×Int×Nat×(Sq T2)×(Sq BA)×Int×Int×Int×BA×(Sq Int)×(Sq Int)×Int) (Bool)→Option Out:=fun x=>LV x (fun a=>ql mi li () ((a.1,(a.2.1,(a.2.2.1,(a.2.2.2.1,(a.2.2.2.2.1,(a.2.2.2.2.2.1,(a.2.2.2.2.2.2.1,(a.2.2.2.2.2.2.2.1,(a.2.2.2.2.2.2.2.2.1,(a.2.2.2.2.2.2.2.2.2.1,(a.2.2.2.2.2.2.2.2.2.2.1,(a.2.2.2.2.2.2.2.2.2.2.2.1,(a.2.2.2.2.2.2.2.2.2.2.2.2.1,(a.2.2.2.2.2.2.2.2.2.2.2.2.2.1,(a.2.2.2.2.2.2.2.2.2.2.2.2.2.2.1,(a.2.2.2.2.2.2.2.2.2.2.2.2.2.2.2.1,(a.2.2.2.2.2.2.2.2.2.2.2.2.2.2.2.2.1,(a.2.2.2.2.2.2.2.2.2.2.2.2.2.2.2.2.2.1,(a.2.2.2.2.2.2.2.2.2.2.2.2.2.2.2.2.2.2,()))))))))))))))))))),()) (K (.exit 3))) (fun a=>ql pi ni (a,()) () (K .ret)) (fun _=>none)
def Qd (n:Nat) {R:Type} (p:T5) (k:Bool→Option R):Option R:=
 (Ja n n (10:Int) (0:Int) p.1.1 p.1.2.1 p.2.1.1 p.2.1.2.1 p.2.1.2.2.1 p.2.1.2.2.2.1 p.2.1.2.2.2.2.1 p.2.1.2.2.2.2.2.1 p.2.1.2.2.2.2.2.2.1 p.2.1.2.2.2.2.2.2.2.1 p.2.2.1 p.2.2.2.1 p.2.2.2.2.1 p.2.2.2.2.2.1.1 p.2.2.2.2.2.1.2.1 p.2.2.2.2.2.1.2.2.1 p.2.2.2.2.2.1.2.2.2.1 p.2.2.2.2.2.2.1 p.2.2.2.2.2.2.2.1).bind fun x_1=>LV x_1
 (fun a_2=>
  (Ka n n a_2.1 (1:Int) a_2.2.1 a_2.2.2.1 a_2.2.2.2.1 a_2.2.2.2.2.1 a_2.2.2.2.2.2.1 a_2.2.2.2.2.2.2.1 a_2.2.2.2.2.2.2.2.1 a_2.2.2.2.2.2.2.2.2.1 a_2.2.2.2.2.2.2.2.2.2.1 a_2.2.2.2.2.2.2.2.2.2.2.1 a_2.2.2.2.2.2.2.2.2.2.2.2.1 a_2.2.2.2.2.2.2.2.2.2.2.2.2.1 a_2.2.2.2.2.2.2.2.2.2.2.2.2.2.1 a_2.2.2.2.2.2.2.2.2.2.2.2.2.2.2.1 a_2.2.2.2.2.2.2.2.2.2.2.2.2.2.2.2.1 a_2.2.2.2.2.2.2.2.2.2.2.2.2.2.2.2.2.1 a_2.2.2.2.2.2.2.2.2.2.2.2.2.2.2.2.2.2.1 a_2.2.2.2.2.2.2.2.2.2.2.2.2.2.2.2.2.2.2.1 a_2.2.2.2.2.2.2.2.2.2.2.2.2.2.2.2.2.2.2.2).bind fun x_3=>LV x_3
  (fun a_4=>
   if (decide ((a_4.2.2.2.2.2.2.2.2.2.2.2.1.n:Int)≥(0:Int)))=true then
   (lf n).bind fun v30=>
   k v30
   else
   k false)
  (fun a_5=>
   k a_5)
  (fun _=>none))
 (fun a_6=>
  k a_6)
 (fun _=>none)
def pouchlaw20_PickWaits (n:Nat) (p:T5):Option Bool:=Qd n p some
theorem lq (n:Nat) {S:Type}:∀ p (φ:_→Option S),(pouchlaw20_PickWaits n p).bind φ=Qd n p φ:=by
 intros;unfold pouchlaw20_PickWaits Qd;first | (simp only [ia,ba,iB,bB,oL,oX,nB,Option.bind_some]) | rfl
def Va (n:Nat):Hint Out:={ live:=fun c=>(cond (Nat.beq c 3) (lv [1,3,12]) (cond (Nat.beq c 0) (lv [1,3,4]) [])),run:=fun c=>(cond (Nat.beq c 3) (some (sq Oc Nc fun σ ρ K=>(Ka n n σ.1 σ.2.1 ρ.1.1 ρ.1.2.1 ρ.1.2.2.1 ρ.1.2.2.2.1 ρ.1.2.2.2.2.1 ρ.1.2.2.2.2.2.1 ρ.1.2.2.2.2.2.2.1 ρ.1.2.2.2.2.2.2.2.1 ρ.1.2.2.2.2.2.2.2.2.1 ρ.1.2.2.2.2.2.2.2.2.2.1 ρ.1.2.2.2.2.2.2.2.2.2.2.1 ρ.1.2.2.2.2.2.2.2.2.2.2.2.1 ρ.1.2.2.2.2.2.2.2.2.2.2.2.2.1 ρ.1.2.2.2.2.2.2.2.2.2.2.2.2.2.1 ρ.1.2.2.2.2.2.2.2.2.2.2.2.2.2.2.1 ρ.1.2.2.2.2.2.2.2.2.2.2.2.2.2.2.2.1 ρ.1.2.2.2.2.2.2.2.2.2.2.2.2.2.2.2.2.1 ρ.1.2.2.2.2.2.2.2.2.2.2.2.2.2.2.2.2.2.1 ρ.1.2.2.2.2.2.2.2.2.2.2.2.2.2.2.2.2.2.2.1).bind (Oa K))) (cond (Nat.beq c 0) (some (sq Mc Lc fun σ ρ K=>(Ja n n σ.1 σ.2.1 ρ.1.1 ρ.1.2.1 ρ.1.2.2.1 ρ.1.2.2.2.1 ρ.1.2.2.2.2.1 ρ.1.2.2.2.2.2.1 ρ.1.2.2.2.2.2.2.1 ρ.1.2.2.2.2.2.2.2.1 ρ.1.2.2.2.2.2.2.2.2.1 ρ.1.2.2.2.2.2.2.2.2.2.1 ρ.1.2.2.2.2.2.2.2.2.2.2.1 ρ.1.2.2.2.2.2.2.2.2.2.2.2.1 ρ.1.2.2.2.2.2.2.2.2.2.2.2.2.1 ρ.1.2.2.2.2.2.2.2.2.2.2.2.2.2.1 ρ.1.2.2.2.2.2.2.2.2.2.2.2.2.2.2.1 ρ.1.2.2.2.2.2.2.2.2.2.2.2.2.2.2.2.1 ρ.1.2.2.2.2.2.2.2.2.2.2.2.2.2.2.2.2.1 ρ.1.2.2.2.2.2.2.2.2.2.2.2.2.2.2.2.2.2.1 ρ.1.2.2.2.2.2.2.2.2.2.2.2.2.2.2.2.2.2.2.1).bind (Na K))) none)),xm:=fun c q=>(cond (Nat.beq c 3&&Nat.beq (q.getD 1000000) 3&&q.isSome) (some [(1,none)]) (cond (Nat.beq c 4&&q.isNone) (some [(2,none)]) (cond (Nat.beq c 0&&Nat.beq (q.getD 1000000) 0&&q.isSome) (some [(1,none),(3,none)]) (cond (Nat.beq c 1&&q.isNone) (some [(2,none)]) none)))),nz:=fun c=>(cond (Nat.beq c 28) [(59,5,.frz K0)] (cond (Nat.beq c 36) [(59,5,.frz K0)] [])) }
def Db (n:Nat) (K:XE→List AV→fa→Option Out) (m:Nat) (now:Int) (k0:Int) (p1:Int) (p2:(Sq T1)) (p3:(Sq T3)) (p4:BA) (p5:Int) (p6:Int) (p7:(Sq Int)) (p8:Int) (p9:Int) (p10:Nat) (p11:(Sq T2)) (p12:(Sq BA)) (p13:Int) (p14:Int) (p15:Int) (p16:BA) (p17:(Sq Int)) (p18:(Sq Int)) (p19:Int):Option Out:=ze tys (ea Out (Bb n)) (Va n) n (Ba [1,1,0,1,0,0] (aa Tryz.f4)) 0 Mc Lc K m (now,(k0,())) ((p1,(p2,(p3,(p4,(p5,(p6,(p7,(p8,(p9,(p10,(p11,(p12,(p13,(p14,(p15,(p16,(p17,(p18,(p19,()))))))))))))))))))),())
theorem Oe (n:Nat) (K:XE→List AV→fa→Option Out):∀ (m:Nat) now k0 p1 p2 p3 p4 p5 p6 p7 p8 p9 p10 p11 p12 p13 p14 p15 p16 p17 p18 p19,Db n K m now k0 p1 p2 p3 p4 p5 p6 p7 p8 p9 p10 p11 p12 p13 p14 p15 p16 p17 p18 p19=(Ja n m now k0 p1 p2 p3 p4 p5 p6 p7 p8 p9 p10 p11 p12 p13 p14 p15 p16 p17 p18 p19).bind (Na K)
 | 0,_,_,_,_,_,_,_,_,_,_,_,_,_,_,_,_,_,_,_,_,_=>by kernel_rfl
 | m+1,now,k0,p1,p2,p3,p4,p5,p6,p7,p8,p9,p10,p11,p12,p13,p14,p15,p16,p17,p18,p19=>by
  have h1:Db n K (m+1) now k0 p1 p2 p3 p4 p5 p6 p7 p8 p9 p10 p11 p12 p13 p14 p15 p16 p17 p18 p19=ic n now k0 p1 p2 p3 p4 p5 p6 p7 p8 p9 p10 p11 p12 p13 p14 p15 p16 p17 p18 p19 (Db n K m) (fun a=>Na K (.out a)) (fun a=>Na K (.ret a)) (fun p=>Na K (.pan p)):=by kernel_rfl
  have h2:Db n K m=fun now k0 p1 p2 p3 p4 p5 p6 p7 p8 p9 p10 p11 p12 p13 p14 p15 p16 p17 p18 p19=>(Ja n m now k0 p1 p2 p3 p4 p5 p6 p7 p8 p9 p10 p11 p12 p13 p14 p15 p16 p17 p18 p19).bind (Na K):=by
   repeat (refine funext fun _=>?_)
   exact Oe n K m _ _ _ _ _ _ _ _ _ _ _ _ _ _ _ _ _ _ _ _ _
  rw [h1,h2];exact (Sm n m _ _ _ _ _ _ _ _ _ _ _ _ _ _ _ _ _ _ _ _ _ (Na K)).symm
theorem Uk (n:Nat):Wd tys (ea Out (Bb n)) (Va n) n (Ba [1,1,0,1,0,0] (aa Tryz.f4)) 0:=Qa (sp:=Mc) (rp:=Lc) (by kernel_rfl) fun K σ ρ=>Oe n K n σ.1 σ.2.1 ρ.1.1 ρ.1.2.1 ρ.1.2.2.1 ρ.1.2.2.2.1 ρ.1.2.2.2.2.1 ρ.1.2.2.2.2.2.1 ρ.1.2.2.2.2.2.2.1 ρ.1.2.2.2.2.2.2.2.1 ρ.1.2.2.2.2.2.2.2.2.1 ρ.1.2.2.2.2.2.2.2.2.2.1 ρ.1.2.2.2.2.2.2.2.2.2.2.1 ρ.1.2.2.2.2.2.2.2.2.2.2.2.1 ρ.1.2.2.2.2.2.2.2.2.2.2.2.2.1 ρ.1.2.2.2.2.2.2.2.2.2.2.2.2.2.1 ρ.1.2.2.2.2.2.2.2.2.2.2.2.2.2.2.1 ρ.1.2.2.2.2.2.2.2.2.2.2.2.2.2.2.2.1 ρ.1.2.2.2.2.2.2.2.2.2.2.2.2.2.2.2.2.1 ρ.1.2.2.2.2.2.2.2.2.2.2.2.2.2.2.2.2.2.1 ρ.1.2.2.2.2.2.2.2.2.2.2.2.2.2.2.2.2.2.2.1
def Eb (n:Nat) (K:XE→List AV→fa→Option Out) (m:Nat) (now2:Int) (s:Int) (p39:Int) (p40:(Sq T1)) (p41:(Sq T3)) (p42:BA) (p43:Int) (p44:Int) (p45:(Sq Int)) (p46:Int) (p47:Int) (p48:Nat) (p49:(Sq T2)) (p50:(Sq BA)) (p51:Int) (p52:Int) (p53:Int) (p54:BA) (p55:(Sq Int)) (p56:(Sq Int)) (p57:Int):Option Out:=ze tys (ea Out (Bb n)) (Va n) n (Ba [1,1,1,0,1,0,0] (aa Tryz.f4)) 3 Oc Nc K m (now2,(s,())) ((p39,(p40,(p41,(p42,(p43,(p44,(p45,(p46,(p47,(p48,(p49,(p50,(p51,(p52,(p53,(p54,(p55,(p56,(p57,()))))))))))))))))))),())
theorem Pe (n:Nat) (K:XE→List AV→fa→Option Out):∀ (m:Nat) now2 s p39 p40 p41 p42 p43 p44 p45 p46 p47 p48 p49 p50 p51 p52 p53 p54 p55 p56 p57,Eb n K m now2 s p39 p40 p41 p42 p43 p44 p45 p46 p47 p48 p49 p50 p51 p52 p53 p54 p55 p56 p57=(Ka n m now2 s p39 p40 p41 p42 p43 p44 p45 p46 p47 p48 p49 p50 p51 p52 p53 p54 p55 p56 p57).bind (Oa K)
 | 0,_,_,_,_,_,_,_,_,_,_,_,_,_,_,_,_,_,_,_,_,_=>by kernel_rfl
 | m+1,now2,s,p39,p40,p41,p42,p43,p44,p45,p46,p47,p48,p49,p50,p51,p52,p53,p54,p55,p56,p57=>by
  have h1:Eb n K (m+1) now2 s p39 p40 p41 p42 p43 p44 p45 p46 p47 p48 p49 p50 p51 p52 p53 p54 p55 p56 p57=jc n now2 s p39 p40 p41 p42 p43 p44 p45 p46 p47 p48 p49 p50 p51 p52 p53 p54 p55 p56 p57 (Eb n K m) (fun a=>Oa K (.out a)) (fun a=>Oa K (.ret a)) (fun p=>Oa K (.pan p)):=by kernel_rfl
  have h2:Eb n K m=fun now2 s p39 p40 p41 p42 p43 p44 p45 p46 p47 p48 p49 p50 p51 p52 p53 p54 p55 p56 p57=>(Ka n m now2 s p39 p40 p41 p42 p43 p44 p45 p46 p47 p48 p49 p50 p51 p52 p53 p54 p55 p56 p57).bind (Oa K):=by
   repeat (refine funext fun _=>?_)
   exact Pe n K m _ _ _ _ _ _ _ _ _ _ _ _ _ _ _ _ _ _ _ _ _
  rw [h1,h2];exact (Tm n m _ _ _ _ _ _ _ _ _ _ _ _ _ _ _ _ _ _ _ _ _ (Oa K)).symm
theorem Vk (n:Nat):Wd tys (ea Out (Bb n)) (Va n) n (Ba [1,1,1,0,1,0,0] (aa Tryz.f4)) 3:=Qa (sp:=Oc) (rp:=Nc) (by kernel_rfl) fun K σ ρ=>Pe n K n σ.1 σ.2.1 ρ.1.1 ρ.1.2.1 ρ.1.2.2.1 ρ.1.2.2.2.1 ρ.1.2.2.2.2.1 ρ.1.2.2.2.2.2.1 ρ.1.2.2.2.2.2.2.1 ρ.1.2.2.2.2.2.2.2.1 ρ.1.2.2.2.2.2.2.2.2.1 ρ.1.2.2.2.2.2.2.2.2.2.1 ρ.1.2.2.2.2.2.2.2.2.2.2.1 ρ.1.2.2.2.2.2.2.2.2.2.2.2.1 ρ.1.2.2.2.2.2.2.2.2.2.2.2.2.1 ρ.1.2.2.2.2.2.2.2.2.2.2.2.2.2.1 ρ.1.2.2.2.2.2.2.2.2.2.2.2.2.2.2.1 ρ.1.2.2.2.2.2.2.2.2.2.2.2.2.2.2.2.1 ρ.1.2.2.2.2.2.2.2.2.2.2.2.2.2.2.2.2.1 ρ.1.2.2.2.2.2.2.2.2.2.2.2.2.2.2.2.2.2.1 ρ.1.2.2.2.2.2.2.2.2.2.2.2.2.2.2.2.2.2.2.1
theorem Um (n:Nat):sa tys (ea Out (Bb n)) (Va n) n (aa Tryz.f4) 0:=⟨trivial,⟨trivial,⟨⟨trivial,⟨Uk n,⟨⟨trivial,⟨trivial,trivial⟩⟩,⟨⟨trivial,⟨trivial,⟨trivial,⟨trivial,⟨⟨trivial,⟨trivial,⟨trivial,⟨trivial,⟨trivial,⟨trivial,⟨trivial,⟨trivial,⟨trivial,⟨trivial,⟨trivial,⟨trivial,⟨trivial,⟨trivial,⟨trivial,⟨trivial,⟨trivial,⟨trivial,⟨trivial,trivial⟩⟩⟩⟩⟩⟩⟩⟩⟩⟩⟩⟩⟩⟩⟩⟩⟩⟩⟩,⟨trivial,⟨trivial,⟨⟨trivial,trivial⟩,trivial⟩⟩⟩⟩⟩⟩⟩⟩,trivial⟩⟩⟩⟩,⟨⟨trivial,⟨Vk n,⟨⟨trivial,⟨trivial,trivial⟩⟩,⟨⟨trivial,⟨trivial,⟨trivial,⟨trivial,⟨⟨trivial,trivial⟩,trivial⟩⟩⟩⟩⟩,trivial⟩⟩⟩⟩,⟨trivial,trivial⟩⟩⟩⟩⟩
theorem Xn (n:Nat):Enters Tryz.prog 4:=enters_of (c:=aa Tryz.f4) Tryz.func4 (by kernel_rfl) (by kernel_rfl)
def lp (n:Nat):Entry:=⟨4,RV WU (.one .bool) (fun xs=>pouchlaw20_PickWaits n xs.1),none,none⟩
theorem pouchlaw20_PickWaits_ok (n:Nat):EntryOk Tryz.prog gl (lp n):=
 Ha (Xn n) fun xs y h=>qa tys_ok (mq n) mixed (hint:=Va n) (n:=n) Tryz.func4 (Ra (Um n)) (oa (φ:=(fun y=>some (Out.ret (Od (.one .bool) y)))) (by kernel_rfl) (lq n xs.1 _) h)
end
end Go.Proofs.YtdhehcnfkcibiaaGreatDoor.AM
