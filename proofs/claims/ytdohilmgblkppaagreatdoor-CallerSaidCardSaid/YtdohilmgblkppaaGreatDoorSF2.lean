/- Typed functions that tell what the Go functions of this seat answer, and proofs of it, by program (gen.py). -/
import Derived.Test.YtdohilmgblkppaaGreatDoorSF1
set_option linter.all false
set_option linter.unusedVariables false
set_option linter.unusedSimpArgs false
set_option maxRecDepth 1000000
set_option maxHeartbeats 0
namespace Go.Proofs.YtdohilmgblkppaaGreatDoor.AM
open Go Go.RowKit
noncomputable section
def Lw (n:Nat) {R:Type} (s:BA) (k:(BA×Int×Unit)→Option R):Option R:=(Bn n s).bind fun v=>(Pc n v).bind fun v1=>if (!v1)=true then k ((⟨#[]⟩:BA),((8:Int),())) else k (v,((0:Int),()))
def Dc (n:Nat) (s:BA):Option (BA×Int×Unit):=Lw n s some
theorem Pab (n:Nat) {S:Type}:∀ s (φ:_→Option S),(Dc n s).bind φ=Lw n s φ:=by
  intros;unfold Dc Lw;first | (simp only [ja,fa,iB,bB,oL,oX,nB,Option.bind_some]) | rfl
def kF (n:Nat):Hint Out:={ live:=fun c=>[],run:=fun c=>none,xm:=fun c q=>none }
theorem cX (n:Nat):qa tys (ia Out (L5 n)) (kF n) n (ba Tryz.f133) 0:=na (fun _=>rfl) _ _ (by kernel_rfl)
theorem B0 (n:Nat):Enters Tryz.prog 133:=enters_of (c:=ba Tryz.f133) Tryz.func133 (by kernel_rfl) (by kernel_rfl)
def xP (n:Nat):Entry:=⟨133,pcT (.pair .str .unit) (.many (.pair .str (.pair (.int .i64) .unit))) (fun xs=>Dc n xs.1),none,none⟩
theorem s6 (n:Nat):EntryOk Tryz.prog gl (xP n):=wa (B0 n) fun xs y h=>ma tys_ok (wW n) mixed (hint:=kF n) (n:=n) Tryz.func133 (ya (cX n)) (la (φ:=(fun y=>some (Out.ret (Ya (.many (.pair .str (.pair (.int .i64) .unit))) y)))) (by kernel_rfl) (Pab n xs.1 _) h)
def Xz (n:Nat):List Entry:=xP n::L5 n
theorem Vo (n:Nat):AllOk Tryz.prog gl (Xz n):=.cons (s6 n) (wW n)
def eT (n:Nat) {R:Type} (s:BA) (k:T1→Option R) (kp:Int→Option R):Option R:=if (decide ((s.size:Int)≥(4:Int)))=true then if 0≤(4:Int)∧(4:Int)≤(s.size:Int) then (uG n (s.extract (Int.toNat (0:Int)) (Int.toNat (4:Int)))).bind fun v=>if (decide (v>(0:Int)))=true then if ((s.size:Int)==(4:Int))=false then if 0≤(4:Int)∧(4:Int)<(s.size:Int) then (Ea n ((bt s (4:Int))==(32:Int)) (3:Int)).bind fun x_1=>onX x_1 (fun p=>kp p) (fun v1=>if 0≤(4:Int)∧(4:Int)≤(s.size:Int) then (uG n (s.extract (Int.toNat (0:Int)) (Int.toNat (4:Int)))).bind fun v2=>if 0≤(4:Int)∧(4:Int)≤(s.size:Int) then if (v2==(3:Int))=true then (Xg n (s.extract (Int.toNat (4:Int)) (Int.toNat (s.size:Int))) (⟨#[32,70,82,79,77,58]⟩:BA)).bind fun x_2=>onX x_2 (fun p1=>kp p1) (fun v3=>(Zm n v3).bind fun x_3=>onX x_3 (fun p2=>kp p2) (fun v4=>(vG n v4.2.2.1).bind fun x_4=>onX x_4 (fun p3=>kp p3) (fun v5=>(Wg n (v2,((⟨#[]⟩:BA),(v4.2.1,((v4.1.1,(v4.1.2.1,())),(v5,())))))).bind fun v6=>(Ea n v6 (8:Int)).bind fun x_5=>onX x_5 (fun p4=>kp p4) (fun v7=>k (v2,((⟨#[]⟩:BA),(v4.2.1,((v4.1.1,(v4.1.2.1,())),(v5,()))))))))) else if (v2==(4:Int))=true then (Xg n (s.extract (Int.toNat (4:Int)) (Int.toNat (s.size:Int))) (⟨#[32,84,79,58]⟩:BA)).bind fun x_6=>onX x_6 (fun p5=>
 kp p5) (fun v8=>(Zm n v8).bind fun x_7=>onX x_7 (fun p6=>kp p6) (fun v9=>(Ea n (v9.2.2.1.toList==(⟨#[]⟩:BA).toList) (8:Int)).bind fun x_8=>onX x_8 (fun p7=>kp p7) (fun v10=>(Wg n (v2,((⟨#[]⟩:BA),(v9.2.1,((v9.1.1,(v9.1.2.1,())),((0:Int),())))))).bind fun v11=>(Ea n v11 (8:Int)).bind fun x_9=>onX x_9 (fun p8=>kp p8) (fun v12=>k (v2,((⟨#[]⟩:BA),(v9.2.1,((v9.1.1,(v9.1.2.1,())),((0:Int),()))))))))) else if (v2==(1:Int))=true then (Da n (s.extract (Int.toNat (4:Int)) (Int.toNat (s.size:Int))) (⟨#[32]⟩:BA)).bind fun v13=>(Dc n v13).bind fun v14=>(Ea n (v14.2.1==(0:Int)) (8:Int)).bind fun x_10=>onX x_10 (fun p9=>kp p9) (fun v15=>(Wg n (v2,(v14.1,(false,(((⟨#[]⟩:BA),((⟨#[]⟩:BA),())),((0:Int),())))))).bind fun v16=>(Ea n v16 (8:Int)).bind fun x_11=>onX x_11 (fun p10=>kp p10) (fun v17=>k (v2,(v14.1,(false,(((⟨#[]⟩:BA),((⟨#[]⟩:BA),())),((0:Int),()))))))) else if (v2==(2:Int))=true then (Da n (s.extract (Int.toNat (4:Int)) (Int.toNat (s.size:Int))) (⟨#[32]⟩:BA)).bind fun v18=>(Dc n v18).bind fun v19=>(Ea n (v19.2.1==(0:Int)) (8:Int)).bind fun x_12=>onX x_12 (fun p11=>kp p11) (fun v20=>(Wg n (v2,(v19.1,(false,(((⟨#[]⟩:BA),((⟨#[]⟩:BA),())),((0:Int),())))))).bind fun v21=>
 (Ea n v21 (8:Int)).bind fun x_13=>onX x_13 (fun p12=>kp p12) (fun v22=>k (v2,(v19.1,(false,(((⟨#[]⟩:BA),((⟨#[]⟩:BA),())),((0:Int),()))))))) else (Ea n (!((s.extract (Int.toNat (4:Int)) (Int.toNat (s.size:Int))).toList==(⟨#[32]⟩:BA).toList)) (8:Int)).bind fun x_14=>onX x_14 (fun p13=>kp p13) (fun v23=>(Da n (s.extract (Int.toNat (4:Int)) (Int.toNat (s.size:Int))) (⟨#[32]⟩:BA)).bind fun v24=>(Wg n (v2,(v24,(false,(((⟨#[]⟩:BA),((⟨#[]⟩:BA),())),((0:Int),())))))).bind fun v25=>(Ea n v25 (8:Int)).bind fun x_15=>onX x_15 (fun p14=>kp p14) (fun v26=>k (v2,(v24,(false,(((⟨#[]⟩:BA),((⟨#[]⟩:BA),())),((0:Int),()))))))) else none else none) else none else (Ea n true (3:Int)).bind fun x_16=>onX x_16 (fun p15=>kp p15) (fun v27=>if 0≤(4:Int)∧(4:Int)≤(s.size:Int) then (uG n (s.extract (Int.toNat (0:Int)) (Int.toNat (4:Int)))).bind fun v28=>if 0≤(4:Int)∧(4:Int)≤(s.size:Int) then if (v28==(3:Int))=true then (Xg n (s.extract (Int.toNat (4:Int)) (Int.toNat (s.size:Int))) (⟨#[32,70,82,79,77,58]⟩:BA)).bind fun x_17=>onX x_17 (fun p16=>kp p16) (fun v29=>(Zm n v29).bind fun x_18=>onX x_18 (fun p17=>kp p17) (fun v30=>(vG n v30.2.2.1).bind fun x_19=>onX x_19 (fun p18=>kp p18) (fun v31=>(Wg n (v28,((⟨#[]⟩:BA),(v30.2.1,((v30.1.1,(v30.1.2.1,())),(v31,())))))).bind fun v32=>
 (Ea n v32 (8:Int)).bind fun x_20=>onX x_20 (fun p19=>kp p19) (fun v33=>k (v28,((⟨#[]⟩:BA),(v30.2.1,((v30.1.1,(v30.1.2.1,())),(v31,()))))))))) else if (v28==(4:Int))=true then (Xg n (s.extract (Int.toNat (4:Int)) (Int.toNat (s.size:Int))) (⟨#[32,84,79,58]⟩:BA)).bind fun x_21=>onX x_21 (fun p20=>kp p20) (fun v34=>(Zm n v34).bind fun x_22=>onX x_22 (fun p21=>kp p21) (fun v35=>(Ea n (v35.2.2.1.toList==(⟨#[]⟩:BA).toList) (8:Int)).bind fun x_23=>onX x_23 (fun p22=>kp p22) (fun v36=>(Wg n (v28,((⟨#[]⟩:BA),(v35.2.1,((v35.1.1,(v35.1.2.1,())),((0:Int),())))))).bind fun v37=>(Ea n v37 (8:Int)).bind fun x_24=>onX x_24 (fun p23=>kp p23) (fun v38=>k (v28,((⟨#[]⟩:BA),(v35.2.1,((v35.1.1,(v35.1.2.1,())),((0:Int),()))))))))) else if (v28==(1:Int))=true then (Da n (s.extract (Int.toNat (4:Int)) (Int.toNat (s.size:Int))) (⟨#[32]⟩:BA)).bind fun v39=>(Dc n v39).bind fun v40=>(Ea n (v40.2.1==(0:Int)) (8:Int)).bind fun x_25=>onX x_25 (fun p24=>kp p24) (fun v41=>(Wg n (v28,(v40.1,(false,(((⟨#[]⟩:BA),((⟨#[]⟩:BA),())),((0:Int),())))))).bind fun v42=>(Ea n v42 (8:Int)).bind fun x_26=>onX x_26 (fun p25=>kp p25) (fun v43=>k (v28,(v40.1,(false,(((⟨#[]⟩:BA),((⟨#[]⟩:BA),())),((0:Int),()))))))) else if (v28==(2:Int))=true then
 (Da n (s.extract (Int.toNat (4:Int)) (Int.toNat (s.size:Int))) (⟨#[32]⟩:BA)).bind fun v44=>(Dc n v44).bind fun v45=>(Ea n (v45.2.1==(0:Int)) (8:Int)).bind fun x_27=>onX x_27 (fun p26=>kp p26) (fun v46=>(Wg n (v28,(v45.1,(false,(((⟨#[]⟩:BA),((⟨#[]⟩:BA),())),((0:Int),())))))).bind fun v47=>(Ea n v47 (8:Int)).bind fun x_28=>onX x_28 (fun p27=>kp p27) (fun v48=>k (v28,(v45.1,(false,(((⟨#[]⟩:BA),((⟨#[]⟩:BA),())),((0:Int),()))))))) else (Ea n (!((s.extract (Int.toNat (4:Int)) (Int.toNat (s.size:Int))).toList==(⟨#[32]⟩:BA).toList)) (8:Int)).bind fun x_29=>onX x_29 (fun p28=>kp p28) (fun v49=>(Da n (s.extract (Int.toNat (4:Int)) (Int.toNat (s.size:Int))) (⟨#[32]⟩:BA)).bind fun v50=>(Wg n (v28,(v50,(false,(((⟨#[]⟩:BA),((⟨#[]⟩:BA),())),((0:Int),())))))).bind fun v51=>(Ea n v51 (8:Int)).bind fun x_30=>onX x_30 (fun p29=>kp p29) (fun v52=>k (v28,(v50,(false,(((⟨#[]⟩:BA),((⟨#[]⟩:BA),())),((0:Int),()))))))) else none else none) else (Ea n false (3:Int)).bind fun x_31=>onX x_31 (fun p30=>kp p30) (fun v53=>if 0≤(4:Int)∧(4:Int)≤(s.size:Int) then (uG n (s.extract (Int.toNat (0:Int)) (Int.toNat (4:Int)))).bind fun v54=>if 0≤(4:Int)∧(4:Int)≤(s.size:Int) then if (v54==(3:Int))=true then
 (Xg n (s.extract (Int.toNat (4:Int)) (Int.toNat (s.size:Int))) (⟨#[32,70,82,79,77,58]⟩:BA)).bind fun x_32=>onX x_32 (fun p31=>kp p31) (fun v55=>(Zm n v55).bind fun x_33=>onX x_33 (fun p32=>kp p32) (fun v56=>(vG n v56.2.2.1).bind fun x_34=>onX x_34 (fun p33=>kp p33) (fun v57=>(Wg n (v54,((⟨#[]⟩:BA),(v56.2.1,((v56.1.1,(v56.1.2.1,())),(v57,())))))).bind fun v58=>(Ea n v58 (8:Int)).bind fun x_35=>onX x_35 (fun p34=>kp p34) (fun v59=>k (v54,((⟨#[]⟩:BA),(v56.2.1,((v56.1.1,(v56.1.2.1,())),(v57,()))))))))) else if (v54==(4:Int))=true then (Xg n (s.extract (Int.toNat (4:Int)) (Int.toNat (s.size:Int))) (⟨#[32,84,79,58]⟩:BA)).bind fun x_36=>onX x_36 (fun p35=>kp p35) (fun v60=>(Zm n v60).bind fun x_37=>onX x_37 (fun p36=>kp p36) (fun v61=>(Ea n (v61.2.2.1.toList==(⟨#[]⟩:BA).toList) (8:Int)).bind fun x_38=>onX x_38 (fun p37=>kp p37) (fun v62=>(Wg n (v54,((⟨#[]⟩:BA),(v61.2.1,((v61.1.1,(v61.1.2.1,())),((0:Int),())))))).bind fun v63=>(Ea n v63 (8:Int)).bind fun x_39=>onX x_39 (fun p38=>kp p38) (fun v64=>k (v54,((⟨#[]⟩:BA),(v61.2.1,((v61.1.1,(v61.1.2.1,())),((0:Int),()))))))))) else if (v54==(1:Int))=true then (Da n (s.extract (Int.toNat (4:Int)) (Int.toNat (s.size:Int))) (⟨#[32]⟩:BA)).bind fun v65=>(Dc n v65).bind fun v66=>
 (Ea n (v66.2.1==(0:Int)) (8:Int)).bind fun x_40=>onX x_40 (fun p39=>kp p39) (fun v67=>(Wg n (v54,(v66.1,(false,(((⟨#[]⟩:BA),((⟨#[]⟩:BA),())),((0:Int),())))))).bind fun v68=>(Ea n v68 (8:Int)).bind fun x_41=>onX x_41 (fun p40=>kp p40) (fun v69=>k (v54,(v66.1,(false,(((⟨#[]⟩:BA),((⟨#[]⟩:BA),())),((0:Int),()))))))) else if (v54==(2:Int))=true then (Da n (s.extract (Int.toNat (4:Int)) (Int.toNat (s.size:Int))) (⟨#[32]⟩:BA)).bind fun v70=>(Dc n v70).bind fun v71=>(Ea n (v71.2.1==(0:Int)) (8:Int)).bind fun x_42=>onX x_42 (fun p41=>kp p41) (fun v72=>(Wg n (v54,(v71.1,(false,(((⟨#[]⟩:BA),((⟨#[]⟩:BA),())),((0:Int),())))))).bind fun v73=>(Ea n v73 (8:Int)).bind fun x_43=>onX x_43 (fun p42=>kp p42) (fun v74=>k (v54,(v71.1,(false,(((⟨#[]⟩:BA),((⟨#[]⟩:BA),())),((0:Int),()))))))) else (Ea n (!((s.extract (Int.toNat (4:Int)) (Int.toNat (s.size:Int))).toList==(⟨#[32]⟩:BA).toList)) (8:Int)).bind fun x_44=>onX x_44 (fun p43=>kp p43) (fun v75=>(Da n (s.extract (Int.toNat (4:Int)) (Int.toNat (s.size:Int))) (⟨#[32]⟩:BA)).bind fun v76=>(Wg n (v54,(v76,(false,(((⟨#[]⟩:BA),((⟨#[]⟩:BA),())),((0:Int),())))))).bind fun v77=>(Ea n v77 (8:Int)).bind fun x_45=>onX x_45 (fun p44=>
 kp p44) (fun v78=>k (v54,(v76,(false,(((⟨#[]⟩:BA),((⟨#[]⟩:BA),())),((0:Int),()))))))) else none else none) else none else (Ea n false (3:Int)).bind fun x_46=>onX x_46 (fun p45=>kp p45) (fun v79=>if 0≤(4:Int)∧(4:Int)≤(s.size:Int) then (uG n (s.extract (Int.toNat (0:Int)) (Int.toNat (4:Int)))).bind fun v80=>if 0≤(4:Int)∧(4:Int)≤(s.size:Int) then if (v80==(3:Int))=true then (Xg n (s.extract (Int.toNat (4:Int)) (Int.toNat (s.size:Int))) (⟨#[32,70,82,79,77,58]⟩:BA)).bind fun x_47=>onX x_47 (fun p46=>kp p46) (fun v81=>(Zm n v81).bind fun x_48=>onX x_48 (fun p47=>kp p47) (fun v82=>(vG n v82.2.2.1).bind fun x_49=>onX x_49 (fun p48=>kp p48) (fun v83=>(Wg n (v80,((⟨#[]⟩:BA),(v82.2.1,((v82.1.1,(v82.1.2.1,())),(v83,())))))).bind fun v84=>(Ea n v84 (8:Int)).bind fun x_50=>onX x_50 (fun p49=>kp p49) (fun v85=>k (v80,((⟨#[]⟩:BA),(v82.2.1,((v82.1.1,(v82.1.2.1,())),(v83,()))))))))) else if (v80==(4:Int))=true then (Xg n (s.extract (Int.toNat (4:Int)) (Int.toNat (s.size:Int))) (⟨#[32,84,79,58]⟩:BA)).bind fun x_51=>onX x_51 (fun p50=>kp p50) (fun v86=>(Zm n v86).bind fun x_52=>onX x_52 (fun p51=>kp p51) (fun v87=>(Ea n (v87.2.2.1.toList==(⟨#[]⟩:BA).toList) (8:Int)).bind fun x_53=>onX x_53 (fun p52=>kp p52) (fun v88=>(Wg n (v80,((⟨#[]⟩:BA),(v87.2.1,((v87.1.1,(v87.1.2.1,())),((0:Int),())))))).bind fun v89=>
 (Ea n v89 (8:Int)).bind fun x_54=>onX x_54 (fun p53=>kp p53) (fun v90=>k (v80,((⟨#[]⟩:BA),(v87.2.1,((v87.1.1,(v87.1.2.1,())),((0:Int),()))))))))) else if (v80==(1:Int))=true then (Da n (s.extract (Int.toNat (4:Int)) (Int.toNat (s.size:Int))) (⟨#[32]⟩:BA)).bind fun v91=>(Dc n v91).bind fun v92=>(Ea n (v92.2.1==(0:Int)) (8:Int)).bind fun x_55=>onX x_55 (fun p54=>kp p54) (fun v93=>(Wg n (v80,(v92.1,(false,(((⟨#[]⟩:BA),((⟨#[]⟩:BA),())),((0:Int),())))))).bind fun v94=>(Ea n v94 (8:Int)).bind fun x_56=>onX x_56 (fun p55=>kp p55) (fun v95=>k (v80,(v92.1,(false,(((⟨#[]⟩:BA),((⟨#[]⟩:BA),())),((0:Int),()))))))) else if (v80==(2:Int))=true then (Da n (s.extract (Int.toNat (4:Int)) (Int.toNat (s.size:Int))) (⟨#[32]⟩:BA)).bind fun v96=>(Dc n v96).bind fun v97=>(Ea n (v97.2.1==(0:Int)) (8:Int)).bind fun x_57=>onX x_57 (fun p56=>kp p56) (fun v98=>(Wg n (v80,(v97.1,(false,(((⟨#[]⟩:BA),((⟨#[]⟩:BA),())),((0:Int),())))))).bind fun v99=>(Ea n v99 (8:Int)).bind fun x_58=>onX x_58 (fun p57=>kp p57) (fun v100=>k (v80,(v97.1,(false,(((⟨#[]⟩:BA),((⟨#[]⟩:BA),())),((0:Int),()))))))) else (Ea n (!((s.extract (Int.toNat (4:Int)) (Int.toNat (s.size:Int))).toList==(⟨#[32]⟩:BA).toList)) (8:Int)).bind fun x_59=>onX x_59 (fun p58=>
 kp p58) (fun v101=>(Da n (s.extract (Int.toNat (4:Int)) (Int.toNat (s.size:Int))) (⟨#[32]⟩:BA)).bind fun v102=>(Wg n (v80,(v102,(false,(((⟨#[]⟩:BA),((⟨#[]⟩:BA),())),((0:Int),())))))).bind fun v103=>(Ea n v103 (8:Int)).bind fun x_60=>onX x_60 (fun p59=>kp p59) (fun v104=>k (v80,(v102,(false,(((⟨#[]⟩:BA),((⟨#[]⟩:BA),())),((0:Int),()))))))) else none else none)
def QZ (n:Nat) (s:BA):Option (Except Int T1):=eT n s (fun y=>some (.ok y)) (fun p=>some (.error p))
theorem Eeb (n:Nat) {S:Type}:∀ s (φ:_→Option S),(QZ n s).bind φ=eT n s (fun y=>φ (.ok y)) (fun p=>φ (.error p)):=by
  intros;unfold QZ eT;first | (simp only [ja,fa,iB,bB,oL,oX,nB,Option.bind_some]) | rfl
def WI (n:Nat):Hint Out:={ live:=fun c=>[],run:=fun c=>none,xm:=fun c q=>none }
theorem JW (n:Nat):qa tys (ia Out (Xz n)) (WI n) n (ba Tryz.f99) 0:=na (fun _=>rfl) _ _ (by kernel_rfl)
theorem Fgb (n:Nat):Enters Tryz.prog 99:=enters_of (c:=ba Tryz.f99) Tryz.func99 (by kernel_rfl) (by kernel_rfl)
def qab (n:Nat):Entry:=⟨99,pcX 144 (.pair .str .unit) (.one K2) (fun xs=>QZ n xs.1),none,none⟩
theorem ljb (n:Nat):EntryOk Tryz.prog gl (qab n):=wK (Fgb n) (fun xs y h=>ma tys_ok (Vo n) mixed (hint:=WI n) (n:=n) Tryz.func99 (ya (JW n)) (la (φ:=(fun r=>onX r (fun p=>some (Out.pan (Pg 144 p))) fun y=>some (Out.ret (Ya (.one K2) y)))) (by kernel_rfl) (Eeb n xs.1 _) h)) (fun xs p h=>ma tys_ok (Vo n) mixed (hint:=WI n) (n:=n) Tryz.func99 (ya (JW n)) (la (φ:=(fun r=>onX r (fun p=>some (Out.pan (Pg 144 p))) fun y=>some (Out.ret (Ya (.one K2) y)))) (by kernel_rfl) (Eeb n xs.1 _) h))
def uw (n:Nat):List Entry:=qab n::Xz n
theorem GQ (n:Nat):AllOk Tryz.prog gl (uw n):=.cons (ljb n) (Vo n)
def PC (n:Nat) {R:Type} (s:BA) (k:(T1×Int×Unit)→Option R):Option R:=(QZ n s).bind fun x_1=>onX x_1 (fun p=>k (((0:Int),((⟨#[]⟩:BA),(false,(((⟨#[]⟩:BA),((⟨#[]⟩:BA),())),((0:Int),()))))),(p,()))) (fun v=>k ((v.1,(v.2.1,(v.2.2.1,((v.2.2.2.1.1,(v.2.2.2.1.2.1,())),(v.2.2.2.2.1,()))))),((0:Int),())))
def TI (n:Nat) (s:BA):Option (T1×Int×Unit):=PC n s some
theorem ejb (n:Nat) {S:Type}:∀ s (φ:_→Option S),(TI n s).bind φ=PC n s φ:=by
  intros;unfold TI PC;first | (simp only [ja,fa,iB,bB,oL,oX,nB,Option.bind_some]) | rfl
def Vs (n:Nat):Hint Out:={ live:=fun c=>[],run:=fun c=>none,xm:=fun c q=>none,pm:=some [(2,none),(3,none)] }
theorem fab (n:Nat):qa tys (ia Out (uw n)) (Vs n) n (ra [0] (ba Tryz.f69)) 0∧qa tys (ia Out (uw n)) (Vs n) n (ra [1,1] (ba Tryz.f69)) 0:=⟨aa,⟨aa,aa⟩⟩
theorem Zcb (n:Nat):Enters Tryz.prog 69:=enters_of (c:=ba Tryz.f69) Tryz.func69 (by kernel_rfl) (by kernel_rfl)
theorem xW:Tryz.prog.funcs[98]?=some Tryz.f98:=by kernel_rfl
theorem eab:Enters Tryz.prog 98:=enters_of (c:=ba Tryz.f98) xW (by kernel_rfl) (by kernel_rfl)
theorem M5 (n:Nat):qa tys (ia Out (uw n)) J2 n (ra [1] (ba Tryz.f98)) 0:=⟨⟨aa,⟨aa,aa⟩⟩,⟨aa,⟨⟨aa,⟨aa,aa⟩⟩,aa⟩⟩⟩
theorem djb (n:Nat) (s:BA):fnD tys (ia Out (uw n)) (Vs n) n 98 Tryz.f98 Tryz.f69 (wfb (.pair .str .unit) (s,())) (Rcb fun v=>some (.ret v))=PC n s (fun y=>some (.ret (Ya (.many K12) y))):=by kernel_rfl
def NZ (n:Nat):Entry:=⟨69,pcT (.pair .str .unit) (.many K12) (fun xs=>TI n xs.1),none,none⟩
theorem xgb (n:Nat):EntryOk Tryz.prog gl (NZ n):=wa (Zcb n) fun xs y h=>eZ tys_ok (GQ n) mixed (hint:=Vs n) (n:=n) (fn:=Tryz.f69) (f2:=Tryz.f98) Tryz.func69 xW eab (oob (fab n)) (Ilb (M5 n)) (la (φ:=(fun y=>some (Out.ret (Ya (.many K12) y)))) (djb n xs.1) (ejb n xs.1 _) h)
def SO (n:Nat):List Entry:=NZ n::uw n
theorem FM (n:Nat):AllOk Tryz.prog gl (SO n):=.cons (xgb n) (GQ n)
def KG (n:Nat) {R:Type} (c:T0) (k:U2→Option R):Option R:=if (c.2.2.2.2.1 !=(0:Int))=true then if (c.2.2.2.2.1 !=(5:Int))=true then k (c.1,(c.2.1,(c.2.2.1,(c.2.2.2.1.1,(c.2.2.2.1.2.1,((1:Int),(c.2.2.2.2.2.1,(false,((⟨#[]⟩:BA),((⟨#[]⟩:BA),((0:Int),(false,((⟨0,fun _=>ta (.pair .str (.pair .str .unit))⟩:Sq U0),((⟨0,fun _=>ta .str⟩:Sq BA),())))))))))))))) else k (c.1,(c.2.1,(c.2.2.1,(c.2.2.2.1.1,(c.2.2.2.1.2.1,(c.2.2.2.2.1,(c.2.2.2.2.2.1,(false,((⟨#[]⟩:BA),((⟨#[]⟩:BA),((0:Int),(false,((⟨0,fun _=>ta (.pair .str (.pair .str .unit))⟩:Sq U0),((⟨0,fun _=>ta .str⟩:Sq BA),())))))))))))))) else k (c.1,(c.2.1,(c.2.2.1,(c.2.2.2.1.1,(c.2.2.2.1.2.1,(c.2.2.2.2.1,(c.2.2.2.2.2.1,(false,((⟨#[]⟩:BA),((⟨#[]⟩:BA),((0:Int),(false,((⟨0,fun _=>ta (.pair .str (.pair .str .unit))⟩:Sq U0),((⟨0,fun _=>ta .str⟩:Sq BA),()))))))))))))))
def xi (n:Nat) (c:T0):Option U2:=KG n c some
theorem hbb (n:Nat) {S:Type}:∀ c (φ:_→Option S),(xi n c).bind φ=KG n c φ:=by
  intros;unfold xi KG;first | (simp only [ja,fa,iB,bB,oL,oX,nB,Option.bind_some]) | rfl
def qF (n:Nat):Hint OutS:={ live:=fun c=>[],run:=fun c=>none,xm:=fun c q=>none,pr:=[(0,10,25),(0,11,9)] }
theorem qX (n:Nat):qa tys (ia OutS (SO n)).keep (qF n) n (ba Tryz.f76) 0:=na (fun _=>rfl) _ _ (by kernel_rfl)
theorem S0 (n:Nat):Enters Tryz.prog 76:=enters_of (c:=ba Tryz.f76) Tryz.func76 (by kernel_rfl) (by kernel_rfl)
def JP:List RSp:=[.one (.dat K0)]
def GP:List RS:=[]
def X0:List Sl:=[.top]
def Y0:List RSp:=[.agg [.dat (.int .i64),.dat (.int .i64),.dat (.int .i64),.dat .str,.dat .bool,.dat (.int .i64),.dat .str,.dat .bool,.dat .str,.dat .str,.row 0,.row 1,.dat (.int .i64),.dat .bool]]
def Fn:List RS:=[.row 25 2 (.pair .str (.pair .str .unit)) true true,.row 9 1 .str true true]
def LG (y:U2):OutS:=⟨false,km (cc Fn (y.2.2.2.2.2.2.2.2.2.2.2.2.1,(y.2.2.2.2.2.2.2.2.2.2.2.2.2.1,()))) X0 (),OC (Vz (cc Fn (y.2.2.2.2.2.2.2.2.2.2.2.2.1,(y.2.2.2.2.2.2.2.2.2.2.2.2.2.1,()))) Y0 ((y.1,(y.2.1,(y.2.2.1,(y.2.2.2.1,(y.2.2.2.2.1,(y.2.2.2.2.2.1,(y.2.2.2.2.2.2.1,(y.2.2.2.2.2.2.2.1,(y.2.2.2.2.2.2.2.2.1,(y.2.2.2.2.2.2.2.2.2.1,(y.2.2.2.2.2.2.2.2.2.2.1,(y.2.2.2.2.2.2.2.2.2.2.2.1,())))))))))))),())),ir (cc Fn (y.2.2.2.2.2.2.2.2.2.2.2.2.1,(y.2.2.2.2.2.2.2.2.2.2.2.2.2.1,()))) Fn (y.2.2.2.2.2.2.2.2.2.2.2.2.1,(y.2.2.2.2.2.2.2.2.2.2.2.2.2.1,()))⟩
theorem R6 (n:Nat):EntryOk Tryz.prog gl ⟨76,vd,none,some (csT JP GP (fun σ ρ=>xi n σ.1.1) LG)⟩:=pd (S0 n) fun σ ρ y h=>If tys_ok (FM n) mixed (hint:=qF n) (n:=n) Tryz.func76 (ya (qX n)) (la (φ:=fun y=>some (LG y)) (by kernel_rfl) (hbb n σ.1.1 _) h)
def lA (n:Nat):List Entry:=⟨76,vd,none,some (csT JP GP (fun σ ρ=>xi n σ.1.1) LG)⟩::SO n
theorem mA (n:Nat):AllOk Tryz.prog gl (lA n):=.cons (R6 n) (FM n)
def zN (n:Nat) {R:Type} (c:T0) (v:T1) (k:(Int×BA×Unit)→Option R):Option R:=if (c.2.2.2.2.1 !=(2:Int))=true then if (c.2.2.2.2.1 !=(3:Int))=true then k ((503:Int),((⟨#[]⟩:BA),())) else if ((c.2.2.2.2.2.2.2.2.1.n:Int)==(8:Int))=true then k ((452:Int),((⟨#[]⟩:BA),())) else (sCn n c.2.2.2.2.2.2.2.2.1 v.2.2.2.1).bind fun v1=>if v1=true then k ((250:Int),((⟨#[]⟩:BA),())) else k ((0:Int),((⟨#[114,99,112,116]⟩:BA),())) else if ((c.2.2.2.2.2.2.2.2.1.n:Int)==(8:Int))=true then k ((452:Int),((⟨#[]⟩:BA),())) else (sCn n c.2.2.2.2.2.2.2.2.1 v.2.2.2.1).bind fun v2=>if v2=true then k ((250:Int),((⟨#[]⟩:BA),())) else k ((0:Int),((⟨#[114,99,112,116]⟩:BA),()))
def ZJ (n:Nat) (c:T0) (v:T1):Option (Int×BA×Unit):=zN n c v some
theorem kfb (n:Nat) {S:Type}:∀ c v (φ:_→Option S),(ZJ n c v).bind φ=zN n c v φ:=by
  intros;unfold ZJ zN;first | (simp only [ja,fa,iB,bB,oL,oX,nB,Option.bind_some]) | rfl
def aK (n:Nat):Hint Out:={ live:=fun c=>[],run:=fun c=>none,xm:=fun c q=>none }
theorem X1 (n:Nat):qa tys (ia Out (lA n)) (aK n) n (ba Tryz.f100) 0:=na (fun _=>rfl) _ _ (by kernel_rfl)
theorem q7 (n:Nat):Enters Tryz.prog 100:=enters_of (c:=ba Tryz.f100) Tryz.func100 (by kernel_rfl) (by kernel_rfl)
def TT (n:Nat):Entry:=⟨100,pcT K13 (.many (.pair (.int .i64) (.pair .str .unit))) (fun xs=>ZJ n xs.1 xs.2.1),none,none⟩
theorem sbb (n:Nat):EntryOk Tryz.prog gl (TT n):=wa (q7 n) fun xs y h=>ma tys_ok (mA n) mixed (hint:=aK n) (n:=n) Tryz.func100 (ya (X1 n)) (la (φ:=(fun y=>some (Out.ret (Ya (.many (.pair (.int .i64) (.pair .str .unit))) y)))) (by kernel_rfl) (kfb n xs.1 xs.2.1 _) h)
def QG (n:Nat):List Entry:=TT n::lA n
theorem wF (n:Nat):AllOk Tryz.prog gl (QG n):=.cons (sbb n) (mA n)
def yA (n:Nat) {R:Type} (c:T0) (v:T1) (k:U14→Option R):Option R:=if (v.1==(1:Int))=true then (Uj n v.2.1).bind fun v1=>if (!v1)=true then k (c,((501:Int),((⟨#[]⟩:BA),()))) else (xi n (c.1,(c.2.1,(c.2.2.1,(c.2.2.2.1,((1:Int),(v.2.1,c.2.2.2.2.2.2))))))).bind fun v2=>k ((v2.1,(v2.2.1,(v2.2.2.1,((v2.2.2.2.1,(v2.2.2.2.2.1,())),(v2.2.2.2.2.2.1,(v2.2.2.2.2.2.2.1,(v2.2.2.2.2.2.2.2.1,((v2.2.2.2.2.2.2.2.2.1,(v2.2.2.2.2.2.2.2.2.2.1,())),(v2.2.2.2.2.2.2.2.2.2.2.2.2.1,(v2.2.2.2.2.2.2.2.2.2.2.2.2.2.1,(v2.2.2.2.2.2.2.2.2.2.2.1,(v2.2.2.2.2.2.2.2.2.2.2.2.1,())))))))))))),((250:Int),((⟨#[]⟩:BA),()))) else if (v.1==(2:Int))=true then (Uj n v.2.1).bind fun v3=>if (!v3)=true then k (c,((501:Int),((⟨#[]⟩:BA),()))) else (xi n (c.1,(c.2.1,(c.2.2.1,(c.2.2.2.1,((1:Int),(v.2.1,c.2.2.2.2.2.2))))))).bind fun v4=>k ((v4.1,(v4.2.1,(v4.2.2.1,((v4.2.2.2.1,(v4.2.2.2.2.1,())),(v4.2.2.2.2.2.1,(v4.2.2.2.2.2.2.1,(v4.2.2.2.2.2.2.2.1,((v4.2.2.2.2.2.2.2.2.1,(v4.2.2.2.2.2.2.2.2.2.1,())),(v4.2.2.2.2.2.2.2.2.2.2.2.2.1,(v4.2.2.2.2.2.2.2.2.2.2.2.2.2.1,(v4.2.2.2.2.2.2.2.2.2.2.1,(v4.2.2.2.2.2.2.2.2.2.2.2.1,())))))))))))),((250:Int),((⟨#[]⟩:BA),()))) else if (v.1==(6:Int))=true then (xi n c).bind fun v5=>k ((v5.1,(v5.2.1,(v5.2.2.1,((v5.2.2.2.1,(v5.2.2.2.2.1,())),(v5.2.2.2.2.2.1,(v5.2.2.2.2.2.2.1,(v5.2.2.2.2.2.2.2.1,((v5.2.2.2.2.2.2.2.2.1,(v5.2.2.2.2.2.2.2.2.2.1,())),(v5.2.2.2.2.2.2.2.2.2.2.2.2.1,(v5.2.2.2.2.2.2.2.2.2.2.2.2.2.1,(v5.2.2.2.2.2.2.2.2.2.2.1,(v5.2.2.2.2.2.2.2.2.2.2.2.1,())))))))))))),((250:Int),((⟨#[]⟩:BA),())))
 else if (v.1==(7:Int))=true then k (c,((250:Int),((⟨#[]⟩:BA),()))) else if (v.1==(9:Int))=true then k (c,((252:Int),((⟨#[]⟩:BA),()))) else if (v.1==(8:Int))=true then (xi n c).bind fun v6=>k ((v6.1,(v6.2.1,(v6.2.2.1,((v6.2.2.2.1,(v6.2.2.2.2.1,())),((5:Int),(v6.2.2.2.2.2.2.1,(v6.2.2.2.2.2.2.2.1,((v6.2.2.2.2.2.2.2.2.1,(v6.2.2.2.2.2.2.2.2.2.1,())),(v6.2.2.2.2.2.2.2.2.2.2.2.2.1,(v6.2.2.2.2.2.2.2.2.2.2.2.2.2.1,(v6.2.2.2.2.2.2.2.2.2.2.1,(v6.2.2.2.2.2.2.2.2.2.2.2.1,())))))))))))),((221:Int),((⟨#[]⟩:BA),()))) else if (v.1==(4:Int))=true then (ZJ n c v).bind fun v7=>k (c,(v7.1,(v7.2.1,()))) else if (v.1==(5:Int))=true then if (c.2.2.2.2.1 !=(3:Int))=true then k (c,((503:Int),((⟨#[]⟩:BA),()))) else k ((c.1,(c.2.1,(c.2.2.1,(c.2.2.2.1,((4:Int),c.2.2.2.2.2))))),((354:Int),((⟨#[]⟩:BA),()))) else if (c.2.2.2.2.1 !=(1:Int))=true then k (c,((503:Int),((⟨#[]⟩:BA),()))) else if (decide (v.2.2.2.2.1>(8192:Int)))=true then k (c,((552:Int),((⟨#[]⟩:BA),()))) else k (c,((0:Int),((⟨#[109,97,105,108]⟩:BA),())))
def uN (n:Nat) (c:T0) (v:T1):Option U14:=yA n c v some
theorem m7 (n:Nat) {S:Type}:∀ c v (φ:_→Option S),(uN n c v).bind φ=yA n c v φ:=by
  intros;unfold uN yA;first | (simp only [ja,fa,iB,bB,oL,oX,nB,Option.bind_some]) | rfl
def AA (n:Nat):Hint Out:={ live:=fun c=>[],run:=fun c=>none,xm:=fun c q=>none }
theorem PT (n:Nat):qa tys (ia Out (QG n)) (AA n) n (ba Tryz.f70) 0:=na (fun _=>rfl) _ _ (by kernel_rfl)
theorem BX (n:Nat):Enters Tryz.prog 70:=enters_of (c:=ba Tryz.f70) Tryz.func70 (by kernel_rfl) (by kernel_rfl)
def TJ (n:Nat):Entry:=⟨70,pcT K13 (.many K14) (fun xs=>uN n xs.1 xs.2.1),none,none⟩
theorem R1 (n:Nat):EntryOk Tryz.prog gl (TJ n):=wa (BX n) fun xs y h=>ma tys_ok (wF n) mixed (hint:=AA n) (n:=n) Tryz.func70 (ya (PT n)) (la (φ:=(fun y=>some (Out.ret (Ya (.many K14) y)))) (by kernel_rfl) (m7 n xs.1 xs.2.1 _) h)
def Ww (n:Nat):List Entry:=TJ n::QG n
theorem Iy (n:Nat):AllOk Tryz.prog gl (Ww n):=.cons (R1 n) (wF n)
def Pw (n:Nat) {R:Type} (c c1 c2:Int) (c3:BA) (c4:Bool) (c5:Int) (c6:BA) (c7:Bool) (c8 c9:BA) (c10:Int) (c11:Bool) (r0:(Sq U0)) (r1:(Sq BA)) (k:U2→Option R):Option R:=if (c5 !=(0:Int))=true then if (c5 !=(5:Int))=true then k (c,(c1,(c2,(c3,(c4,((1:Int),(c6,(false,((⟨#[]⟩:BA),((⟨#[]⟩:BA),((0:Int),(false,((⟨0,fun _=>ta (.pair .str (.pair .str .unit))⟩:Sq U0),((⟨0,fun _=>ta .str⟩:Sq BA),())))))))))))))) else k (c,(c1,(c2,(c3,(c4,(c5,(c6,(false,((⟨#[]⟩:BA),((⟨#[]⟩:BA),((0:Int),(false,((⟨0,fun _=>ta (.pair .str (.pair .str .unit))⟩:Sq U0),((⟨0,fun _=>ta .str⟩:Sq BA),())))))))))))))) else k (c,(c1,(c2,(c3,(c4,(c5,(c6,(false,((⟨#[]⟩:BA),((⟨#[]⟩:BA),((0:Int),(false,((⟨0,fun _=>ta (.pair .str (.pair .str .unit))⟩:Sq U0),((⟨0,fun _=>ta .str⟩:Sq BA),()))))))))))))))
def bh (n:Nat) (c c1 c2:Int) (c3:BA) (c4:Bool) (c5:Int) (c6:BA) (c7:Bool) (c8 c9:BA) (c10:Int) (c11:Bool) (r0:(Sq U0)) (r1:(Sq BA)):Option U2:=Pw n c c1 c2 c3 c4 c5 c6 c7 c8 c9 c10 c11 r0 r1 some
theorem ibb (n:Nat) {S:Type}:∀ c c1 c2 c3 c4 c5 c6 c7 c8 c9 c10 c11 r0 r1 (φ:_→Option S),(bh n c c1 c2 c3 c4 c5 c6 c7 c8 c9 c10 c11 r0 r1).bind φ=Pw n c c1 c2 c3 c4 c5 c6 c7 c8 c9 c10 c11 r0 r1 φ:=by
  intros;unfold bh Pw;first | (simp only [ja,fa,iB,bB,oL,oX,nB,Option.bind_some]) | rfl
def rF (n:Nat):Hint OutS:={ live:=fun c=>[],run:=fun c=>none,xm:=fun c q=>none,pr:=[(0,10,25),(0,11,9)] }
theorem rX (n:Nat):qa tys (ia OutS (Ww n)).keep (rF n) n (ba Tryz.f76) 0:=na (fun _=>rfl) _ _ (by kernel_rfl)
theorem Z0 (n:Nat):Enters Tryz.prog 76:=enters_of (c:=ba Tryz.f76) Tryz.func76 (by kernel_rfl) (by kernel_rfl)
def LP:List RSp:=[.agg [.dat (.int .i64),.dat (.int .i64),.dat (.int .i64),.dat .str,.dat .bool,.dat (.int .i64),.dat .str,.dat .bool,.dat .str,.dat .str,.row 0,.row 1,.dat (.int .i64),.dat .bool]]
def KP:List RS:=[.row 25 2 (.pair .str (.pair .str .unit)) true true,.row 9 1 .str true true]
def A1:List Sl:=[.top]
def B1:List RSp:=[.agg [.dat (.int .i64),.dat (.int .i64),.dat (.int .i64),.dat .str,.dat .bool,.dat (.int .i64),.dat .str,.dat .bool,.dat .str,.dat .str,.row 0,.row 1,.dat (.int .i64),.dat .bool]]
def Gn:List RS:=[.row 25 2 (.pair .str (.pair .str .unit)) true true,.row 9 1 .str true true]
def MG (y:U2):OutS:=⟨false,km (cc Gn (y.2.2.2.2.2.2.2.2.2.2.2.2.1,(y.2.2.2.2.2.2.2.2.2.2.2.2.2.1,()))) A1 (),OC (Vz (cc Gn (y.2.2.2.2.2.2.2.2.2.2.2.2.1,(y.2.2.2.2.2.2.2.2.2.2.2.2.2.1,()))) B1 ((y.1,(y.2.1,(y.2.2.1,(y.2.2.2.1,(y.2.2.2.2.1,(y.2.2.2.2.2.1,(y.2.2.2.2.2.2.1,(y.2.2.2.2.2.2.2.1,(y.2.2.2.2.2.2.2.2.1,(y.2.2.2.2.2.2.2.2.2.1,(y.2.2.2.2.2.2.2.2.2.2.1,(y.2.2.2.2.2.2.2.2.2.2.2.1,())))))))))))),())),ir (cc Gn (y.2.2.2.2.2.2.2.2.2.2.2.2.1,(y.2.2.2.2.2.2.2.2.2.2.2.2.2.1,()))) Gn (y.2.2.2.2.2.2.2.2.2.2.2.2.1,(y.2.2.2.2.2.2.2.2.2.2.2.2.2.1,()))⟩
theorem S6 (n:Nat):EntryOk Tryz.prog gl ⟨76,vd,none,some (csT LP KP (fun σ ρ=>bh n σ.1.1 σ.1.2.1 σ.1.2.2.1 σ.1.2.2.2.1 σ.1.2.2.2.2.1 σ.1.2.2.2.2.2.1 σ.1.2.2.2.2.2.2.1 σ.1.2.2.2.2.2.2.2.1 σ.1.2.2.2.2.2.2.2.2.1 σ.1.2.2.2.2.2.2.2.2.2.1 σ.1.2.2.2.2.2.2.2.2.2.2.1 σ.1.2.2.2.2.2.2.2.2.2.2.2.1 ρ.1 ρ.2.1) MG)⟩:=pd (Z0 n) fun σ ρ y h=>If tys_ok (Iy n) mixed (hint:=rF n) (n:=n) Tryz.func76 (ya (rX n)) (la (φ:=fun y=>some (MG y)) (by kernel_rfl) (ibb n σ.1.1 σ.1.2.1 σ.1.2.2.1 σ.1.2.2.2.1 σ.1.2.2.2.2.1 σ.1.2.2.2.2.2.1 σ.1.2.2.2.2.2.2.1 σ.1.2.2.2.2.2.2.2.1 σ.1.2.2.2.2.2.2.2.2.1 σ.1.2.2.2.2.2.2.2.2.2.1 σ.1.2.2.2.2.2.2.2.2.2.2.1 σ.1.2.2.2.2.2.2.2.2.2.2.2.1 ρ.1 ρ.2.1 _) h)
def nA (n:Nat):List Entry:=⟨76,vd,none,some (csT LP KP (fun σ ρ=>bh n σ.1.1 σ.1.2.1 σ.1.2.2.1 σ.1.2.2.2.1 σ.1.2.2.2.2.1 σ.1.2.2.2.2.2.1 σ.1.2.2.2.2.2.2.1 σ.1.2.2.2.2.2.2.2.1 σ.1.2.2.2.2.2.2.2.2.1 σ.1.2.2.2.2.2.2.2.2.2.1 σ.1.2.2.2.2.2.2.2.2.2.2.1 σ.1.2.2.2.2.2.2.2.2.2.2.2.1 ρ.1 ρ.2.1) MG)⟩::Ww n
theorem oA (n:Nat):AllOk Tryz.prog gl (nA n):=.cons (S6 n) (Iy n)
def zi (n:Nat) {R:Type} (c c1 c2:Int) (c3:BA) (c4:Bool) (c5:Int) (c6:BA) (c7:Bool) (c8 c9:BA) (c10:Int) (c11:Bool) (v:T1) (r0:(Sq U0)) (r1:(Sq BA)) (k:U14→Option R):Option R:=if (v.1==(1:Int))=true then (Uj n v.2.1).bind fun v1=>if (!v1)=true then k ((c,(c1,(c2,((c3,(c4,())),(c5,(c6,(c7,((c8,(c9,())),(r0,(r1,(c10,(c11,())))))))))))),((501:Int),((⟨#[]⟩:BA),()))) else (bh n c c1 c2 c3 c4 (1:Int) v.2.1 c7 c8 c9 c10 c11 r0 r1).bind fun v2=>k ((v2.1,(v2.2.1,(v2.2.2.1,((v2.2.2.2.1,(v2.2.2.2.2.1,())),(v2.2.2.2.2.2.1,(v2.2.2.2.2.2.2.1,(v2.2.2.2.2.2.2.2.1,((v2.2.2.2.2.2.2.2.2.1,(v2.2.2.2.2.2.2.2.2.2.1,())),(v2.2.2.2.2.2.2.2.2.2.2.2.2.1,(v2.2.2.2.2.2.2.2.2.2.2.2.2.2.1,(v2.2.2.2.2.2.2.2.2.2.2.1,(v2.2.2.2.2.2.2.2.2.2.2.2.1,())))))))))))),((250:Int),((⟨#[]⟩:BA),()))) else if (v.1==(2:Int))=true then (Uj n v.2.1).bind fun v3=>if (!v3)=true then k ((c,(c1,(c2,((c3,(c4,())),(c5,(c6,(c7,((c8,(c9,())),(r0,(r1,(c10,(c11,())))))))))))),((501:Int),((⟨#[]⟩:BA),()))) else (bh n c c1 c2 c3 c4 (1:Int) v.2.1 c7 c8 c9 c10 c11 r0 r1).bind fun v4=>k ((v4.1,(v4.2.1,(v4.2.2.1,((v4.2.2.2.1,(v4.2.2.2.2.1,())),(v4.2.2.2.2.2.1,(v4.2.2.2.2.2.2.1,(v4.2.2.2.2.2.2.2.1,((v4.2.2.2.2.2.2.2.2.1,(v4.2.2.2.2.2.2.2.2.2.1,())),(v4.2.2.2.2.2.2.2.2.2.2.2.2.1,(v4.2.2.2.2.2.2.2.2.2.2.2.2.2.1,(v4.2.2.2.2.2.2.2.2.2.2.1,(v4.2.2.2.2.2.2.2.2.2.2.2.1,())))))))))))),((250:Int),((⟨#[]⟩:BA),())))
 else if (v.1==(6:Int))=true then (bh n c c1 c2 c3 c4 c5 c6 c7 c8 c9 c10 c11 r0 r1).bind fun v5=>k ((v5.1,(v5.2.1,(v5.2.2.1,((v5.2.2.2.1,(v5.2.2.2.2.1,())),(v5.2.2.2.2.2.1,(v5.2.2.2.2.2.2.1,(v5.2.2.2.2.2.2.2.1,((v5.2.2.2.2.2.2.2.2.1,(v5.2.2.2.2.2.2.2.2.2.1,())),(v5.2.2.2.2.2.2.2.2.2.2.2.2.1,(v5.2.2.2.2.2.2.2.2.2.2.2.2.2.1,(v5.2.2.2.2.2.2.2.2.2.2.1,(v5.2.2.2.2.2.2.2.2.2.2.2.1,())))))))))))),((250:Int),((⟨#[]⟩:BA),()))) else if (v.1==(7:Int))=true then k ((c,(c1,(c2,((c3,(c4,())),(c5,(c6,(c7,((c8,(c9,())),(r0,(r1,(c10,(c11,())))))))))))),((250:Int),((⟨#[]⟩:BA),()))) else if (v.1==(9:Int))=true then k ((c,(c1,(c2,((c3,(c4,())),(c5,(c6,(c7,((c8,(c9,())),(r0,(r1,(c10,(c11,())))))))))))),((252:Int),((⟨#[]⟩:BA),()))) else if (v.1==(8:Int))=true then (bh n c c1 c2 c3 c4 c5 c6 c7 c8 c9 c10 c11 r0 r1).bind fun v6=>k ((v6.1,(v6.2.1,(v6.2.2.1,((v6.2.2.2.1,(v6.2.2.2.2.1,())),((5:Int),(v6.2.2.2.2.2.2.1,(v6.2.2.2.2.2.2.2.1,((v6.2.2.2.2.2.2.2.2.1,(v6.2.2.2.2.2.2.2.2.2.1,())),(v6.2.2.2.2.2.2.2.2.2.2.2.2.1,(v6.2.2.2.2.2.2.2.2.2.2.2.2.2.1,(v6.2.2.2.2.2.2.2.2.2.2.1,(v6.2.2.2.2.2.2.2.2.2.2.2.1,())))))))))))),((221:Int),((⟨#[]⟩:BA),()))) else if (v.1==(4:Int))=true then (ZJ n (c,(c1,(c2,((c3,(c4,())),(c5,(c6,(c7,((c8,(c9,())),(r0,(r1,(c10,(c11,())))))))))))) v).bind fun v7=>k ((c,(c1,(c2,((c3,(c4,())),(c5,(c6,(c7,((c8,(c9,())),(r0,(r1,(c10,(c11,())))))))))))),(v7.1,(v7.2.1,())))
 else if (v.1==(5:Int))=true then if (c5 !=(3:Int))=true then k ((c,(c1,(c2,((c3,(c4,())),(c5,(c6,(c7,((c8,(c9,())),(r0,(r1,(c10,(c11,())))))))))))),((503:Int),((⟨#[]⟩:BA),()))) else k ((c,(c1,(c2,((c3,(c4,())),((4:Int),(c6,(c7,((c8,(c9,())),(r0,(r1,(c10,(c11,())))))))))))),((354:Int),((⟨#[]⟩:BA),()))) else if (c5 !=(1:Int))=true then k ((c,(c1,(c2,((c3,(c4,())),(c5,(c6,(c7,((c8,(c9,())),(r0,(r1,(c10,(c11,())))))))))))),((503:Int),((⟨#[]⟩:BA),()))) else if (decide (v.2.2.2.2.1>(8192:Int)))=true then k ((c,(c1,(c2,((c3,(c4,())),(c5,(c6,(c7,((c8,(c9,())),(r0,(r1,(c10,(c11,())))))))))))),((552:Int),((⟨#[]⟩:BA),()))) else k ((c,(c1,(c2,((c3,(c4,())),(c5,(c6,(c7,((c8,(c9,())),(r0,(r1,(c10,(c11,())))))))))))),((0:Int),((⟨#[109,97,105,108]⟩:BA),())))
def ud (n:Nat) (c c1 c2:Int) (c3:BA) (c4:Bool) (c5:Int) (c6:BA) (c7:Bool) (c8 c9:BA) (c10:Int) (c11:Bool) (v:T1) (r0:(Sq U0)) (r1:(Sq BA)):Option U14:=zi n c c1 c2 c3 c4 c5 c6 c7 c8 c9 c10 c11 v r0 r1 some
theorem QT (n:Nat) {S:Type}:∀ c c1 c2 c3 c4 c5 c6 c7 c8 c9 c10 c11 v r0 r1 (φ:_→Option S),(ud n c c1 c2 c3 c4 c5 c6 c7 c8 c9 c10 c11 v r0 r1).bind φ=zi n c c1 c2 c3 c4 c5 c6 c7 c8 c9 c10 c11 v r0 r1 φ:=by
  intros;unfold ud zi;first | (simp only [ja,fa,iB,bB,oL,oX,nB,Option.bind_some]) | rfl
def br (n:Nat):Hint OutS:={ live:=fun c=>[],run:=fun c=>none,xm:=fun c q=>none,fz:=true }
theorem UJ (n:Nat):qa tys (ia OutS (nA n)) (br n) n (ba Tryz.f70) 0:=na (fun _=>rfl) _ _ (by kernel_rfl)
theorem vN (n:Nat):Enters Tryz.prog 70:=enters_of (c:=ba Tryz.f70) Tryz.func70 (by kernel_rfl) (by kernel_rfl)
def Ky:List RSp:=[.agg [.dat (.int .i64),.dat (.int .i64),.dat (.int .i64),.dat .str,.dat .bool,.dat (.int .i64),.dat .str,.dat .bool,.dat .str,.dat .str,.row 0,.row 1,.dat (.int .i64),.dat .bool],.one (.dat K2)]
def Jy:List RS:=[.row 25 2 (.pair .str (.pair .str .unit)) true true,.row 9 1 .str true true]
def wN:List Sl:=[.top,.top]
def xN:List RSp:=[.one (.dat K0),.one (.dat (.int .i64)),.one (.dat .str)]
def xg:List RS:=[]
def jp (y:U14):OutS:=⟨false,km (cc xg ()) wN (),OC (Vz (cc xg ()) xN ((y.1,()),((y.2.1,()),((y.2.2.1,()),())))),ir (cc xg ()) xg ()⟩
theorem RQ (n:Nat):EntryOk Tryz.prog gl ⟨70,vd,none,some (csT Ky Jy (fun σ ρ=>ud n σ.1.1 σ.1.2.1 σ.1.2.2.1 σ.1.2.2.2.1 σ.1.2.2.2.2.1 σ.1.2.2.2.2.2.1 σ.1.2.2.2.2.2.2.1 σ.1.2.2.2.2.2.2.2.1 σ.1.2.2.2.2.2.2.2.2.1 σ.1.2.2.2.2.2.2.2.2.2.1 σ.1.2.2.2.2.2.2.2.2.2.2.1 σ.1.2.2.2.2.2.2.2.2.2.2.2.1 σ.2.1.1 ρ.1 ρ.2.1) jp)⟩:=pd (vN n) fun σ ρ y h=>Ta tys_ok (oA n) mixed (hint:=br n) (n:=n) Tryz.func70 (ya (UJ n)) (la (φ:=fun y=>some (jp y)) (by kernel_rfl) (QT n σ.1.1 σ.1.2.1 σ.1.2.2.1 σ.1.2.2.2.1 σ.1.2.2.2.2.1 σ.1.2.2.2.2.2.1 σ.1.2.2.2.2.2.2.1 σ.1.2.2.2.2.2.2.2.1 σ.1.2.2.2.2.2.2.2.2.1 σ.1.2.2.2.2.2.2.2.2.2.1 σ.1.2.2.2.2.2.2.2.2.2.2.1 σ.1.2.2.2.2.2.2.2.2.2.2.2.1 σ.2.1.1 ρ.1 ρ.2.1 _) h)
def jm (n:Nat):List Entry:=⟨70,vd,none,some (csT Ky Jy (fun σ ρ=>ud n σ.1.1 σ.1.2.1 σ.1.2.2.1 σ.1.2.2.2.1 σ.1.2.2.2.2.1 σ.1.2.2.2.2.2.1 σ.1.2.2.2.2.2.2.1 σ.1.2.2.2.2.2.2.2.1 σ.1.2.2.2.2.2.2.2.2.1 σ.1.2.2.2.2.2.2.2.2.2.1 σ.1.2.2.2.2.2.2.2.2.2.2.1 σ.1.2.2.2.2.2.2.2.2.2.2.2.1 σ.2.1.1 ρ.1 ρ.2.1) jp)⟩::nA n
theorem lp (n:Nat):AllOk Tryz.prog gl (jm n):=.cons (RQ n) (oA n)
def Uq (n:Nat) {R:Type} (c c1 c2:Int) (c3:BA) (c4:Bool) (c5:Int) (c6:BA) (c7:Bool) (c8 c9:BA) (c10:Int) (c11:Bool) (l:U9) (r0:(Sq U0)) (r1:(Sq BA)) (k:(T0×Int×BA×T1×Unit)→Option R):Option R:=if (c5==(4:Int))=true then (Hl n c c1 c2 c3 c4 c5 c6 c7 c8 c9 c10 c11 l r0 r1).bind fun v=>dup 1 (k (v.1,((0:Int),(v.2.1,(((0:Int),((⟨#[]⟩:BA),(false,(((⟨#[]⟩:BA),((⟨#[]⟩:BA),())),((0:Int),()))))),()))))) else if l.2.1=true then dup 1 (k ((c,(c1,(c2,((c3,(c4,())),(c5,(c6,(c7,((c8,(c9,())),(r0,(r1,(c10,(c11,())))))))))))),((500:Int),((⟨#[]⟩:BA),(((0:Int),((⟨#[]⟩:BA),(false,(((⟨#[]⟩:BA),((⟨#[]⟩:BA),())),((0:Int),()))))),()))))) else (TI n l.1).bind fun v1=>if (v1.2.1==(0:Int))=true then (ud n c c1 c2 c3 c4 c5 c6 c7 c8 c9 c10 c11 v1.1 r0 r1).bind fun v2=>dup 1 (k (v2.1,(v2.2.1,(v2.2.2.1,(v1.1,()))))) else if (v1.2.1==(3:Int))=true then dup 1 (k ((c,(c1,(c2,((c3,(c4,())),(c5,(c6,(c7,((c8,(c9,())),(r0,(r1,(c10,(c11,())))))))))))),((500:Int),((⟨#[]⟩:BA),(v1.1,()))))) else dup 1 (k ((c,(c1,(c2,((c3,(c4,())),(c5,(c6,(c7,((c8,(c9,())),(r0,(r1,(c10,(c11,())))))))))))),((501:Int),((⟨#[]⟩:BA),(v1.1,())))))
def wg (n:Nat) (c c1 c2:Int) (c3:BA) (c4:Bool) (c5:Int) (c6:BA) (c7:Bool) (c8 c9:BA) (c10:Int) (c11:Bool) (l:U9) (r0:(Sq U0)) (r1:(Sq BA)):Option (T0×Int×BA×T1×Unit):=Uq n c c1 c2 c3 c4 c5 c6 c7 c8 c9 c10 c11 l r0 r1 some
theorem V6 (n:Nat) {S:Type}:∀ c c1 c2 c3 c4 c5 c6 c7 c8 c9 c10 c11 l r0 r1 (φ:_→Option S),(wg n c c1 c2 c3 c4 c5 c6 c7 c8 c9 c10 c11 l r0 r1).bind φ=Uq n c c1 c2 c3 c4 c5 c6 c7 c8 c9 c10 c11 l r0 r1 φ:=by
  intros;unfold wg Uq;first | (simp only [ja,fa,iB,bB,oL,oX,nB,Option.bind_some]) | rfl
def qA (n:Nat):Hint OutS:={ live:=fun c=>[],run:=fun c=>none,xm:=fun c q=>none,sch:=fun c=>(cond (Nat.beq c 8) (some [(0,1),(2,5),(1,7),(3,6),(4,6),(5,2)]) (cond (Nat.beq c 11) (some [(0,1),(2,5),(1,7),(3,6),(4,6),(5,2)]) (cond (Nat.beq c 13) (some [(1,0),(2,0),(0,1),(4,5),(3,7),(5,6),(6,6),(7,2)]) (cond (Nat.beq c 5) (some [(0,1),(2,5),(1,7),(3,6),(4,6),(5,2)]) (cond (Nat.beq c 3) (some [(1,0),(0,1),(3,5),(2,7),(4,6),(5,6),(6,2)]) none))))),fz:=true }
theorem ET (n:Nat):qa tys (ia OutS (jm n)) (qA n) n (ba Tryz.f37) 0:=na (fun _=>rfl) _ _ (by kernel_rfl)
theorem sX (n:Nat):Enters Tryz.prog 37:=enters_of (c:=ba Tryz.f37) Tryz.func37 (by kernel_rfl) (by kernel_rfl)
def QJ:List RSp:=[.agg [.dat (.int .i64),.dat (.int .i64),.dat (.int .i64),.dat .str,.dat .bool,.dat (.int .i64),.dat .str,.dat .bool,.dat .str,.dat .str,.row 0,.row 1,.dat (.int .i64),.dat .bool],.one (.dat (.pair .str (.pair .bool .unit)))]
def PJ:List RS:=[.row 25 2 (.pair .str (.pair .str .unit)) true true,.row 9 1 .str true true]
def tX:List Sl:=[.top,.top]
def uX:List RSp:=[.one (.dat K0),.one (.dat (.int .i64)),.one (.dat .str),.one (.dat K2)]
def Wk:List RS:=[]
def pA (y:(T0×Int×BA×T1×Unit)):OutS:=⟨false,km (cc Wk ()) tX (),OC (Vz (cc Wk ()) uX ((y.1,()),((y.2.1,()),((y.2.2.1,()),((y.2.2.2.1,()),()))))),ir (cc Wk ()) Wk ()⟩
theorem F1 (n:Nat):EntryOk Tryz.prog gl ⟨37,vd,none,some (csT QJ PJ (fun σ ρ=>wg n σ.1.1 σ.1.2.1 σ.1.2.2.1 σ.1.2.2.2.1 σ.1.2.2.2.2.1 σ.1.2.2.2.2.2.1 σ.1.2.2.2.2.2.2.1 σ.1.2.2.2.2.2.2.2.1 σ.1.2.2.2.2.2.2.2.2.1 σ.1.2.2.2.2.2.2.2.2.2.1 σ.1.2.2.2.2.2.2.2.2.2.2.1 σ.1.2.2.2.2.2.2.2.2.2.2.2.1 σ.2.1.1 ρ.1 ρ.2.1) pA)⟩:=pd (sX n) fun σ ρ y h=>Ta tys_ok (lp n) mixed (hint:=qA n) (n:=n) Tryz.func37 (ya (ET n)) (la (φ:=fun y=>some (pA y)) (by kernel_rfl) (V6 n σ.1.1 σ.1.2.1 σ.1.2.2.1 σ.1.2.2.2.1 σ.1.2.2.2.2.1 σ.1.2.2.2.2.2.1 σ.1.2.2.2.2.2.2.1 σ.1.2.2.2.2.2.2.2.1 σ.1.2.2.2.2.2.2.2.2.1 σ.1.2.2.2.2.2.2.2.2.2.1 σ.1.2.2.2.2.2.2.2.2.2.2.1 σ.1.2.2.2.2.2.2.2.2.2.2.2.1 σ.2.1.1 ρ.1 ρ.2.1 _) h)
def Qw (n:Nat):List Entry:=⟨37,vd,none,some (csT QJ PJ (fun σ ρ=>wg n σ.1.1 σ.1.2.1 σ.1.2.2.1 σ.1.2.2.2.1 σ.1.2.2.2.2.1 σ.1.2.2.2.2.2.1 σ.1.2.2.2.2.2.2.1 σ.1.2.2.2.2.2.2.2.1 σ.1.2.2.2.2.2.2.2.2.1 σ.1.2.2.2.2.2.2.2.2.2.1 σ.1.2.2.2.2.2.2.2.2.2.2.1 σ.1.2.2.2.2.2.2.2.2.2.2.2.1 σ.2.1.1 ρ.1 ρ.2.1) pA)⟩::jm n
theorem Gy (n:Nat):AllOk Tryz.prog gl (Qw n):=.cons (F1 n) (lp n)
def DS (n:Nat) {R:Type} (c:T0) (l:U9) (k:(T0×Int×BA×Int×Unit)→Option R):Option R:=(QQ n c).bind fun v=>if (!v)=true then k (((0:Int),((0:Int),((0:Int),(((⟨#[]⟩:BA),(false,())),((0:Int),((⟨#[]⟩:BA),(false,(((⟨#[]⟩:BA),((⟨#[]⟩:BA),())),((⟨0,fun _=>ta (.pair .str (.pair .str .unit))⟩:Sq U0),((⟨0,fun _=>ta .str⟩:Sq BA),((0:Int),(false,())))))))))))),((0:Int),((⟨#[]⟩:BA),((1:Int),())))) else if (c.2.2.2.2.1==(5:Int))=true then k (((0:Int),((0:Int),((0:Int),(((⟨#[]⟩:BA),(false,())),((0:Int),((⟨#[]⟩:BA),(false,(((⟨#[]⟩:BA),((⟨#[]⟩:BA),())),((⟨0,fun _=>ta (.pair .str (.pair .str .unit))⟩:Sq U0),((⟨0,fun _=>ta .str⟩:Sq BA),((0:Int),(false,())))))))))))),((0:Int),((⟨#[]⟩:BA),((6:Int),())))) else dup 1 ((nh n c).bind fun v1=>(wg n v1.1 v1.2.1 v1.2.2.1 v1.2.2.2.1 v1.2.2.2.2.1 v1.2.2.2.2.2.1 v1.2.2.2.2.2.2.1 v1.2.2.2.2.2.2.2.1 v1.2.2.2.2.2.2.2.2.1 v1.2.2.2.2.2.2.2.2.2.1 v1.2.2.2.2.2.2.2.2.2.2.1 v1.2.2.2.2.2.2.2.2.2.2.2.1 l v1.2.2.2.2.2.2.2.2.2.2.2.2.1 v1.2.2.2.2.2.2.2.2.2.2.2.2.2.1).bind fun v2=>(nh n v2.1).bind fun v3=>k ((v3.1,(v3.2.1,(v3.2.2.1,((v3.2.2.2.1,(v3.2.2.2.2.1,())),(v3.2.2.2.2.2.1,(v3.2.2.2.2.2.2.1,(v3.2.2.2.2.2.2.2.1,((v3.2.2.2.2.2.2.2.2.1,(v3.2.2.2.2.2.2.2.2.2.1,())),(v3.2.2.2.2.2.2.2.2.2.2.2.2.1,(v3.2.2.2.2.2.2.2.2.2.2.2.2.2.1,(v3.2.2.2.2.2.2.2.2.2.2.1,(v3.2.2.2.2.2.2.2.2.2.2.2.1,())))))))))))),(v2.2.1,(v2.2.2.1,((0:Int),())))))
def FT (n:Nat) (c:T0) (l:U9):Option (T0×Int×BA×Int×Unit):=DS n c l some
theorem Tjb (n:Nat) {S:Type}:∀ c l (φ:_→Option S),(FT n c l).bind φ=DS n c l φ:=by
  intros;unfold FT DS;first | (simp only [ja,fa,iB,bB,oL,oX,nB,Option.bind_some]) | rfl
def HT (n:Nat):Hint Out:={ live:=fun c=>[],run:=fun c=>none,xm:=fun c q=>none,sch:=fun c=>(cond (Nat.beq c 5) (some [(0,1),(1,5),(2,7),(3,2),(4,6),(5,6),(6,6),(7,6),(8,6),(9,2),(10,6),(11,6)]) none) }
theorem kbb (n:Nat):qa tys (ia Out (Qw n)) (HT n) n (ba Tryz.f17) 0:=na (fun _=>rfl) _ _ (by kernel_rfl)
theorem dfb (n:Nat):Enters Tryz.prog 17:=enters_of (c:=ba Tryz.f17) Tryz.func17 (by kernel_rfl) (by kernel_rfl)
def W6 (n:Nat):Entry:=⟨17,pcT K16 (.many K15) (fun xs=>FT n xs.1 xs.2.1),none,none⟩
theorem ghb (n:Nat):EntryOk Tryz.prog gl (W6 n):=wa (dfb n) fun xs y h=>ma tys_ok (Gy n) mixed (hint:=HT n) (n:=n) Tryz.func17 (ya (kbb n)) (la (φ:=(fun y=>some (Out.ret (Ya (.many K15) y)))) (by kernel_rfl) (Tjb n xs.1 xs.2.1 _) h)
def GT (n:Nat):List Entry:=W6 n::Qw n
theorem NP (n:Nat):AllOk Tryz.prog gl (GT n):=.cons (ghb n) (Gy n)
def T5 (n:Nat) {R:Type} (e:Int) (k:Int→Option R):Option R:=k e
def mh (n:Nat) (e:Int):Option Int:=T5 n e some
theorem olb (n:Nat) {S:Type}:∀ e (φ:_→Option S),(mh n e).bind φ=T5 n e φ:=by
  intros;unfold mh T5;first | (simp only [ja,fa,iB,bB,oL,oX,nB,Option.bind_some]) | rfl
def UW (n:Nat):Hint Out:={ live:=fun c=>[],run:=fun c=>none,xm:=fun c q=>none }
theorem ndb (n:Nat):qa tys (ia Out (GT n)) (UW n) n (ba Tryz.f18) 0:=na (fun _=>rfl) _ _ (by kernel_rfl)
theorem Lgb (n:Nat):Enters Tryz.prog 18:=enters_of (c:=ba Tryz.f18) Tryz.func18 (by kernel_rfl) (by kernel_rfl)
def Bab (n:Nat):Entry:=⟨18,pcT (.pair (.int .i64) .unit) (.one (.int .i64)) (fun xs=>mh n xs.1),none,none⟩
theorem vjb (n:Nat):EntryOk Tryz.prog gl (Bab n):=wa (Lgb n) fun xs y h=>ma tys_ok (NP n) mixed (hint:=UW n) (n:=n) Tryz.func18 (ya (ndb n)) (la (φ:=(fun y=>some (Out.ret (Ya (.one (.int .i64)) y)))) (by kernel_rfl) (olb n xs.1 _) h)
def kD (n:Nat):List Entry:=Bab n::GT n
theorem KQ (n:Nat):AllOk Tryz.prog gl (kD n):=.cons (vjb n) (NP n)
def yg (n:Nat) {R:Type} (a1 b1:(Sq U0)) (i:Int) (kn:(Sq U0)→(Sq U0)→Int→Option R) (ko:(Unit)→Option R) (kr:(Bool)→Option R) (kp:Int→Option R):Option R:=if (decide (i<(a1.n:Int)))=true then if 0≤i∧i<(a1.n:Int) then if 0≤i∧i<(b1.n:Int) then if (!(((((a1.at' (Int.toNat i))).1).toList==(((b1.at' (Int.toNat i))).1).toList)&&((((((a1.at' (Int.toNat i))).2).1).toList==((((b1.at' (Int.toNat i))).2).1).toList)&&true)))=true then kr false else kn a1 b1 (IntKind.wrap .i64 (i+(1:Int))) else none else none else ko ()
def rb (n:Nat):Nat→(Sq U0)→(Sq U0)→Int→Option (Lx (Unit) (Bool))
 | 0,_,_,_=>none
 | m+1,a1,b1,i=>yg n a1 b1 i (rb n m) (fun a=>some (.out a)) (fun a=>some (.ret a)) (fun p=>some (.pan p))
theorem aH (n m:Nat) {S:Type}:∀ a1 b1 i (φ:_→Option S),(rb n (m+1) a1 b1 i).bind φ=yg n a1 b1 i (fun a1 b1 i=>(rb n m a1 b1 i).bind φ) (fun a=>φ (.out a)) (fun a=>φ (.ret a)) (fun p=>φ (.pan p)):=by
  intros;first | (simp only [rb,yg,ja,fa,iB,bB,oL,oX,nB,Option.bind_some]) | rfl
def Ug:List Sl:=.dat (.sl (.pair .str (.pair .str .unit)))::.dat (.sl (.pair .str (.pair .str .unit)))::.top::.top::.top::.dat (.int .i64)::tp 20 []
def Tg:List RS:=[]
def Ev:List Sl:=tp 26 []
def Dv:List RS:=[]
def Gv:List Sl:=tp 4 (.dat .bool::tp 21 [])
def Fv:List RS:=[]
def mb (K:XE→List AV→oa→Option Out):Lx (Unit) (Bool)→Option Out:=fun x=>onL x (fun a=>yb Ev Dv () () (K (.exit 0))) (fun a=>yb Gv Fv (a,()) () (K .ret)) (fun _=>none)
def tm (n:Nat) {R:Type} (a b:(Sq U0)) (k:Bool→Option R):Option R:=if ((a.n:Int) !=(b.n:Int))=true then k false else (rb n n a b (0:Int)).bind fun x_1=>onL x_1 (fun a_2=>k true) (fun a_3=>k a_3) (fun _=>none)
def cl (n:Nat) (a b:(Sq U0)):Option Bool:=tm n a b some
theorem iR (n:Nat) {S:Type}:∀ a b (φ:_→Option S),(cl n a b).bind φ=tm n a b φ:=by
  intros;unfold cl tm;first | (simp only [ja,fa,iB,bB,oL,oX,nB,Option.bind_some]) | rfl
def Ge (n:Nat):Hint Out:={ live:=fun c=>(cond (Nat.beq c 0) [(0,some (.sl (.pair .str (.pair .str .unit)))),(1,some (.sl (.pair .str (.pair .str .unit)))),(5,none)] []),run:=fun c=>(cond (Nat.beq c 0) (some (ef Ug Tg fun σ ρ K=>(rb n n σ.1 σ.2.1 σ.2.2.1).bind (mb K))) none),xm:=fun c q=>(cond (Nat.beq c 0&&Nat.beq (q.getD 1000000) 0&&q.isSome) (some []) (cond (Nat.beq c 1&&q.isNone) (some [(4,none)]) none)) }
def Fe (n:Nat) (K:XE→List AV→oa→Option Out) (m:Nat) (a1:(Sq U0)) (b1:(Sq U0)) (i:Int):Option Out:=Kb tys (ia Out (kD n)) (Ge n) n (ra [1,1,0,1,0,0] (ba Tryz.f39)) 0 Ug Tg K m (a1,(b1,(i,()))) ()
theorem Mp (n:Nat) (K:XE→List AV→oa→Option Out):∀ (m:Nat) a1 b1 i,Fe n K m a1 b1 i=(rb n m a1 b1 i).bind (mb K)
  | 0,_,_,_=>by kernel_rfl
  | m+1,a1,b1,i=>by
    have h1:Fe n K (m+1) a1 b1 i=yg n a1 b1 i (Fe n K m) (fun a=>mb K (.out a)) (fun a=>mb K (.ret a)) (fun p=>mb K (.pan p)):=by kernel_rfl
    have h2:Fe n K m=fun a1 b1 i=>(rb n m a1 b1 i).bind (mb K):=by
      repeat (refine funext fun _=>?_)
      exact Mp n K m _ _ _
    rw [h1,h2];exact (aH n m _ _ _ (mb K)).symm
theorem FE (n:Nat):ub tys (ia Out (kD n)) (Ge n) n (ra [1,1,0,1,0,0] (ba Tryz.f39)) 0:=Aa (sp:=Ug) (rp:=Tg) (by kernel_rfl) fun K σ ρ=>Mp n K n σ.1 σ.2.1 σ.2.2.1
theorem bH (n:Nat):qa tys (ia Out (kD n)) (Ge n) n (ba Tryz.f39) 0:=⟨aa,⟨⟨aa,⟨⟨aa,aa⟩,aa⟩⟩,⟨⟨aa,⟨FE n,⟨⟨aa,⟨aa,aa⟩⟩,⟨⟨aa,⟨⟨aa,aa⟩,aa⟩⟩,aa⟩⟩⟩⟩,⟨aa,aa⟩⟩⟩⟩
theorem BK (n:Nat):Enters Tryz.prog 39:=enters_of (c:=ba Tryz.f39) Tryz.func39 (by kernel_rfl) (by kernel_rfl)
def Hv (n:Nat):Entry:=⟨39,pcT K17 (.one .bool) (fun xs=>cl n xs.1 xs.2.1),none,none⟩
theorem UN (n:Nat):EntryOk Tryz.prog gl (Hv n):=wa (BK n) fun xs y h=>ma tys_ok (KQ n) mixed (hint:=Ge n) (n:=n) Tryz.func39 (ya (bH n)) (la (φ:=(fun y=>some (Out.ret (Ya (.one .bool) y)))) (by kernel_rfl) (iR n xs.1 xs.2.1 _) h)
def ee (n:Nat):List Entry:=Hv n::kD n
theorem Pm (n:Nat):AllOk Tryz.prog gl (ee n):=.cons (UN n) (KQ n)
def Ji (n:Nat) {R:Type} (a1 b1:(Sq BA)) (i:Int) (kn:(Sq BA)→(Sq BA)→Int→Option R) (ko:(Unit)→Option R) (kr:(Bool)→Option R) (kp:Int→Option R):Option R:=if (decide (i<(a1.n:Int)))=true then if 0≤i∧i<(a1.n:Int) then if 0≤i∧i<(b1.n:Int) then if (!((a1.at' (Int.toNat i)).toList==(b1.at' (Int.toNat i)).toList))=true then kr false else kn a1 b1 (IntKind.wrap .i64 (i+(1:Int))) else none else none else ko ()
def ec (n:Nat):Nat→(Sq BA)→(Sq BA)→Int→Option (Lx (Unit) (Bool))
 | 0,_,_,_=>none
 | m+1,a1,b1,i=>Ji n a1 b1 i (ec n m) (fun a=>some (.out a)) (fun a=>some (.ret a)) (fun p=>some (.pan p))
theorem VN (n m:Nat) {S:Type}:∀ a1 b1 i (φ:_→Option S),(ec n (m+1) a1 b1 i).bind φ=Ji n a1 b1 i (fun a1 b1 i=>(ec n m a1 b1 i).bind φ) (fun a=>φ (.out a)) (fun a=>φ (.ret a)) (fun p=>φ (.pan p)):=by
  intros;first | (simp only [ec,Ji,ja,fa,iB,bB,oL,oX,nB,Option.bind_some]) | rfl
def Li:List Sl:=.dat (.sl .str)::.dat (.sl .str)::.top::.top::.top::.dat (.int .i64)::tp 20 []
def Ki:List RS:=[]
def mz:List Sl:=tp 26 []
def lz:List RS:=[]
def oz:List Sl:=tp 4 (.dat .bool::tp 21 [])
def nz:List RS:=[]
def Ub (K:XE→List AV→oa→Option Out):Lx (Unit) (Bool)→Option Out:=fun x=>onL x (fun a=>yb mz lz () () (K (.exit 0))) (fun a=>yb oz nz (a,()) () (K .ret)) (fun _=>none)
def Mt (n:Nat) {R:Type} (a b:(Sq BA)) (k:Bool→Option R):Option R:=if ((a.n:Int) !=(b.n:Int))=true then k false else (ec n n a b (0:Int)).bind fun x_1=>onL x_1 (fun a_2=>k true) (fun a_3=>k a_3) (fun _=>none)
def tr (n:Nat) (a b:(Sq BA)):Option Bool:=Mt n a b some
theorem XX (n:Nat) {S:Type}:∀ a b (φ:_→Option S),(tr n a b).bind φ=Mt n a b φ:=by
  intros;unfold tr Mt;first | (simp only [ja,fa,iB,bB,oL,oX,nB,Option.bind_some]) | rfl
def Ag (n:Nat):Hint Out:={ live:=fun c=>(cond (Nat.beq c 0) [(0,some (.sl .str)),(1,some (.sl .str)),(5,none)] []),run:=fun c=>(cond (Nat.beq c 0) (some (ef Li Ki fun σ ρ K=>(ec n n σ.1 σ.2.1 σ.2.2.1).bind (Ub K))) none),xm:=fun c q=>(cond (Nat.beq c 0&&Nat.beq (q.getD 1000000) 0&&q.isSome) (some []) (cond (Nat.beq c 1&&q.isNone) (some [(4,none)]) none)) }
def zg (n:Nat) (K:XE→List AV→oa→Option Out) (m:Nat) (a1:(Sq BA)) (b1:(Sq BA)) (i:Int):Option Out:=Kb tys (ia Out (ee n)) (Ag n) n (ra [1,1,0,1,0,0] (ba Tryz.f40)) 0 Li Ki K m (a1,(b1,(i,()))) ()
theorem Iv (n:Nat) (K:XE→List AV→oa→Option Out):∀ (m:Nat) a1 b1 i,zg n K m a1 b1 i=(ec n m a1 b1 i).bind (Ub K)
  | 0,_,_,_=>by kernel_rfl
  | m+1,a1,b1,i=>by
    have h1:zg n K (m+1) a1 b1 i=Ji n a1 b1 i (zg n K m) (fun a=>Ub K (.out a)) (fun a=>Ub K (.ret a)) (fun p=>Ub K (.pan p)):=by kernel_rfl
    have h2:zg n K m=fun a1 b1 i=>(ec n m a1 b1 i).bind (Ub K):=by
      repeat (refine funext fun _=>?_)
      exact Iv n K m _ _ _
    rw [h1,h2];exact (VN n m _ _ _ (Ub K)).symm
theorem CK (n:Nat):ub tys (ia Out (ee n)) (Ag n) n (ra [1,1,0,1,0,0] (ba Tryz.f40)) 0:=Aa (sp:=Li) (rp:=Ki) (by kernel_rfl) fun K σ ρ=>Iv n K n σ.1 σ.2.1 σ.2.2.1
theorem WN (n:Nat):qa tys (ia Out (ee n)) (Ag n) n (ba Tryz.f40) 0:=⟨aa,⟨⟨aa,⟨⟨aa,aa⟩,aa⟩⟩,⟨⟨aa,⟨CK n,⟨⟨aa,⟨aa,aa⟩⟩,⟨⟨aa,⟨⟨aa,aa⟩,aa⟩⟩,aa⟩⟩⟩⟩,⟨aa,aa⟩⟩⟩⟩
theorem jR (n:Nat):Enters Tryz.prog 40:=enters_of (c:=ba Tryz.f40) Tryz.func40 (by kernel_rfl) (by kernel_rfl)
def lB (n:Nat):Entry:=⟨40,pcT (.pair (.sl .str) (.pair (.sl .str) .unit)) (.one .bool) (fun xs=>tr n xs.1 xs.2.1),none,none⟩
theorem FU (n:Nat):EntryOk Tryz.prog gl (lB n):=wa (jR n) fun xs y h=>ma tys_ok (Pm n) mixed (hint:=Ag n) (n:=n) Tryz.func40 (ya (WN n)) (la (φ:=(fun y=>some (Out.ret (Ya (.one .bool) y)))) (by kernel_rfl) (XX n xs.1 xs.2.1 _) h)
def Np (n:Nat):List Entry:=lB n::ee n
theorem ur (n:Nat):AllOk Tryz.prog gl (Np n):=.cons (FU n) (Pm n)
def ox (n:Nat) {R:Type} (a b:T0) (k:Bool→Option R):Option R:=if (a.1==b.1)=true then if (a.2.1==b.2.1)=true then if (a.2.2.1==b.2.2.1)=true then if ((a.2.2.2.1.1.toList==b.2.2.2.1.1.toList)&&((a.2.2.2.1.2.1==b.2.2.2.1.2.1)&&true))=true then if (a.2.2.2.2.1==b.2.2.2.2.1)=true then if (a.2.2.2.2.2.1.toList==b.2.2.2.2.2.1.toList)=true then if (a.2.2.2.2.2.2.1==b.2.2.2.2.2.2.1)=true then if ((a.2.2.2.2.2.2.2.1.1.toList==b.2.2.2.2.2.2.2.1.1.toList)&&((a.2.2.2.2.2.2.2.1.2.1.toList==b.2.2.2.2.2.2.2.1.2.1.toList)&&true))=true then (cl n a.2.2.2.2.2.2.2.2.1 b.2.2.2.2.2.2.2.2.1).bind fun v=>if v=true then (tr n a.2.2.2.2.2.2.2.2.2.1 b.2.2.2.2.2.2.2.2.2.1).bind fun v1=>if v1=true then if (a.2.2.2.2.2.2.2.2.2.2.1==b.2.2.2.2.2.2.2.2.2.2.1)=true then k (a.2.2.2.2.2.2.2.2.2.2.2.1==b.2.2.2.2.2.2.2.2.2.2.2.1) else k false else k false else k false else k false else k false else k false else k false else k false else k false else k false else k false
def za (n:Nat) (a b:T0):Option Bool:=ox n a b some
theorem r3 (n:Nat) {S:Type}:∀ a b (φ:_→Option S),(za n a b).bind φ=ox n a b φ:=by
  intros;unfold za ox;first | (simp only [ja,fa,iB,bB,oL,oX,nB,Option.bind_some]) | rfl
def Qy (n:Nat):Hint Out:={ live:=fun c=>[],run:=fun c=>none,xm:=fun c q=>none }
theorem gR (n:Nat):qa tys (ia Out (Np n)) (Qy n) n (ba Tryz.f19) 0:=na (fun _=>rfl) _ _ (by kernel_rfl)
theorem EU (n:Nat):Enters Tryz.prog 19:=enters_of (c:=ba Tryz.f19) Tryz.func19 (by kernel_rfl) (by kernel_rfl)
def DF (n:Nat):Entry:=⟨19,pcT K18 (.one .bool) (fun xs=>za n xs.1 xs.2.1),none,none⟩
theorem WX (n:Nat):EntryOk Tryz.prog gl (DF n):=wa (EU n) fun xs y h=>ma tys_ok (ur n) mixed (hint:=Qy n) (n:=n) Tryz.func19 (ya (gR n)) (la (φ:=(fun y=>some (Out.ret (Ya (.one .bool) y)))) (by kernel_rfl) (r3 n xs.1 xs.2.1 _) h)
def Lt (n:Nat):List Entry:=DF n::Np n
theorem Cv (n:Nat):AllOk Tryz.prog gl (Lt n):=.cons (WX n) (ur n)
def ES (n:Nat) {R:Type} (id tenant ip:Int) (k:(T0×Int×Unit)→Option R):Option R:=(QQ n (id,(tenant,(ip,(((⟨#[]⟩:BA),(false,())),((0:Int),((⟨#[]⟩:BA),(false,(((⟨#[]⟩:BA),((⟨#[]⟩:BA),())),((⟨0,fun _=>ta (.pair .str (.pair .str .unit))⟩:Sq U0),((⟨0,fun _=>ta .str⟩:Sq BA),((0:Int),(false,()))))))))))))).bind fun v=>if (!v)=true then k (((0:Int),((0:Int),((0:Int),(((⟨#[]⟩:BA),(false,())),((0:Int),((⟨#[]⟩:BA),(false,(((⟨#[]⟩:BA),((⟨#[]⟩:BA),())),((⟨0,fun _=>ta (.pair .str (.pair .str .unit))⟩:Sq U0),((⟨0,fun _=>ta .str⟩:Sq BA),((0:Int),(false,())))))))))))),((1:Int),())) else k ((id,(tenant,(ip,(((⟨#[]⟩:BA),(false,())),((0:Int),((⟨#[]⟩:BA),(false,(((⟨#[]⟩:BA),((⟨#[]⟩:BA),())),((⟨0,fun _=>ta (.pair .str (.pair .str .unit))⟩:Sq U0),((⟨0,fun _=>ta .str⟩:Sq BA),((0:Int),(false,())))))))))))),((0:Int),()))
def lZ (n:Nat) (id tenant ip:Int):Option (T0×Int×Unit):=ES n id tenant ip some
theorem Vjb (n:Nat) {S:Type}:∀ id tenant ip (φ:_→Option S),(lZ n id tenant ip).bind φ=ES n id tenant ip φ:=by
  intros;unfold lZ ES;first | (simp only [ja,fa,iB,bB,oL,oX,nB,Option.bind_some]) | rfl
def KT (n:Nat):Hint Out:={ live:=fun c=>[],run:=fun c=>none,xm:=fun c q=>none }
theorem nbb (n:Nat):qa tys (ia Out (Lt n)) (KT n) n (ba Tryz.f41) 0:=na (fun _=>rfl) _ _ (by kernel_rfl)
theorem ffb (n:Nat):Enters Tryz.prog 41:=enters_of (c:=ba Tryz.f41) Tryz.func41 (by kernel_rfl) (by kernel_rfl)
def X6 (n:Nat):Entry:=⟨41,pcT (.pair (.int .i64) (.pair (.int .i64) (.pair (.int .i64) .unit))) (.many K19) (fun xs=>lZ n xs.1 xs.2.1 xs.2.2.1),none,none⟩
theorem jhb (n:Nat):EntryOk Tryz.prog gl (X6 n):=wa (ffb n) fun xs y h=>ma tys_ok (Cv n) mixed (hint:=KT n) (n:=n) Tryz.func41 (ya (nbb n)) (la (φ:=(fun y=>some (Out.ret (Ya (.many K19) y)))) (by kernel_rfl) (Vjb n xs.1 xs.2.1 xs.2.2.1 _) h)
def JT (n:Nat):List Entry:=X6 n::Lt n
theorem PP (n:Nat):AllOk Tryz.prog gl (JT n):=.cons (jhb n) (Cv n)
def pE (n:Nat) {R:Type} (k:Bool→Option R):Option R:=(lZ n (1:Int) (0:Int) (5:Int)).bind fun v=>(FT n v.1 ((⟨#[69,72,76,79,32,120]⟩:BA),(false,()))).bind fun v1=>(mh n v.2.1).bind fun v2=>if (v2==(0:Int))=true then (mh n v1.2.2.2.1).bind fun v3=>if (v3==(0:Int))=true then if (v1.2.1==(250:Int))=true then if (v1.2.2.1.toList==(⟨#[]⟩:BA).toList)=true then if (v1.1.2.2.2.2.1==(1:Int))=true then k (v1.1.2.2.2.2.2.1.toList==(⟨#[120]⟩:BA).toList) else k false else k false else k false else k false else k false
def Mo (n:Nat):Option Bool:=pE n some
theorem Mgb (n:Nat) {S:Type}:∀ (φ:_→Option S),(Mo n).bind φ=pE n φ:=by
  intros;unfold Mo pE;first | (simp only [ja,fa,iB,bB,oL,oX,nB,Option.bind_some]) | rfl
def iN (n:Nat):Hint Out:={ live:=fun c=>[],run:=fun c=>none,xm:=fun c q=>none }
theorem X5 (n:Nat):qa tys (ia Out (JT n)) (iN n) n (ba Tryz.f20) 0:=na (fun _=>rfl) _ _ (by kernel_rfl)
theorem Fab (n:Nat):Enters Tryz.prog 20:=enters_of (c:=ba Tryz.f20) Tryz.func20 (by kernel_rfl) (by kernel_rfl)
def XW (n:Nat):Entry:=⟨20,pcT .unit (.one .bool) (fun xs=>Mo n),none,none⟩
theorem qdb (n:Nat):EntryOk Tryz.prog gl (XW n):=wa (Fab n) fun xs y h=>ma tys_ok (PP n) mixed (hint:=iN n) (n:=n) Tryz.func20 (ya (X5 n)) (la (φ:=(fun y=>some (Out.ret (Ya (.one .bool) y)))) (by kernel_rfl) (Mgb n  _) h)
def Mq (n:Nat):List Entry:=XW n::JT n
theorem yG (n:Nat):AllOk Tryz.prog gl (Mq n):=.cons (qdb n) (PP n)
def jd (n:Nat) {R:Type} (l1:(Sq U0)) (i:Int) (m0:(Sq U0)) (kn:(Sq U0)→Int→(Sq U0)→Option R) (ko:((Sq U0))→Option R) (kr:Unit→Option R) (kp:Int→Option R):Option R:=if (decide (i<(l1.n:Int)))=true then if 0≤i∧i<(l1.n:Int) then if ib (m0.n+1) 32=true then kn l1 (IntKind.wrap .i64 (i+(1:Int))) (⟨(m0.n+1),fun q=>if q<m0.n then m0.at' q else (fun q=>List.getD (α:=U0) [(((l1.at' (Int.toNat i))).1,((((l1.at' (Int.toNat i))).2).1,()))] q (ta (.pair .str (.pair .str .unit)))) (q - m0.n)⟩:Sq U0) else none else none else ko m0
def Ma (n:Nat):Nat→(Sq U0)→Int→(Sq U0)→Option (Lx ((Sq U0)) Unit)
 | 0,_,_,_=>none
 | m+1,l1,i,m0=>jd n l1 i m0 (Ma n m) (fun a=>some (.out a)) (fun a=>some (.ret a)) (fun p=>some (.pan p))
theorem zv (n m:Nat) {S:Type}:∀ l1 i m0 (φ:_→Option S),(Ma n (m+1) l1 i m0).bind φ=jd n l1 i m0 (fun l1 i m0=>(Ma n m l1 i m0).bind φ) (fun a=>φ (.out a)) (fun a=>φ (.ret a)) (fun p=>φ (.pan p)):=by
  intros;first | (simp only [Ma,jd,ja,fa,iB,bB,oL,oX,nB,Option.bind_some]) | rfl
def Md:List Sl:=.dat (.sl (.pair .str (.pair .str .unit)))::.top::.top::.row 0::.dat (.int .i64)::tp 14 []
def Ld:List RS:=[.row 25 2 (.pair .str (.pair .str .unit)) true false,.ghost [.top]]
def qm:List Sl:=.top::.top::.top::.row 0::tp 15 []
def om:List RS:=[.row 25 2 (.pair .str (.pair .str .unit)) true false,.ghost [.top]]
def Oa (K:XE→List AV→oa→Option OutS):Lx ((Sq U0)) Unit→Option OutS:=fun x=>onL x (fun a=>yb qm om () (a,((),())) (K (.exit 0))) (fun _=>none) (fun _=>none)
def Pf (n:Nat) {R:Type} (l:(Sq U0)) (k:((Sq U0)×Unit)→Option R):Option R:=(Ma n n l (0:Int) (⟨0,fun _=>ta (.pair .str (.pair .str .unit))⟩:Sq U0)).bind fun x_1=>onL x_1 (fun a_2=>k (a_2,())) (fun _=>none) (fun _=>none)
def Tb (n:Nat) (l:(Sq U0)):Option ((Sq U0)×Unit):=Pf n l some
theorem dB (n:Nat) {S:Type}:∀ l (φ:_→Option S),(Tb n l).bind φ=Pf n l φ:=by
  intros;unfold Tb Pf;first | (simp only [ja,fa,iB,bB,oL,oX,nB,Option.bind_some]) | rfl
def tc (n:Nat):Hint OutS:={ live:=fun c=>(cond (Nat.beq c 0) [(0,some (.sl (.pair .str (.pair .str .unit)))),(3,some (.sl (.pair .str (.pair .str .unit)))),(4,none)] []),run:=fun c=>(cond (Nat.beq c 0) (some (ef Md Ld fun σ ρ K=>(Ma n n σ.1 σ.2.1 ρ.1).bind (Oa K))) none),xm:=fun c q=>(cond (Nat.beq c 0&&Nat.beq (q.getD 1000000) 0&&q.isSome) (some [(3,some (.sl (.pair .str (.pair .str .unit))))]) none) }
def rc (n:Nat) (K:XE→List AV→oa→Option OutS) (m:Nat) (l1:(Sq U0)) (i:Int) (m0:(Sq U0)):Option OutS:=Kb tys (ia OutS (Mq n)) (tc n) n (ra [1,1,0,1,0,0] (ba Tryz.f42)) 0 Md Ld K m (l1,(i,())) (m0,((),()))
theorem mi (n:Nat) (K:XE→List AV→oa→Option OutS):∀ (m:Nat) l1 i m0,rc n K m l1 i m0=(Ma n m l1 i m0).bind (Oa K)
  | 0,_,_,_=>by kernel_rfl
  | m+1,l1,i,m0=>by
    have h1:rc n K (m+1) l1 i m0=jd n l1 i m0 (rc n K m) (fun a=>Oa K (.out a)) (fun a=>Oa K (.ret a)) (fun p=>Oa K (.pan p)):=by kernel_rfl
    have h2:rc n K m=fun l1 i m0=>(Ma n m l1 i m0).bind (Oa K):=by
      repeat (refine funext fun _=>?_)
      exact mi n K m _ _ _
    rw [h1,h2];exact (zv n m _ _ _ (Oa K)).symm
theorem Kt (n:Nat):ub tys (ia OutS (Mq n)) (tc n) n (ra [1,1,0,1,0,0] (ba Tryz.f42)) 0:=Aa (sp:=Md) (rp:=Ld) (by kernel_rfl) fun K σ ρ=>mi n K n σ.1 σ.2.1 ρ.1
theorem Av (n:Nat):qa tys (ia OutS (Mq n)) (tc n) n (ba Tryz.f42) 0:=⟨aa,⟨aa,⟨⟨aa,⟨Kt n,⟨⟨aa,⟨aa,aa⟩⟩,⟨aa,aa⟩⟩⟩⟩,⟨aa,aa⟩⟩⟩⟩
theorem jx (n:Nat):Enters Tryz.prog 42:=enters_of (c:=ba Tryz.f42) Tryz.func42 (by kernel_rfl) (by kernel_rfl)
def Jj:List RSp:=[.one (.dat (.sl (.pair .str (.pair .str .unit))))]
def Ij:List RS:=[]
def kx:List Sl:=[.top]
def lx:List RSp:=[.one (.row 0)]
def Ic:List RS:=[.row 25 2 (.pair .str (.pair .str .unit)) true false]
def Qf (y:((Sq U0)×Unit)):OutS:=⟨false,km (cc Ic (y.1,())) kx (),OC (Vz (cc Ic (y.1,())) lx ((),())),ir (cc Ic (y.1,())) Ic (y.1,())⟩
theorem iz (n:Nat):EntryOk Tryz.prog gl ⟨42,vd,none,some (csT Jj Ij (fun σ ρ=>Tb n σ.1.1) Qf)⟩:=pd (jx n) fun σ ρ y h=>Ta tys_ok (yG n) mixed (hint:=tc n) (n:=n) Tryz.func42 (ya (Av n)) (la (φ:=fun y=>some (Qf y)) (by kernel_rfl) (dB n σ.1.1 _) h)
def Rb (n:Nat):List Entry:=⟨42,vd,none,some (csT Jj Ij (fun σ ρ=>Tb n σ.1.1) Qf)⟩::Mq n
theorem fh (n:Nat):AllOk Tryz.prog gl (Rb n):=.cons (iz n) (yG n)
def Wd (n:Nat) {R:Type} (l1:(Sq BA)) (i:Int) (m0:(Sq BA)) (kn:(Sq BA)→Int→(Sq BA)→Option R) (ko:((Sq BA))→Option R) (kr:Unit→Option R) (kp:Int→Option R):Option R:=if (decide (i<(l1.n:Int)))=true then if 0≤i∧i<(l1.n:Int) then if ib (m0.n+1) 16=true then kn l1 (IntKind.wrap .i64 (i+(1:Int))) (⟨(m0.n+1),fun q=>if q<m0.n then m0.at' q else (fun q=>List.getD (α:=BA) [(l1.at' (Int.toNat i))] q (ta .str)) (q - m0.n)⟩:Sq BA) else none else none else ko m0
def Va (n:Nat):Nat→(Sq BA)→Int→(Sq BA)→Option (Lx ((Sq BA)) Unit)
 | 0,_,_,_=>none
 | m+1,l1,i,m0=>Wd n l1 i m0 (Va n m) (fun a=>some (.out a)) (fun a=>some (.ret a)) (fun p=>some (.pan p))
theorem jz (n m:Nat) {S:Type}:∀ l1 i m0 (φ:_→Option S),(Va n (m+1) l1 i m0).bind φ=Wd n l1 i m0 (fun l1 i m0=>(Va n m l1 i m0).bind φ) (fun a=>φ (.out a)) (fun a=>φ (.ret a)) (fun p=>φ (.pan p)):=by
  intros;first | (simp only [Va,Wd,ja,fa,iB,bB,oL,oX,nB,Option.bind_some]) | rfl
def Ee:List Sl:=.dat (.sl .str)::.top::.top::.row 0::.dat (.int .i64)::tp 14 []
def De:List RS:=[.row 9 1 .str true false,.ghost [.top]]
def Lp:List Sl:=.top::.top::.top::.row 0::tp 15 []
def Kp:List RS:=[.row 9 1 .str true false,.ghost [.top]]
def Wa (K:XE→List AV→oa→Option OutS):Lx ((Sq BA)) Unit→Option OutS:=fun x=>onL x (fun a=>yb Lp Kp () (a,((),())) (K (.exit 0))) (fun _=>none) (fun _=>none)
def Gh (n:Nat) {R:Type} (l:(Sq BA)) (k:((Sq BA)×Unit)→Option R):Option R:=(Va n n l (0:Int) (⟨0,fun _=>ta .str⟩:Sq BA)).bind fun x_1=>onL x_1 (fun a_2=>k (a_2,())) (fun _=>none) (fun _=>none)
def Lc (n:Nat) (l:(Sq BA)):Option ((Sq BA)×Unit):=Gh n l some
theorem ZG (n:Nat) {S:Type}:∀ l (φ:_→Option S),(Lc n l).bind φ=Gh n l φ:=by
  intros;unfold Lc Gh;first | (simp only [ja,fa,iB,bB,oL,oX,nB,Option.bind_some]) | rfl
def nd (n:Nat):Hint OutS:={ live:=fun c=>(cond (Nat.beq c 0) [(0,some (.sl .str)),(3,some (.sl .str)),(4,none)] []),run:=fun c=>(cond (Nat.beq c 0) (some (ef Ee De fun σ ρ K=>(Va n n σ.1 σ.2.1 ρ.1).bind (Wa K))) none),xm:=fun c q=>(cond (Nat.beq c 0&&Nat.beq (q.getD 1000000) 0&&q.isSome) (some [(3,some (.sl .str))]) none) }
def ld (n:Nat) (K:XE→List AV→oa→Option OutS) (m:Nat) (l1:(Sq BA)) (i:Int) (m0:(Sq BA)):Option OutS:=Kb tys (ia OutS (Rb n)) (nd n) n (ra [1,1,0,1,0,0] (ba Tryz.f43)) 0 Ee De K m (l1,(i,())) (m0,((),()))
theorem Kj (n:Nat) (K:XE→List AV→oa→Option OutS):∀ (m:Nat) l1 i m0,ld n K m l1 i m0=(Va n m l1 i m0).bind (Wa K)
  | 0,_,_,_=>by kernel_rfl
  | m+1,l1,i,m0=>by
    have h1:ld n K (m+1) l1 i m0=Wd n l1 i m0 (ld n K m) (fun a=>Wa K (.out a)) (fun a=>Wa K (.ret a)) (fun p=>Wa K (.pan p)):=by kernel_rfl
    have h2:ld n K m=fun l1 i m0=>(Va n m l1 i m0).bind (Wa K):=by
      repeat (refine funext fun _=>?_)
      exact Kj n K m _ _ _
    rw [h1,h2];exact (jz n m _ _ _ (Wa K)).symm
theorem nx (n:Nat):ub tys (ia OutS (Rb n)) (nd n) n (ra [1,1,0,1,0,0] (ba Tryz.f43)) 0:=Aa (sp:=Ee) (rp:=De) (by kernel_rfl) fun K σ ρ=>Kj n K n σ.1 σ.2.1 ρ.1
theorem kz (n:Nat):qa tys (ia OutS (Rb n)) (nd n) n (ba Tryz.f43) 0:=⟨aa,⟨aa,⟨⟨aa,⟨nx n,⟨⟨aa,⟨aa,aa⟩⟩,⟨aa,aa⟩⟩⟩⟩,⟨aa,aa⟩⟩⟩⟩
theorem eB (n:Nat):Enters Tryz.prog 43:=enters_of (c:=ba Tryz.f43) Tryz.func43 (by kernel_rfl) (by kernel_rfl)
def Om:List RSp:=[.one (.dat (.sl .str))]
def Nm:List RS:=[]
def fB:List Sl:=[.top]
def gB:List RSp:=[.one (.row 0)]
def wd:List RS:=[.row 9 1 .str true false]
def Hh (y:((Sq BA)×Unit)):OutS:=⟨false,km (cc wd (y.1,())) fB (),OC (Vz (cc wd (y.1,())) gB ((),())),ir (cc wd (y.1,())) wd (y.1,())⟩
theorem BE (n:Nat):EntryOk Tryz.prog gl ⟨43,vd,none,some (csT Om Nm (fun σ ρ=>Lc n σ.1.1) Hh)⟩:=pd (eB n) fun σ ρ y h=>Ta tys_ok (fh n) mixed (hint:=nd n) (n:=n) Tryz.func43 (ya (kz n)) (la (φ:=fun y=>some (Hh y)) (by kernel_rfl) (ZG n σ.1.1 _) h)
def Sg (n:Nat):List Entry:=⟨43,vd,none,some (csT Om Nm (fun σ ρ=>Lc n σ.1.1) Hh)⟩::Rb n
theorem Fi (n:Nat):AllOk Tryz.prog gl (Sg n):=.cons (BE n) (fh n)
def Gp (n:Nat) {R:Type} (a:T0) (k:T0→Option R):Option R:=(Tb n a.2.2.2.2.2.2.2.2.1).bind fun v=>(Lc n a.2.2.2.2.2.2.2.2.2.1).bind fun v1=>k (a.1,(a.2.1,(a.2.2.1,(a.2.2.2.1,(a.2.2.2.2.1,(a.2.2.2.2.2.1,(a.2.2.2.2.2.2.1,(a.2.2.2.2.2.2.2.1,(v.1,(v1.1,a.2.2.2.2.2.2.2.2.2.2))))))))))
def Ce (n:Nat) (a:T0):Option T0:=Gp n a some
theorem BU (n:Nat) {S:Type}:∀ a (φ:_→Option S),(Ce n a).bind φ=Gp n a φ:=by
  intros;unfold Ce Gp;first | (simp only [ja,fa,iB,bB,oL,oX,nB,Option.bind_some]) | rfl
def sr (n:Nat):Hint Out:={ live:=fun c=>[],run:=fun c=>none,xm:=fun c q=>none }
theorem yK (n:Nat):qa tys (ia Out (Sg n)) (sr n) n (ba Tryz.f23) 0:=na (fun _=>rfl) _ _ (by kernel_rfl)
theorem TN (n:Nat):Enters Tryz.prog 23:=enters_of (c:=ba Tryz.f23) Tryz.func23 (by kernel_rfl) (by kernel_rfl)
def Oy (n:Nat):Entry:=⟨23,pcT K1 (.one K0) (fun xs=>Ce n xs.1),none,none⟩
theorem eR (n:Nat):EntryOk Tryz.prog gl (Oy n):=wa (TN n) fun xs y h=>ma tys_ok (Fi n) mixed (hint:=sr n) (n:=n) Tryz.func23 (ya (yK n)) (la (φ:=(fun y=>some (Out.ret (Ya (.one K0) y)))) (by kernel_rfl) (BU n xs.1 _) h)
def mm (n:Nat):List Entry:=Oy n::Sg n
theorem Hp (n:Nat):AllOk Tryz.prog gl (mm n):=.cons (eR n) (Fi n)
def bJ (n:Nat) {R:Type} (i n0:Int) (k:Int→Option R):Option R:=if (IntKind.wrap .u64 n0)=0 then none else k (IntKind.wrap .i64 (Int.tmod (IntKind.wrap .u64 i) (IntKind.wrap .u64 n0)))
def RM (n:Nat) (i n0:Int):Option Int:=bJ n i n0 some
theorem kdb (n:Nat) {S:Type}:∀ i n0 (φ:_→Option S),(RM n i n0).bind φ=bJ n i n0 φ:=by
  intros;unfold RM bJ;first | (simp only [ja,fa,iB,bB,oL,oX,nB,Option.bind_some]) | rfl
def wG (n:Nat):Hint Out:={ live:=fun c=>[],run:=fun c=>none,xm:=fun c q=>none }
theorem SY (n:Nat):qa tys (ia Out (mm n)) (wG n) n (ba Tryz.f44) 0:=na (fun _=>rfl) _ _ (by kernel_rfl)
theorem O5 (n:Nat):Enters Tryz.prog 44:=enters_of (c:=ba Tryz.f44) Tryz.func44 (by kernel_rfl) (by kernel_rfl)
def JQ (n:Nat):Entry:=⟨44,pcT (.pair (.int .i64) (.pair (.int .i64) .unit)) (.one (.int .i64)) (fun xs=>RM n xs.1 xs.2.1),none,none⟩
theorem yab (n:Nat):EntryOk Tryz.prog gl (JQ n):=wa (O5 n) fun xs y h=>ma tys_ok (Hp n) mixed (hint:=wG n) (n:=n) Tryz.func44 (ya (SY n)) (la (φ:=(fun y=>some (Out.ret (Ya (.one (.int .i64)) y)))) (by kernel_rfl) (kdb n xs.1 xs.2.1 _) h)
def am (n:Nat):List Entry:=JQ n::mm n
theorem eD (n:Nat):AllOk Tryz.prog gl (am n):=.cons (yab n) (Hp n)
def qx (n:Nat) {R:Type} (s1:BA) (low1 i:Int) (kn:BA→Int→Int→Option R) (ko:(Unit)→Option R) (kr:(Bool)→Option R) (kp:Int→Option R):Option R:=if (decide (i<(s1.size:Int)))=true then if 0≤i∧i<(s1.size:Int) then if (decide ((bt s1 i)<low1))=false then if 0≤i∧i<(s1.size:Int) then if (decide ((bt s1 i)>(126:Int)))=true then kr false else kn s1 low1 (IntKind.wrap .i64 (i+(1:Int))) else none else kr false else none else ko ()
def Sf (n:Nat):Nat→BA→Int→Int→Option (Lx (Unit) (Bool))
 | 0,_,_,_=>none
 | m+1,s1,low1,i=>qx n s1 low1 i (Sf n m) (fun a=>some (.out a)) (fun a=>some (.ret a)) (fun p=>some (.pan p))
theorem D3 (n m:Nat) {S:Type}:∀ s1 low1 i (φ:_→Option S),(Sf n (m+1) s1 low1 i).bind φ=qx n s1 low1 i (fun s1 low1 i=>(Sf n m s1 low1 i).bind φ) (fun a=>φ (.out a)) (fun a=>φ (.ret a)) (fun p=>φ (.pan p)):=by
  intros;first | (simp only [Sf,qx,ja,fa,iB,bB,oL,oX,nB,Option.bind_some]) | rfl
def Qt:List Sl:=.dat .str::.dat (.int .u8)::.top::.top::.top::.dat (.int .i64)::tp 17 []
def Pt:List RS:=[]
def LK:List Sl:=tp 23 []
def KK:List RS:=[]
def NK:List Sl:=tp 4 (.dat .bool::tp 18 [])
def MK:List RS:=[]
def Je (K:XE→List AV→oa→Option Out):Lx (Unit) (Bool)→Option Out:=fun x=>onL x (fun a=>yb LK KK () () (K (.exit 0))) (fun a=>yb NK MK (a,()) () (K .ret)) (fun _=>none)
def XN (n:Nat) {R:Type} (s:BA) (low:Int) (k:Bool→Option R):Option R:=(Sf n n s low (0:Int)).bind fun x_1=>onL x_1 (fun a_2=>k true) (fun a_3=>k a_3) (fun _=>none)
def MS (n:Nat) (s:BA) (low:Int):Option Bool:=XN n s low some
theorem Ifb (n:Nat) {S:Type}:∀ s low (φ:_→Option S),(MS n s low).bind φ=XN n s low φ:=by
  intros;unfold MS XN;first | (simp only [ja,fa,iB,bB,oL,oX,nB,Option.bind_some]) | rfl
def Tn (n:Nat):Hint Out:={ live:=fun c=>(cond (Nat.beq c 0) (lv [0,1,5]) []),run:=fun c=>(cond (Nat.beq c 0) (some (ef Qt Pt fun σ ρ K=>(Sf n n σ.1 σ.2.1 σ.2.2.1).bind (Je K))) none),xm:=fun c q=>(cond (Nat.beq c 0&&Nat.beq (q.getD 1000000) 0&&q.isSome) (some []) (cond (Nat.beq c 1&&q.isNone) (some [(4,none)]) none)) }
def Sn (n:Nat) (K:XE→List AV→oa→Option Out) (m:Nat) (s1:BA) (low1:Int) (i:Int):Option Out:=Kb tys (ia Out (am n)) (Tn n) n (ra [1,0,1,0,0] (ba Tryz.f134)) 0 Qt Pt K m (s1,(low1,(i,()))) ()
theorem JK (n:Nat) (K:XE→List AV→oa→Option Out):∀ (m:Nat) s1 low1 i,Sn n K m s1 low1 i=(Sf n m s1 low1 i).bind (Je K)
  | 0,_,_,_=>by kernel_rfl
  | m+1,s1,low1,i=>by
    have h1:Sn n K (m+1) s1 low1 i=qx n s1 low1 i (Sn n K m) (fun a=>Je K (.out a)) (fun a=>Je K (.ret a)) (fun p=>Je K (.pan p)):=by kernel_rfl
    have h2:Sn n K m=fun s1 low1 i=>(Sf n m s1 low1 i).bind (Je K):=by
      repeat (refine funext fun _=>?_)
      exact JK n K m _ _ _
    rw [h1,h2];exact (D3 n m _ _ _ (Je K)).symm
theorem aY (n:Nat):ub tys (ia Out (am n)) (Tn n) n (ra [1,0,1,0,0] (ba Tryz.f134)) 0:=Aa (sp:=Qt) (rp:=Pt) (by kernel_rfl) fun K σ ρ=>JK n K n σ.1 σ.2.1 σ.2.2.1
theorem F3 (n:Nat):qa tys (ia Out (am n)) (Tn n) n (ba Tryz.f134) 0:=⟨aa,⟨⟨aa,⟨aY n,⟨⟨aa,⟨aa,aa⟩⟩,⟨⟨aa,⟨⟨aa,aa⟩,aa⟩⟩,aa⟩⟩⟩⟩,⟨aa,aa⟩⟩⟩
theorem z8 (n:Nat):Enters Tryz.prog 134:=enters_of (c:=ba Tryz.f134) Tryz.func134 (by kernel_rfl) (by kernel_rfl)
def QU (n:Nat):Entry:=⟨134,pcT (.pair .str (.pair (.int .u8) .unit)) (.one .bool) (fun xs=>MS n xs.1 xs.2.1),none,none⟩
theorem dcb (n:Nat):EntryOk Tryz.prog gl (QU n):=wa (z8 n) fun xs y h=>ma tys_ok (eD n) mixed (hint:=Tn n) (n:=n) Tryz.func134 (ya (F3 n)) (la (φ:=(fun y=>some (Out.ret (Ya (.one .bool) y)))) (by kernel_rfl) (Ifb n xs.1 xs.2.1 _) h)
def Pp (n:Nat):List Entry:=QU n::am n
theorem FF (n:Nat):AllOk Tryz.prog gl (Pp n):=.cons (dcb n) (eD n)
def Ox (n:Nat) {R:Type} (l:(Sq BA)) (i:Int) (kn:(Sq BA)→Int→Option R) (ko:(Unit)→Option R) (kr:(Bool)→Option R) (kp:Int→Option R):Option R:=if (decide (i<(l.n:Int)))=true then if 0≤i∧i<(l.n:Int) then if ((l.at' (Int.toNat i)).toList==(⟨#[]⟩:BA).toList)=false then if 0≤i∧i<(l.n:Int) then (MS n (l.at' (Int.toNat i)) (33:Int)).bind fun v1=>if (!v1)=true then kr false else kn l (IntKind.wrap .i64 (i+(1:Int))) else none else kr false else none else ko ()
def fg (n:Nat):Nat→(Sq BA)→Int→Option (Lx (Unit) (Bool))
 | 0,_,_=>none
 | m+1,l,i=>Ox n l i (fg n m) (fun a=>some (.out a)) (fun a=>some (.ret a)) (fun p=>some (.pan p))
theorem R4 (n m:Nat) {S:Type}:∀ l i (φ:_→Option S),(fg n (m+1) l i).bind φ=Ox n l i (fun l i=>(fg n m l i).bind φ) (fun a=>φ (.out a)) (fun a=>φ (.ret a)) (fun p=>φ (.pan p)):=by
  intros;first | (simp only [fg,Ox,ja,fa,iB,bB,oL,oX,nB,Option.bind_some]) | rfl
def Bu:List Sl:=.top::.top::.top::.dat (.sl .str)::.dat (.int .i64)::tp 24 []
def Au:List RS:=[]
def gM:List Sl:=tp 29 []
def fM:List RS:=[]
def jM:List Sl:=.top::.top::.dat .bool::tp 26 []
def iM:List RS:=[]
def Te (K:XE→List AV→oa→Option Out):Lx (Unit) (Bool)→Option Out:=fun x=>onL x (fun a=>yb gM fM () () (K (.exit 0))) (fun a=>yb jM iM (a,()) () (K .ret)) (fun _=>none)
def xO (n:Nat) {R:Type} (s:BA) (k:Bool→Option R):Option R:=if (decide ((s.size:Int)>(64:Int)))=true then k false else (Un n s (32:Int)).bind fun v=>(fg n n v (0:Int)).bind fun x_1=>onL x_1 (fun a_2=>k true) (fun a_3=>k a_3) (fun _=>none)
def dM (n:Nat) (s:BA):Option Bool:=xO n s some
theorem bgb (n:Nat) {S:Type}:∀ s (φ:_→Option S),(dM n s).bind φ=xO n s φ:=by
  intros;unfold dM xO;first | (simp only [ja,fa,iB,bB,oL,oX,nB,Option.bind_some]) | rfl
def Co (n:Nat):Hint Out:={ live:=fun c=>(cond (Nat.beq c 0) [(3,some (.sl .str)),(4,none)] []),run:=fun c=>(cond (Nat.beq c 0) (some (ef Bu Au fun σ ρ K=>(fg n n σ.1 σ.2.1).bind (Te K))) none),xm:=fun c q=>(cond (Nat.beq c 0&&Nat.beq (q.getD 1000000) 0&&q.isSome) (some []) (cond (Nat.beq c 1&&q.isNone) (some [(2,none)]) none)) }
def Bo (n:Nat) (K:XE→List AV→oa→Option Out) (m:Nat) (l:(Sq BA)) (i:Int):Option Out:=Kb tys (ia Out (Pp n)) (Co n) n (ra [1,1,1,0,1,0,0] (ba Tryz.f101)) 0 Bu Au K m (l,(i,())) ()
theorem eM (n:Nat) (K:XE→List AV→oa→Option Out):∀ (m:Nat) l i,Bo n K m l i=(fg n m l i).bind (Te K)
  | 0,_,_=>by kernel_rfl
  | m+1,l,i=>by
    have h1:Bo n K (m+1) l i=Ox n l i (Bo n K m) (fun a=>Te K (.out a)) (fun a=>Te K (.ret a)) (fun p=>Te K (.pan p)):=by kernel_rfl
    have h2:Bo n K m=fun l i=>(fg n m l i).bind (Te K):=by
      repeat (refine funext fun _=>?_)
      exact eM n K m _ _
    rw [h1,h2];exact (R4 n m _ _ (Te K)).symm
theorem CY (n:Nat):ub tys (ia Out (Pp n)) (Co n) n (ra [1,1,1,0,1,0,0] (ba Tryz.f101)) 0:=Aa (sp:=Bu) (rp:=Au) (by kernel_rfl) fun K σ ρ=>eM n K n σ.1 σ.2.1
theorem S4 (n:Nat):qa tys (ia Out (Pp n)) (Co n) n (ba Tryz.f101) 0:=⟨aa,⟨⟨aa,⟨⟨aa,aa⟩,aa⟩⟩,⟨aa,⟨⟨aa,⟨CY n,⟨⟨aa,⟨aa,aa⟩⟩,⟨⟨aa,⟨⟨aa,aa⟩,aa⟩⟩,aa⟩⟩⟩⟩,⟨aa,aa⟩⟩⟩⟩⟩
theorem s9 (n:Nat):Enters Tryz.prog 101:=enters_of (c:=ba Tryz.f101) Tryz.func101 (by kernel_rfl) (by kernel_rfl)
def NV (n:Nat):Entry:=⟨101,pcT (.pair .str .unit) (.one .bool) (fun xs=>dM n xs.1),none,none⟩
theorem Gcb (n:Nat):EntryOk Tryz.prog gl (NV n):=wa (s9 n) fun xs y h=>ma tys_ok (FF n) mixed (hint:=Co n) (n:=n) Tryz.func101 (ya (S4 n)) (la (φ:=(fun y=>some (Out.ret (Ya (.one .bool) y)))) (by kernel_rfl) (bgb n xs.1 _) h)
def BI (n:Nat):List Entry:=NV n::Pp n
theorem iG (n:Nat):AllOk Tryz.prog gl (BI n):=.cons (Gcb n) (FF n)
def DV (n:Nat) {R:Type} (v:T1) (k:Bool→Option R):Option R:=if (v.1==(1:Int))=true then if ((v.1==v.1)&&((v.2.1.toList==v.2.1.toList)&&((v.2.2.1==false)&&(((v.2.2.2.1.1.toList==(⟨#[]⟩:BA).toList)&&((v.2.2.2.1.2.1.toList==(⟨#[]⟩:BA).toList)&&true))&&((v.2.2.2.2.1==(0:Int))&&true)))))=true then (Si n v.2.1).bind fun v1=>k v1 else k false else if (v.1==(2:Int))=true then if ((v.1==v.1)&&((v.2.1.toList==v.2.1.toList)&&((v.2.2.1==false)&&(((v.2.2.2.1.1.toList==(⟨#[]⟩:BA).toList)&&((v.2.2.2.1.2.1.toList==(⟨#[]⟩:BA).toList)&&true))&&((v.2.2.2.2.1==(0:Int))&&true)))))=true then (Si n v.2.1).bind fun v2=>k v2 else k false else if (v.1==(3:Int))=true then BT (BT (if v.2.2.1=true then if ((v.2.2.2.1.1.toList==(⟨#[]⟩:BA).toList)&&((v.2.2.2.1.2.1.toList==(⟨#[]⟩:BA).toList)&&true))=false then if (!v.2.2.1)=true then (vf n (v.2.2.2.1.1,(v.2.2.2.1.2.1,()))).bind fun v3=>if ((v.1==v.1)&&((v.2.1.toList==(⟨#[]⟩:BA).toList)&&((v.2.2.1==v.2.2.1)&&(((v.2.2.2.1.1.toList==v.2.2.2.1.1.toList)&&((v.2.2.2.1.2.1.toList==v.2.2.2.1.2.1.toList)&&true))&&((v.2.2.2.2.1==v.2.2.2.2.1)&&true)))))=true then if v3=true then if (decide (v.2.2.2.2.1≥(-1:Int)))=true then k (decide (v.2.2.2.2.1≤(1073741824:Int))) else k false else k false else k false
 else if ((v.1==v.1)&&((v.2.1.toList==(⟨#[]⟩:BA).toList)&&((v.2.2.1==v.2.2.1)&&(((v.2.2.2.1.1.toList==v.2.2.2.1.1.toList)&&((v.2.2.2.1.2.1.toList==v.2.2.2.1.2.1.toList)&&true))&&((v.2.2.2.2.1==v.2.2.2.2.1)&&true)))))=true then k false else k false else if ((v.1==v.1)&&((v.2.1.toList==(⟨#[]⟩:BA).toList)&&((v.2.2.1==v.2.2.1)&&(((v.2.2.2.1.1.toList==v.2.2.2.1.1.toList)&&((v.2.2.2.1.2.1.toList==v.2.2.2.1.2.1.toList)&&true))&&((v.2.2.2.2.1==v.2.2.2.2.1)&&true)))))=true then if (decide (v.2.2.2.2.1≥(-1:Int)))=true then k (decide (v.2.2.2.2.1≤(1073741824:Int))) else k false else k false else if (!v.2.2.1)=true then (vf n (v.2.2.2.1.1,(v.2.2.2.1.2.1,()))).bind fun v4=>if ((v.1==v.1)&&((v.2.1.toList==(⟨#[]⟩:BA).toList)&&((v.2.2.1==v.2.2.1)&&(((v.2.2.2.1.1.toList==v.2.2.2.1.1.toList)&&((v.2.2.2.1.2.1.toList==v.2.2.2.1.2.1.toList)&&true))&&((v.2.2.2.2.1==v.2.2.2.2.1)&&true)))))=true then if v4=true then if (decide (v.2.2.2.2.1≥(-1:Int)))=true then k (decide (v.2.2.2.2.1≤(1073741824:Int))) else k false else k false else k false else if ((v.1==v.1)&&((v.2.1.toList==(⟨#[]⟩:BA).toList)&&((v.2.2.1==v.2.2.1)&&(((v.2.2.2.1.1.toList==v.2.2.2.1.1.toList)&&((v.2.2.2.1.2.1.toList==v.2.2.2.1.2.1.toList)&&true))&&((v.2.2.2.2.1==v.2.2.2.2.1)&&true)))))=true then k false else k false) (dup 1 (if v.2.2.1=true then if ((v.2.2.2.1.1.toList==(⟨#[]⟩:BA).toList)&&((v.2.2.2.1.2.1.toList==(⟨#[]⟩:BA).toList)&&true))=false then
 if (!v.2.2.1)=true then (vf n (v.2.2.2.1.1,(v.2.2.2.1.2.1,()))).bind fun v5=>if ((v.1==v.1)&&((v.2.1.toList==(⟨#[]⟩:BA).toList)&&((v.2.2.1==v.2.2.1)&&(((v.2.2.2.1.1.toList==v.2.2.2.1.1.toList)&&((v.2.2.2.1.2.1.toList==v.2.2.2.1.2.1.toList)&&true))&&((v.2.2.2.2.1==v.2.2.2.2.1)&&true)))))=true then if v5=true then if (decide (v.2.2.2.2.1≥(-1:Int)))=true then k (decide (v.2.2.2.2.1≤(1073741824:Int))) else k false else k false else k false else if ((v.1==v.1)&&((v.2.1.toList==(⟨#[]⟩:BA).toList)&&((v.2.2.1==v.2.2.1)&&(((v.2.2.2.1.1.toList==v.2.2.2.1.1.toList)&&((v.2.2.2.1.2.1.toList==v.2.2.2.1.2.1.toList)&&true))&&((v.2.2.2.2.1==v.2.2.2.2.1)&&true)))))=true then k false else k false else if ((v.1==v.1)&&((v.2.1.toList==(⟨#[]⟩:BA).toList)&&((v.2.2.1==v.2.2.1)&&(((v.2.2.2.1.1.toList==v.2.2.2.1.1.toList)&&((v.2.2.2.1.2.1.toList==v.2.2.2.1.2.1.toList)&&true))&&((v.2.2.2.2.1==v.2.2.2.2.1)&&true)))))=true then if (decide (v.2.2.2.2.1≥(-1:Int)))=true then k (decide (v.2.2.2.2.1≤(1073741824:Int))) else k false else k false else if (!v.2.2.1)=true then (vf n (v.2.2.2.1.1,(v.2.2.2.1.2.1,()))).bind fun v6=>if ((v.1==v.1)&&((v.2.1.toList==(⟨#[]⟩:BA).toList)&&((v.2.2.1==v.2.2.1)&&(((v.2.2.2.1.1.toList==v.2.2.2.1.1.toList)&&((v.2.2.2.1.2.1.toList==v.2.2.2.1.2.1.toList)&&true))&&((v.2.2.2.2.1==v.2.2.2.2.1)&&true)))))=true then
 if v6=true then if (decide (v.2.2.2.2.1≥(-1:Int)))=true then k (decide (v.2.2.2.2.1≤(1073741824:Int))) else k false else k false else k false else if ((v.1==v.1)&&((v.2.1.toList==(⟨#[]⟩:BA).toList)&&((v.2.2.1==v.2.2.1)&&(((v.2.2.2.1.1.toList==v.2.2.2.1.1.toList)&&((v.2.2.2.1.2.1.toList==v.2.2.2.1.2.1.toList)&&true))&&((v.2.2.2.2.1==v.2.2.2.2.1)&&true)))))=true then k false else k false))) (BT (dup 1 (if v.2.2.1=true then if ((v.2.2.2.1.1.toList==(⟨#[]⟩:BA).toList)&&((v.2.2.2.1.2.1.toList==(⟨#[]⟩:BA).toList)&&true))=false then if (!v.2.2.1)=true then (vf n (v.2.2.2.1.1,(v.2.2.2.1.2.1,()))).bind fun v9=>if ((v.1==v.1)&&((v.2.1.toList==(⟨#[]⟩:BA).toList)&&((v.2.2.1==v.2.2.1)&&(((v.2.2.2.1.1.toList==v.2.2.2.1.1.toList)&&((v.2.2.2.1.2.1.toList==v.2.2.2.1.2.1.toList)&&true))&&((v.2.2.2.2.1==v.2.2.2.2.1)&&true)))))=true then if v9=true then if (decide (v.2.2.2.2.1≥(-1:Int)))=true then k (decide (v.2.2.2.2.1≤(1073741824:Int))) else k false else k false else k false else if ((v.1==v.1)&&((v.2.1.toList==(⟨#[]⟩:BA).toList)&&((v.2.2.1==v.2.2.1)&&(((v.2.2.2.1.1.toList==v.2.2.2.1.1.toList)&&((v.2.2.2.1.2.1.toList==v.2.2.2.1.2.1.toList)&&true))&&((v.2.2.2.2.1==v.2.2.2.2.1)&&true)))))=true then k false else k false else if ((v.1==v.1)&&((v.2.1.toList==(⟨#[]⟩:BA).toList)&&((v.2.2.1==v.2.2.1)&&(((v.2.2.2.1.1.toList==v.2.2.2.1.1.toList)&&((v.2.2.2.1.2.1.toList==v.2.2.2.1.2.1.toList)&&true))&&((v.2.2.2.2.1==v.2.2.2.2.1)&&true)))))=true then
 if (decide (v.2.2.2.2.1≥(-1:Int)))=true then k (decide (v.2.2.2.2.1≤(1073741824:Int))) else k false else k false else if (!v.2.2.1)=true then (vf n (v.2.2.2.1.1,(v.2.2.2.1.2.1,()))).bind fun v10=>if ((v.1==v.1)&&((v.2.1.toList==(⟨#[]⟩:BA).toList)&&((v.2.2.1==v.2.2.1)&&(((v.2.2.2.1.1.toList==v.2.2.2.1.1.toList)&&((v.2.2.2.1.2.1.toList==v.2.2.2.1.2.1.toList)&&true))&&((v.2.2.2.2.1==v.2.2.2.2.1)&&true)))))=true then if v10=true then if (decide (v.2.2.2.2.1≥(-1:Int)))=true then k (decide (v.2.2.2.2.1≤(1073741824:Int))) else k false else k false else k false else if ((v.1==v.1)&&((v.2.1.toList==(⟨#[]⟩:BA).toList)&&((v.2.2.1==v.2.2.1)&&(((v.2.2.2.1.1.toList==v.2.2.2.1.1.toList)&&((v.2.2.2.1.2.1.toList==v.2.2.2.1.2.1.toList)&&true))&&((v.2.2.2.2.1==v.2.2.2.2.1)&&true)))))=true then k false else k false)) (BT (dup 1 (if v.2.2.1=true then if ((v.2.2.2.1.1.toList==(⟨#[]⟩:BA).toList)&&((v.2.2.2.1.2.1.toList==(⟨#[]⟩:BA).toList)&&true))=false then if (!v.2.2.1)=true then (vf n (v.2.2.2.1.1,(v.2.2.2.1.2.1,()))).bind fun v13=>if ((v.1==v.1)&&((v.2.1.toList==(⟨#[]⟩:BA).toList)&&((v.2.2.1==v.2.2.1)&&(((v.2.2.2.1.1.toList==v.2.2.2.1.1.toList)&&((v.2.2.2.1.2.1.toList==v.2.2.2.1.2.1.toList)&&true))&&((v.2.2.2.2.1==v.2.2.2.2.1)&&true)))))=true then if v13=true then if (decide (v.2.2.2.2.1≥(-1:Int)))=true then
 k (decide (v.2.2.2.2.1≤(1073741824:Int))) else k false else k false else k false else if ((v.1==v.1)&&((v.2.1.toList==(⟨#[]⟩:BA).toList)&&((v.2.2.1==v.2.2.1)&&(((v.2.2.2.1.1.toList==v.2.2.2.1.1.toList)&&((v.2.2.2.1.2.1.toList==v.2.2.2.1.2.1.toList)&&true))&&((v.2.2.2.2.1==v.2.2.2.2.1)&&true)))))=true then k false else k false else if ((v.1==v.1)&&((v.2.1.toList==(⟨#[]⟩:BA).toList)&&((v.2.2.1==v.2.2.1)&&(((v.2.2.2.1.1.toList==v.2.2.2.1.1.toList)&&((v.2.2.2.1.2.1.toList==v.2.2.2.1.2.1.toList)&&true))&&((v.2.2.2.2.1==v.2.2.2.2.1)&&true)))))=true then if (decide (v.2.2.2.2.1≥(-1:Int)))=true then k (decide (v.2.2.2.2.1≤(1073741824:Int))) else k false else k false else if (!v.2.2.1)=true then (vf n (v.2.2.2.1.1,(v.2.2.2.1.2.1,()))).bind fun v14=>if ((v.1==v.1)&&((v.2.1.toList==(⟨#[]⟩:BA).toList)&&((v.2.2.1==v.2.2.1)&&(((v.2.2.2.1.1.toList==v.2.2.2.1.1.toList)&&((v.2.2.2.1.2.1.toList==v.2.2.2.1.2.1.toList)&&true))&&((v.2.2.2.2.1==v.2.2.2.2.1)&&true)))))=true then if v14=true then if (decide (v.2.2.2.2.1≥(-1:Int)))=true then k (decide (v.2.2.2.2.1≤(1073741824:Int))) else k false else k false else k false else if ((v.1==v.1)&&((v.2.1.toList==(⟨#[]⟩:BA).toList)&&((v.2.2.1==v.2.2.1)&&(((v.2.2.2.1.1.toList==v.2.2.2.1.1.toList)&&((v.2.2.2.1.2.1.toList==v.2.2.2.1.2.1.toList)&&true))&&((v.2.2.2.2.1==v.2.2.2.2.1)&&true)))))=true then
 k false else k false)) (if v.2.2.1=true then if ((v.2.2.2.1.1.toList==(⟨#[]⟩:BA).toList)&&((v.2.2.2.1.2.1.toList==(⟨#[]⟩:BA).toList)&&true))=false then if (!v.2.2.1)=true then (vf n (v.2.2.2.1.1,(v.2.2.2.1.2.1,()))).bind fun v17=>if ((v.1==v.1)&&((v.2.1.toList==(⟨#[]⟩:BA).toList)&&((v.2.2.1==v.2.2.1)&&(((v.2.2.2.1.1.toList==v.2.2.2.1.1.toList)&&((v.2.2.2.1.2.1.toList==v.2.2.2.1.2.1.toList)&&true))&&((v.2.2.2.2.1==v.2.2.2.2.1)&&true)))))=true then if v17=true then if (decide (v.2.2.2.2.1≥(-1:Int)))=true then k (decide (v.2.2.2.2.1≤(1073741824:Int))) else k false else k false else k false else if ((v.1==v.1)&&((v.2.1.toList==(⟨#[]⟩:BA).toList)&&((v.2.2.1==v.2.2.1)&&(((v.2.2.2.1.1.toList==v.2.2.2.1.1.toList)&&((v.2.2.2.1.2.1.toList==v.2.2.2.1.2.1.toList)&&true))&&((v.2.2.2.2.1==v.2.2.2.2.1)&&true)))))=true then k false else k false else if ((v.1==v.1)&&((v.2.1.toList==(⟨#[]⟩:BA).toList)&&((v.2.2.1==v.2.2.1)&&(((v.2.2.2.1.1.toList==v.2.2.2.1.1.toList)&&((v.2.2.2.1.2.1.toList==v.2.2.2.1.2.1.toList)&&true))&&((v.2.2.2.2.1==v.2.2.2.2.1)&&true)))))=true then if (decide (v.2.2.2.2.1≥(-1:Int)))=true then k (decide (v.2.2.2.2.1≤(1073741824:Int))) else k false else k false else if (!v.2.2.1)=true then (vf n (v.2.2.2.1.1,(v.2.2.2.1.2.1,()))).bind fun v18=>if ((v.1==v.1)&&((v.2.1.toList==(⟨#[]⟩:BA).toList)&&((v.2.2.1==v.2.2.1)&&(((v.2.2.2.1.1.toList==v.2.2.2.1.1.toList)&&((v.2.2.2.1.2.1.toList==v.2.2.2.1.2.1.toList)&&true))&&((v.2.2.2.2.1==v.2.2.2.2.1)&&true)))))=true then
 if v18=true then if (decide (v.2.2.2.2.1≥(-1:Int)))=true then k (decide (v.2.2.2.2.1≤(1073741824:Int))) else k false else k false else k false else if ((v.1==v.1)&&((v.2.1.toList==(⟨#[]⟩:BA).toList)&&((v.2.2.1==v.2.2.1)&&(((v.2.2.2.1.1.toList==v.2.2.2.1.1.toList)&&((v.2.2.2.1.2.1.toList==v.2.2.2.1.2.1.toList)&&true))&&((v.2.2.2.2.1==v.2.2.2.2.1)&&true)))))=true then k false else k false))) else if (v.1==(4:Int))=true then if ((v.1==v.1)&&((v.2.1.toList==(⟨#[]⟩:BA).toList)&&((v.2.2.1==false)&&(((v.2.2.2.1.1.toList==v.2.2.2.1.1.toList)&&((v.2.2.2.1.2.1.toList==v.2.2.2.1.2.1.toList)&&true))&&((v.2.2.2.2.1==(0:Int))&&true)))))=true then (vf n (v.2.2.2.1.1,(v.2.2.2.1.2.1,()))).bind fun v19=>k v19 else k false else if (v.1==(7:Int))=true then if ((v.1==v.1)&&((v.2.1.toList==v.2.1.toList)&&((v.2.2.1==false)&&(((v.2.2.2.1.1.toList==(⟨#[]⟩:BA).toList)&&((v.2.2.2.1.2.1.toList==(⟨#[]⟩:BA).toList)&&true))&&((v.2.2.2.2.1==(0:Int))&&true)))))=true then if (v.2.1.toList==(⟨#[]⟩:BA).toList)=false then (dM n v.2.1).bind fun v20=>k v20 else k true else k false else if (v.1==(9:Int))=true then if ((v.1==v.1)&&((v.2.1.toList==v.2.1.toList)&&((v.2.2.1==false)&&(((v.2.2.2.1.1.toList==(⟨#[]⟩:BA).toList)&&((v.2.2.2.1.2.1.toList==(⟨#[]⟩:BA).toList)&&true))&&((v.2.2.2.2.1==(0:Int))&&true)))))=true then
 (dM n v.2.1).bind fun v21=>k v21 else k false else if (v.1==(5:Int))=true then k ((v.1==v.1)&&((v.2.1.toList==(⟨#[]⟩:BA).toList)&&((v.2.2.1==false)&&(((v.2.2.2.1.1.toList==(⟨#[]⟩:BA).toList)&&((v.2.2.2.1.2.1.toList==(⟨#[]⟩:BA).toList)&&true))&&((v.2.2.2.2.1==(0:Int))&&true))))) else if (v.1==(6:Int))=true then k ((v.1==v.1)&&((v.2.1.toList==(⟨#[]⟩:BA).toList)&&((v.2.2.1==false)&&(((v.2.2.2.1.1.toList==(⟨#[]⟩:BA).toList)&&((v.2.2.2.1.2.1.toList==(⟨#[]⟩:BA).toList)&&true))&&((v.2.2.2.2.1==(0:Int))&&true))))) else if (v.1==(8:Int))=true then k ((v.1==v.1)&&((v.2.1.toList==(⟨#[]⟩:BA).toList)&&((v.2.2.1==false)&&(((v.2.2.2.1.1.toList==(⟨#[]⟩:BA).toList)&&((v.2.2.2.1.2.1.toList==(⟨#[]⟩:BA).toList)&&true))&&((v.2.2.2.2.1==(0:Int))&&true))))) else k false
def CV (n:Nat) (v:T1):Option Bool:=DV n v some
theorem Bib (n:Nat) {S:Type}:∀ v (φ:_→Option S),(CV n v).bind φ=DV n v φ:=by
  intros;unfold CV DV;first | (simp only [ja,fa,iB,bB,oL,oX,nB,Option.bind_some]) | rfl
def qQ (n:Nat):Hint Out:={ live:=fun c=>[],run:=fun c=>none,xm:=fun c q=>none,sch:=fun c=>(cond (Nat.beq c 8) (some [(0,0),(2,0),(4,0),(1,1),(6,0),(7,5),(3,7),(5,7),(8,6),(9,2),(10,6),(11,2)]) none) }
theorem Y8 (n:Nat):qa tys (ia Out (BI n)) (qQ n) n (ba Tryz.f73) 0:=na (fun _=>rfl) _ _ (by kernel_rfl)
theorem wcb (n:Nat):Enters Tryz.prog 73:=enters_of (c:=ba Tryz.f73) Tryz.func73 (by kernel_rfl) (by kernel_rfl)
def EZ (n:Nat):Entry:=⟨73,pcT K11 (.one .bool) (fun xs=>CV n xs.1),none,none⟩
theorem Vfb (n:Nat):EntryOk Tryz.prog gl (EZ n):=wa (wcb n) fun xs y h=>ma tys_ok (iG n) mixed (hint:=qQ n) (n:=n) Tryz.func73 (ya (Y8 n)) (la (φ:=(fun y=>some (Out.ret (Ya (.one .bool) y)))) (by kernel_rfl) (Bib n xs.1 _) h)
def Vv (n:Nat):List Entry:=EZ n::BI n
theorem po (n:Nat):AllOk Tryz.prog gl (Vv n):=.cons (Vfb n) (iG n)
def Di (n:Nat) {R:Type} (a:T0) (k:U2→Option R):Option R:=(Tb n a.2.2.2.2.2.2.2.2.1).bind fun v=>(Lc n a.2.2.2.2.2.2.2.2.2.1).bind fun v1=>k (a.1,(a.2.1,(a.2.2.1,(a.2.2.2.1.1,(a.2.2.2.1.2.1,(a.2.2.2.2.1,(a.2.2.2.2.2.1,(a.2.2.2.2.2.2.1,(a.2.2.2.2.2.2.2.1.1,(a.2.2.2.2.2.2.2.1.2.1,(a.2.2.2.2.2.2.2.2.2.2.1,(a.2.2.2.2.2.2.2.2.2.2.2.1,(v.1,(v1.1,()))))))))))))))
def vc (n:Nat) (a:T0):Option U2:=Di n a some
theorem zK (n:Nat) {S:Type}:∀ a (φ:_→Option S),(vc n a).bind φ=Di n a φ:=by
  intros;unfold vc Di;first | (simp only [ja,fa,iB,bB,oL,oX,nB,Option.bind_some]) | rfl
def Kl (n:Nat):Hint OutS:={ live:=fun c=>[],run:=fun c=>none,xm:=fun c q=>none,pr:=[(0,10,25),(0,11,9)] }
theorem cB (n:Nat):qa tys (ia OutS (Vv n)).keep (Kl n) n (ba Tryz.f23) 0:=na (fun _=>rfl) _ _ (by kernel_rfl)
theorem yE (n:Nat):Enters Tryz.prog 23:=enters_of (c:=ba Tryz.f23) Tryz.func23 (by kernel_rfl) (by kernel_rfl)
def Jp:List RSp:=[.one (.dat K0)]
def Ip:List RS:=[]
def zE:List Sl:=[.top]
def AE:List RSp:=[.agg [.dat (.int .i64),.dat (.int .i64),.dat (.int .i64),.dat .str,.dat .bool,.dat (.int .i64),.dat .str,.dat .bool,.dat .str,.dat .str,.row 0,.row 1,.dat (.int .i64),.dat .bool]]
def Vd:List RS:=[.row 25 2 (.pair .str (.pair .str .unit)) true false,.row 9 1 .str true false]
def Ei (y:U2):OutS:=⟨false,km (cc Vd (y.2.2.2.2.2.2.2.2.2.2.2.2.1,(y.2.2.2.2.2.2.2.2.2.2.2.2.2.1,()))) zE (),OC (Vz (cc Vd (y.2.2.2.2.2.2.2.2.2.2.2.2.1,(y.2.2.2.2.2.2.2.2.2.2.2.2.2.1,()))) AE ((y.1,(y.2.1,(y.2.2.1,(y.2.2.2.1,(y.2.2.2.2.1,(y.2.2.2.2.2.1,(y.2.2.2.2.2.2.1,(y.2.2.2.2.2.2.2.1,(y.2.2.2.2.2.2.2.2.1,(y.2.2.2.2.2.2.2.2.2.1,(y.2.2.2.2.2.2.2.2.2.2.1,(y.2.2.2.2.2.2.2.2.2.2.2.1,())))))))))))),())),ir (cc Vd (y.2.2.2.2.2.2.2.2.2.2.2.2.1,(y.2.2.2.2.2.2.2.2.2.2.2.2.2.1,()))) Vd (y.2.2.2.2.2.2.2.2.2.2.2.2.1,(y.2.2.2.2.2.2.2.2.2.2.2.2.2.1,()))⟩
theorem YG (n:Nat):EntryOk Tryz.prog gl ⟨23,vd,none,some (csT Jp Ip (fun σ ρ=>vc n σ.1.1) Ei)⟩:=pd (yE n) fun σ ρ y h=>If tys_ok (po n) mixed (hint:=Kl n) (n:=n) Tryz.func23 (ya (cB n)) (la (φ:=fun y=>some (Ei y)) (by kernel_rfl) (zK n σ.1.1 _) h)
def Fh (n:Nat):List Entry:=⟨23,vd,none,some (csT Jp Ip (fun σ ρ=>vc n σ.1.1) Ei)⟩::Vv n
theorem Hj (n:Nat):AllOk Tryz.prog gl (Fh n):=.cons (YG n) (po n)
def o4 (n:Nat) {R:Type} (c:T0) (v:T1) (k:(T0×Int×Unit)→Option R):Option R:=(CV n v).bind fun v1=>if (!v1)=false then if (v.1 !=(3:Int))=true then if (v.1 !=(4:Int))=true then k (c,((1:Int),())) else (vc n c).bind fun v2=>if (v.1==(3:Int))=true then if (c.2.2.2.2.1 !=(1:Int))=true then k (c,((6:Int),())) else BT (BT (k ((v2.1,(v2.2.1,(v2.2.2.1,((v2.2.2.2.1,(v2.2.2.2.2.1,())),((2:Int),(v2.2.2.2.2.2.2.1,(v.2.2.1,(v.2.2.2.1,(v2.2.2.2.2.2.2.2.2.2.2.2.2.1,(v2.2.2.2.2.2.2.2.2.2.2.2.2.2.1,(v2.2.2.2.2.2.2.2.2.2.2.1,(v2.2.2.2.2.2.2.2.2.2.2.2.1,())))))))))))),((0:Int),()))) (dup 1 (k ((v2.1,(v2.2.1,(v2.2.2.1,((v2.2.2.2.1,(v2.2.2.2.2.1,())),((2:Int),(v2.2.2.2.2.2.2.1,(v.2.2.1,(v.2.2.2.1,(v2.2.2.2.2.2.2.2.2.2.2.2.2.1,(v2.2.2.2.2.2.2.2.2.2.2.2.2.2.1,(v2.2.2.2.2.2.2.2.2.2.2.1,(v2.2.2.2.2.2.2.2.2.2.2.2.1,())))))))))))),((0:Int),()))))) (BT (dup 1 (k ((v2.1,(v2.2.1,(v2.2.2.1,((v2.2.2.2.1,(v2.2.2.2.2.1,())),((2:Int),(v2.2.2.2.2.2.2.1,(v.2.2.1,(v.2.2.2.1,(v2.2.2.2.2.2.2.2.2.2.2.2.2.1,(v2.2.2.2.2.2.2.2.2.2.2.2.2.2.1,(v2.2.2.2.2.2.2.2.2.2.2.1,(v2.2.2.2.2.2.2.2.2.2.2.2.1,())))))))))))),((0:Int),())))) (BT (dup 1 (k ((v2.1,(v2.2.1,(v2.2.2.1,((v2.2.2.2.1,(v2.2.2.2.2.1,())),((2:Int),(v2.2.2.2.2.2.2.1,(v.2.2.1,(v.2.2.2.1,(v2.2.2.2.2.2.2.2.2.2.2.2.2.1,(v2.2.2.2.2.2.2.2.2.2.2.2.2.2.1,(v2.2.2.2.2.2.2.2.2.2.2.1,(v2.2.2.2.2.2.2.2.2.2.2.2.1,())))))))))))),((0:Int),())))) (
 k ((v2.1,(v2.2.1,(v2.2.2.1,((v2.2.2.2.1,(v2.2.2.2.2.1,())),((2:Int),(v2.2.2.2.2.2.2.1,(v.2.2.1,(v.2.2.2.1,(v2.2.2.2.2.2.2.2.2.2.2.2.2.1,(v2.2.2.2.2.2.2.2.2.2.2.2.2.2.1,(v2.2.2.2.2.2.2.2.2.2.2.1,(v2.2.2.2.2.2.2.2.2.2.2.2.1,())))))))))))),((0:Int),()))))) else if (c.2.2.2.2.1 !=(2:Int))=true then if (c.2.2.2.2.1 !=(3:Int))=true then k (c,((6:Int),())) else (nf n c.2.2.2.2.2.2.2.2.1 v.2.2.2.1).bind fun v3=>if (decide (v3≥(0:Int)))=true then k (c,((4:Int),())) else if (decide ((c.2.2.2.2.2.2.2.2.1.n:Int)≥(8:Int)))=true then k (c,((5:Int),())) else if ib (v2.2.2.2.2.2.2.2.2.2.2.2.2.1.n+1) 32=true then k ((v2.1,(v2.2.1,(v2.2.2.1,((v2.2.2.2.1,(v2.2.2.2.2.1,())),((3:Int),(v2.2.2.2.2.2.2.1,(v2.2.2.2.2.2.2.2.1,((v2.2.2.2.2.2.2.2.2.1,(v2.2.2.2.2.2.2.2.2.2.1,())),((⟨(v2.2.2.2.2.2.2.2.2.2.2.2.2.1.n+1),fun q=>if q<v2.2.2.2.2.2.2.2.2.2.2.2.2.1.n then v2.2.2.2.2.2.2.2.2.2.2.2.2.1.at' q else (fun q=>List.getD (α:=U0) [v.2.2.2.1] q (ta (.pair .str (.pair .str .unit)))) (q - v2.2.2.2.2.2.2.2.2.2.2.2.2.1.n)⟩:Sq U0),(v2.2.2.2.2.2.2.2.2.2.2.2.2.2.1,(v2.2.2.2.2.2.2.2.2.2.2.1,(v2.2.2.2.2.2.2.2.2.2.2.2.1,())))))))))))),((0:Int),())) else none else (nf n c.2.2.2.2.2.2.2.2.1 v.2.2.2.1).bind fun v4=>if (decide (v4≥(0:Int)))=true then k (c,((4:Int),())) else if (decide ((c.2.2.2.2.2.2.2.2.1.n:Int)≥(8:Int)))=true then
 k (c,((5:Int),())) else if ib (v2.2.2.2.2.2.2.2.2.2.2.2.2.1.n+1) 32=true then k ((v2.1,(v2.2.1,(v2.2.2.1,((v2.2.2.2.1,(v2.2.2.2.2.1,())),((3:Int),(v2.2.2.2.2.2.2.1,(v2.2.2.2.2.2.2.2.1,((v2.2.2.2.2.2.2.2.2.1,(v2.2.2.2.2.2.2.2.2.2.1,())),((⟨(v2.2.2.2.2.2.2.2.2.2.2.2.2.1.n+1),fun q=>if q<v2.2.2.2.2.2.2.2.2.2.2.2.2.1.n then v2.2.2.2.2.2.2.2.2.2.2.2.2.1.at' q else (fun q=>List.getD (α:=U0) [v.2.2.2.1] q (ta (.pair .str (.pair .str .unit)))) (q - v2.2.2.2.2.2.2.2.2.2.2.2.2.1.n)⟩:Sq U0),(v2.2.2.2.2.2.2.2.2.2.2.2.2.2.1,(v2.2.2.2.2.2.2.2.2.2.2.1,(v2.2.2.2.2.2.2.2.2.2.2.2.1,())))))))))))),((0:Int),())) else none else (vc n c).bind fun v5=>if (v.1==(3:Int))=true then if (c.2.2.2.2.1 !=(1:Int))=true then k (c,((6:Int),())) else BT (BT (k ((v5.1,(v5.2.1,(v5.2.2.1,((v5.2.2.2.1,(v5.2.2.2.2.1,())),((2:Int),(v5.2.2.2.2.2.2.1,(v.2.2.1,(v.2.2.2.1,(v5.2.2.2.2.2.2.2.2.2.2.2.2.1,(v5.2.2.2.2.2.2.2.2.2.2.2.2.2.1,(v5.2.2.2.2.2.2.2.2.2.2.1,(v5.2.2.2.2.2.2.2.2.2.2.2.1,())))))))))))),((0:Int),()))) (dup 1 (k ((v5.1,(v5.2.1,(v5.2.2.1,((v5.2.2.2.1,(v5.2.2.2.2.1,())),((2:Int),(v5.2.2.2.2.2.2.1,(v.2.2.1,(v.2.2.2.1,(v5.2.2.2.2.2.2.2.2.2.2.2.2.1,(v5.2.2.2.2.2.2.2.2.2.2.2.2.2.1,(v5.2.2.2.2.2.2.2.2.2.2.1,(v5.2.2.2.2.2.2.2.2.2.2.2.1,())))))))))))),((0:Int),()))))) (BT (dup 1 (k ((v5.1,(v5.2.1,(v5.2.2.1,((v5.2.2.2.1,(v5.2.2.2.2.1,())),((2:Int),(v5.2.2.2.2.2.2.1,(v.2.2.1,(v.2.2.2.1,(v5.2.2.2.2.2.2.2.2.2.2.2.2.1,(v5.2.2.2.2.2.2.2.2.2.2.2.2.2.1,(v5.2.2.2.2.2.2.2.2.2.2.1,(v5.2.2.2.2.2.2.2.2.2.2.2.1,())))))))))))),((0:Int),())))) (
 BT (dup 1 (k ((v5.1,(v5.2.1,(v5.2.2.1,((v5.2.2.2.1,(v5.2.2.2.2.1,())),((2:Int),(v5.2.2.2.2.2.2.1,(v.2.2.1,(v.2.2.2.1,(v5.2.2.2.2.2.2.2.2.2.2.2.2.1,(v5.2.2.2.2.2.2.2.2.2.2.2.2.2.1,(v5.2.2.2.2.2.2.2.2.2.2.1,(v5.2.2.2.2.2.2.2.2.2.2.2.1,())))))))))))),((0:Int),())))) (k ((v5.1,(v5.2.1,(v5.2.2.1,((v5.2.2.2.1,(v5.2.2.2.2.1,())),((2:Int),(v5.2.2.2.2.2.2.1,(v.2.2.1,(v.2.2.2.1,(v5.2.2.2.2.2.2.2.2.2.2.2.2.1,(v5.2.2.2.2.2.2.2.2.2.2.2.2.2.1,(v5.2.2.2.2.2.2.2.2.2.2.1,(v5.2.2.2.2.2.2.2.2.2.2.2.1,())))))))))))),((0:Int),()))))) else if (c.2.2.2.2.1 !=(2:Int))=true then if (c.2.2.2.2.1 !=(3:Int))=true then k (c,((6:Int),())) else (nf n c.2.2.2.2.2.2.2.2.1 v.2.2.2.1).bind fun v6=>if (decide (v6≥(0:Int)))=true then k (c,((4:Int),())) else if (decide ((c.2.2.2.2.2.2.2.2.1.n:Int)≥(8:Int)))=true then k (c,((5:Int),())) else if ib (v5.2.2.2.2.2.2.2.2.2.2.2.2.1.n+1) 32=true then k ((v5.1,(v5.2.1,(v5.2.2.1,((v5.2.2.2.1,(v5.2.2.2.2.1,())),((3:Int),(v5.2.2.2.2.2.2.1,(v5.2.2.2.2.2.2.2.1,((v5.2.2.2.2.2.2.2.2.1,(v5.2.2.2.2.2.2.2.2.2.1,())),((⟨(v5.2.2.2.2.2.2.2.2.2.2.2.2.1.n+1),fun q=>if q<v5.2.2.2.2.2.2.2.2.2.2.2.2.1.n then v5.2.2.2.2.2.2.2.2.2.2.2.2.1.at' q else (fun q=>List.getD (α:=U0) [v.2.2.2.1] q (ta (.pair .str (.pair .str .unit)))) (q - v5.2.2.2.2.2.2.2.2.2.2.2.2.1.n)⟩:Sq U0),(v5.2.2.2.2.2.2.2.2.2.2.2.2.2.1,(v5.2.2.2.2.2.2.2.2.2.2.1,(v5.2.2.2.2.2.2.2.2.2.2.2.1,())))))))))))),((0:Int),()))
 else none else (nf n c.2.2.2.2.2.2.2.2.1 v.2.2.2.1).bind fun v7=>if (decide (v7≥(0:Int)))=true then k (c,((4:Int),())) else if (decide ((c.2.2.2.2.2.2.2.2.1.n:Int)≥(8:Int)))=true then k (c,((5:Int),())) else if ib (v5.2.2.2.2.2.2.2.2.2.2.2.2.1.n+1) 32=true then k ((v5.1,(v5.2.1,(v5.2.2.1,((v5.2.2.2.1,(v5.2.2.2.2.1,())),((3:Int),(v5.2.2.2.2.2.2.1,(v5.2.2.2.2.2.2.2.1,((v5.2.2.2.2.2.2.2.2.1,(v5.2.2.2.2.2.2.2.2.2.1,())),((⟨(v5.2.2.2.2.2.2.2.2.2.2.2.2.1.n+1),fun q=>if q<v5.2.2.2.2.2.2.2.2.2.2.2.2.1.n then v5.2.2.2.2.2.2.2.2.2.2.2.2.1.at' q else (fun q=>List.getD (α:=U0) [v.2.2.2.1] q (ta (.pair .str (.pair .str .unit)))) (q - v5.2.2.2.2.2.2.2.2.2.2.2.2.1.n)⟩:Sq U0),(v5.2.2.2.2.2.2.2.2.2.2.2.2.2.1,(v5.2.2.2.2.2.2.2.2.2.2.1,(v5.2.2.2.2.2.2.2.2.2.2.2.1,())))))))))))),((0:Int),())) else none else k (c,((1:Int),()))
def O8 (n:Nat) (c:T0) (v:T1):Option (T0×Int×Unit):=o4 n c v some
theorem Ckb (n:Nat) {S:Type}:∀ c v (φ:_→Option S),(O8 n c v).bind φ=o4 n c v φ:=by
  intros;unfold O8 o4;first | (simp only [ja,fa,iB,bB,oL,oX,nB,Option.bind_some]) | rfl
def rV (n:Nat):Hint Out:={ live:=fun c=>[],run:=fun c=>none,xm:=fun c q=>none,sch:=fun c=>(cond (Nat.beq c 7) (some [(0,0),(2,0),(4,0),(5,5),(1,7),(3,7),(6,6),(7,2),(8,6),(9,2)]) none) }
theorem qcb (n:Nat):qa tys (ia Out (Fh n)) (rV n) n (ba Tryz.f45) 0:=na (fun _=>rfl) _ _ (by kernel_rfl)
theorem Qfb (n:Nat):Enters Tryz.prog 45:=enters_of (c:=ba Tryz.f45) Tryz.func45 (by kernel_rfl) (by kernel_rfl)
def mL (n:Nat):Entry:=⟨45,pcT K13 (.many K19) (fun xs=>O8 n xs.1 xs.2.1),none,none⟩
theorem sV (n:Nat):EntryOk Tryz.prog gl (mL n):=wa (Qfb n) fun xs y h=>ma tys_ok (Hj n) mixed (hint:=rV n) (n:=n) Tryz.func45 (ya (qcb n)) (la (φ:=(fun y=>some (Out.ret (Ya (.many K19) y)))) (by kernel_rfl) (Ckb n xs.1 xs.2.1 _) h)
def qV (n:Nat):List Entry:=mL n::Fh n
theorem mQ (n:Nat):AllOk Tryz.prog gl (qV n):=.cons (sV n) (Hj n)
def tN (n:Nat) {R:Type} (c:T0) (v:T1) (k:U3→Option R):Option R:=(QQ n c).bind fun v1=>if (!v1)=false then (Wg n v).bind fun v2=>if (!v2)=true then k ((0:Int),((0:Int),((0:Int),((⟨#[]⟩:BA),(false,((0:Int),((⟨#[]⟩:BA),(false,((⟨#[]⟩:BA),((⟨#[]⟩:BA),((0:Int),(false,((1:Int),((⟨0,fun _=>ta (.pair .str (.pair .str .unit))⟩:Sq U0),((⟨0,fun _=>ta .str⟩:Sq BA),()))))))))))))))) else (nh n c).bind fun v3=>if (v.1==(3:Int))=true then if (v3.2.2.2.2.2.1 !=(1:Int))=true then k ((0:Int),((0:Int),((0:Int),((⟨#[]⟩:BA),(false,((0:Int),((⟨#[]⟩:BA),(false,((⟨#[]⟩:BA),((⟨#[]⟩:BA),((0:Int),(false,((6:Int),((⟨0,fun _=>ta (.pair .str (.pair .str .unit))⟩:Sq U0),((⟨0,fun _=>ta .str⟩:Sq BA),()))))))))))))))) else BT (BT (k (v3.1,(v3.2.1,(v3.2.2.1,(v3.2.2.2.1,(v3.2.2.2.2.1,((2:Int),(v3.2.2.2.2.2.2.1,(v.2.2.1,(v.2.2.2.1.1,(v.2.2.2.1.2.1,(v3.2.2.2.2.2.2.2.2.2.2.1,(v3.2.2.2.2.2.2.2.2.2.2.2.1,((0:Int),(v3.2.2.2.2.2.2.2.2.2.2.2.2.1,(v3.2.2.2.2.2.2.2.2.2.2.2.2.2.1,())))))))))))))))) (dup 1 (k (v3.1,(v3.2.1,(v3.2.2.1,(v3.2.2.2.1,(v3.2.2.2.2.1,((2:Int),(v3.2.2.2.2.2.2.1,(v.2.2.1,(v.2.2.2.1.1,(v.2.2.2.1.2.1,(v3.2.2.2.2.2.2.2.2.2.2.1,(v3.2.2.2.2.2.2.2.2.2.2.2.1,((0:Int),(v3.2.2.2.2.2.2.2.2.2.2.2.2.1,(v3.2.2.2.2.2.2.2.2.2.2.2.2.2.1,())))))))))))))))))) (
 BT (dup 1 (k (v3.1,(v3.2.1,(v3.2.2.1,(v3.2.2.2.1,(v3.2.2.2.2.1,((2:Int),(v3.2.2.2.2.2.2.1,(v.2.2.1,(v.2.2.2.1.1,(v.2.2.2.1.2.1,(v3.2.2.2.2.2.2.2.2.2.2.1,(v3.2.2.2.2.2.2.2.2.2.2.2.1,((0:Int),(v3.2.2.2.2.2.2.2.2.2.2.2.2.1,(v3.2.2.2.2.2.2.2.2.2.2.2.2.2.1,()))))))))))))))))) (BT (dup 1 (k (v3.1,(v3.2.1,(v3.2.2.1,(v3.2.2.2.1,(v3.2.2.2.2.1,((2:Int),(v3.2.2.2.2.2.2.1,(v.2.2.1,(v.2.2.2.1.1,(v.2.2.2.1.2.1,(v3.2.2.2.2.2.2.2.2.2.2.1,(v3.2.2.2.2.2.2.2.2.2.2.2.1,((0:Int),(v3.2.2.2.2.2.2.2.2.2.2.2.2.1,(v3.2.2.2.2.2.2.2.2.2.2.2.2.2.1,()))))))))))))))))) (k (v3.1,(v3.2.1,(v3.2.2.1,(v3.2.2.2.1,(v3.2.2.2.2.1,((2:Int),(v3.2.2.2.2.2.2.1,(v.2.2.1,(v.2.2.2.1.1,(v.2.2.2.1.2.1,(v3.2.2.2.2.2.2.2.2.2.2.1,(v3.2.2.2.2.2.2.2.2.2.2.2.1,((0:Int),(v3.2.2.2.2.2.2.2.2.2.2.2.2.1,(v3.2.2.2.2.2.2.2.2.2.2.2.2.2.1,())))))))))))))))))) else if (v.1==(4:Int))=true then if (v3.2.2.2.2.2.1 !=(2:Int))=true then if (v3.2.2.2.2.2.1 !=(3:Int))=true then k ((0:Int),((0:Int),((0:Int),((⟨#[]⟩:BA),(false,((0:Int),((⟨#[]⟩:BA),(false,((⟨#[]⟩:BA),((⟨#[]⟩:BA),((0:Int),(false,((6:Int),((⟨0,fun _=>ta (.pair .str (.pair .str .unit))⟩:Sq U0),((⟨0,fun _=>ta .str⟩:Sq BA),()))))))))))))))) else (sCn n v3.2.2.2.2.2.2.2.2.2.2.2.2.1 v.2.2.2.1).bind fun v4=>if v4=true then k ((0:Int),((0:Int),((0:Int),((⟨#[]⟩:BA),(false,((0:Int),((⟨#[]⟩:BA),(false,((⟨#[]⟩:BA),((⟨#[]⟩:BA),((0:Int),(false,((4:Int),((⟨0,fun _=>ta (.pair .str (.pair .str .unit))⟩:Sq U0),((⟨0,fun _=>ta .str⟩:Sq BA),())))))))))))))))
 else if ((v3.2.2.2.2.2.2.2.2.2.2.2.2.1.n:Int)==(8:Int))=true then k ((0:Int),((0:Int),((0:Int),((⟨#[]⟩:BA),(false,((0:Int),((⟨#[]⟩:BA),(false,((⟨#[]⟩:BA),((⟨#[]⟩:BA),((0:Int),(false,((5:Int),((⟨0,fun _=>ta (.pair .str (.pair .str .unit))⟩:Sq U0),((⟨0,fun _=>ta .str⟩:Sq BA),()))))))))))))))) else if ib (v3.2.2.2.2.2.2.2.2.2.2.2.2.1.n+1) 32=true then k (v3.1,(v3.2.1,(v3.2.2.1,(v3.2.2.2.1,(v3.2.2.2.2.1,((3:Int),(v3.2.2.2.2.2.2.1,(v3.2.2.2.2.2.2.2.1,(v3.2.2.2.2.2.2.2.2.1,(v3.2.2.2.2.2.2.2.2.2.1,(v3.2.2.2.2.2.2.2.2.2.2.1,(v3.2.2.2.2.2.2.2.2.2.2.2.1,((0:Int),((⟨(v3.2.2.2.2.2.2.2.2.2.2.2.2.1.n+1),fun q=>if q<v3.2.2.2.2.2.2.2.2.2.2.2.2.1.n then v3.2.2.2.2.2.2.2.2.2.2.2.2.1.at' q else (fun q=>List.getD (α:=U0) [v.2.2.2.1] q (ta (.pair .str (.pair .str .unit)))) (q - v3.2.2.2.2.2.2.2.2.2.2.2.2.1.n)⟩:Sq U0),(v3.2.2.2.2.2.2.2.2.2.2.2.2.2.1,()))))))))))))))) else none else (sCn n v3.2.2.2.2.2.2.2.2.2.2.2.2.1 v.2.2.2.1).bind fun v5=>if v5=true then k ((0:Int),((0:Int),((0:Int),((⟨#[]⟩:BA),(false,((0:Int),((⟨#[]⟩:BA),(false,((⟨#[]⟩:BA),((⟨#[]⟩:BA),((0:Int),(false,((4:Int),((⟨0,fun _=>ta (.pair .str (.pair .str .unit))⟩:Sq U0),((⟨0,fun _=>ta .str⟩:Sq BA),())))))))))))))))
 else if ((v3.2.2.2.2.2.2.2.2.2.2.2.2.1.n:Int)==(8:Int))=true then k ((0:Int),((0:Int),((0:Int),((⟨#[]⟩:BA),(false,((0:Int),((⟨#[]⟩:BA),(false,((⟨#[]⟩:BA),((⟨#[]⟩:BA),((0:Int),(false,((5:Int),((⟨0,fun _=>ta (.pair .str (.pair .str .unit))⟩:Sq U0),((⟨0,fun _=>ta .str⟩:Sq BA),()))))))))))))))) else if ib (v3.2.2.2.2.2.2.2.2.2.2.2.2.1.n+1) 32=true then k (v3.1,(v3.2.1,(v3.2.2.1,(v3.2.2.2.1,(v3.2.2.2.2.1,((3:Int),(v3.2.2.2.2.2.2.1,(v3.2.2.2.2.2.2.2.1,(v3.2.2.2.2.2.2.2.2.1,(v3.2.2.2.2.2.2.2.2.2.1,(v3.2.2.2.2.2.2.2.2.2.2.1,(v3.2.2.2.2.2.2.2.2.2.2.2.1,((0:Int),((⟨(v3.2.2.2.2.2.2.2.2.2.2.2.2.1.n+1),fun q=>if q<v3.2.2.2.2.2.2.2.2.2.2.2.2.1.n then v3.2.2.2.2.2.2.2.2.2.2.2.2.1.at' q else (fun q=>List.getD (α:=U0) [v.2.2.2.1] q (ta (.pair .str (.pair .str .unit)))) (q - v3.2.2.2.2.2.2.2.2.2.2.2.2.1.n)⟩:Sq U0),(v3.2.2.2.2.2.2.2.2.2.2.2.2.2.1,()))))))))))))))) else none else k ((0:Int),((0:Int),((0:Int),((⟨#[]⟩:BA),(false,((0:Int),((⟨#[]⟩:BA),(false,((⟨#[]⟩:BA),((⟨#[]⟩:BA),((0:Int),(false,((1:Int),((⟨0,fun _=>ta (.pair .str (.pair .str .unit))⟩:Sq U0),((⟨0,fun _=>ta .str⟩:Sq BA),()))))))))))))))) else k ((0:Int),((0:Int),((0:Int),((⟨#[]⟩:BA),(false,((0:Int),((⟨#[]⟩:BA),(false,((⟨#[]⟩:BA),((⟨#[]⟩:BA),((0:Int),(false,((1:Int),((⟨0,fun _=>ta (.pair .str (.pair .str .unit))⟩:Sq U0),((⟨0,fun _=>ta .str⟩:Sq BA),())))))))))))))))
def Yk (n:Nat) (c:T0) (v:T1):Option U3:=tN n c v some
theorem ifb (n:Nat) {S:Type}:∀ c v (φ:_→Option S),(Yk n c v).bind φ=tN n c v φ:=by
  intros;unfold Yk tN;first | (simp only [ja,fa,iB,bB,oL,oX,nB,Option.bind_some]) | rfl
def SJ (n:Nat):Hint OutS:={ live:=fun c=>[],run:=fun c=>none,xm:=fun c q=>none,sch:=fun c=>(cond (Nat.beq c 8) (some [(0,0),(2,0),(4,0),(5,5),(1,7),(3,7),(6,6),(7,2),(8,6),(9,2)]) none),pr:=[(0,10,25),(0,11,9)] }
theorem Q1 (n:Nat):qa tys (ia OutS (qV n)).keep (SJ n) n (ba Tryz.f46) 0:=na (fun _=>rfl) _ _ (by kernel_rfl)
theorem i7 (n:Nat):Enters Tryz.prog 46:=enters_of (c:=ba Tryz.f46) Tryz.func46 (by kernel_rfl) (by kernel_rfl)
def Vw:List RSp:=[.one (.dat K0),.one (.dat K2)]
def Uw:List RS:=[]
def j7:List Sl:=[.top,.top]
def l7:List RSp:=[.agg [.dat (.int .i64),.dat (.int .i64),.dat (.int .i64),.dat .str,.dat .bool,.dat (.int .i64),.dat .str,.dat .bool,.dat .str,.dat .str,.row 0,.row 1,.dat (.int .i64),.dat .bool],.one (.dat (.int .i64))]
def ar:List RS:=[.row 25 2 (.pair .str (.pair .str .unit)) true true,.row 9 1 .str true true]
def iv (y:U3):OutS:=⟨false,km (cc ar (y.2.2.2.2.2.2.2.2.2.2.2.2.2.1,(y.2.2.2.2.2.2.2.2.2.2.2.2.2.2.1,()))) j7 (),OC (Vz (cc ar (y.2.2.2.2.2.2.2.2.2.2.2.2.2.1,(y.2.2.2.2.2.2.2.2.2.2.2.2.2.2.1,()))) l7 ((y.1,(y.2.1,(y.2.2.1,(y.2.2.2.1,(y.2.2.2.2.1,(y.2.2.2.2.2.1,(y.2.2.2.2.2.2.1,(y.2.2.2.2.2.2.2.1,(y.2.2.2.2.2.2.2.2.1,(y.2.2.2.2.2.2.2.2.2.1,(y.2.2.2.2.2.2.2.2.2.2.1,(y.2.2.2.2.2.2.2.2.2.2.2.1,())))))))))))),((y.2.2.2.2.2.2.2.2.2.2.2.2.1,()),()))),ir (cc ar (y.2.2.2.2.2.2.2.2.2.2.2.2.2.1,(y.2.2.2.2.2.2.2.2.2.2.2.2.2.2.1,()))) ar (y.2.2.2.2.2.2.2.2.2.2.2.2.2.1,(y.2.2.2.2.2.2.2.2.2.2.2.2.2.2.1,()))⟩
theorem PG (n:Nat):EntryOk Tryz.prog gl ⟨46,vd,none,some (csT Vw Uw (fun σ ρ=>Yk n σ.1.1 σ.2.1.1) iv)⟩:=pd (i7 n) fun σ ρ y h=>If tys_ok (mQ n) mixed (hint:=SJ n) (n:=n) Tryz.func46 (ya (Q1 n)) (la (φ:=fun y=>some (iv y)) (by kernel_rfl) (ifb n σ.1.1 σ.2.1.1 _) h)
def gp (n:Nat):List Entry:=⟨46,vd,none,some (csT Vw Uw (fun σ ρ=>Yk n σ.1.1 σ.2.1.1) iv)⟩::qV n
theorem vF (n:Nat):AllOk Tryz.prog gl (gp n):=.cons (PG n) (mQ n)
def zh (n:Nat) {R:Type} (i:Int) (l:(Sq BA)) (kn:Int→(Sq BA)→Option R) (ko:((Sq BA))→Option R) (kr:Unit→Option R) (kp:Int→Option R):Option R:=if (decide (i<(l.n:Int)))=true then if 0≤i∧i<(l.n:Int) then kn (IntKind.wrap .i64 (i+(1:Int))) (⟨l.n,fun q=>if q=(Int.toNat i)∧q<l.n then (⟨#[63]⟩:BA) else l.at' q⟩:Sq BA) else none else ko l
def Mb (n:Nat):Nat→Int→(Sq BA)→Option (Lx ((Sq BA)) Unit)
 | 0,_,_=>none
 | m+1,i,l=>zh n i l (Mb n m) (fun a=>some (.out a)) (fun a=>some (.ret a)) (fun p=>some (.pan p))
theorem NM (n m:Nat) {S:Type}:∀ i l (φ:_→Option S),(Mb n (m+1) i l).bind φ=zh n i l (fun i l=>(Mb n m i l).bind φ) (fun a=>φ (.out a)) (fun a=>φ (.ret a)) (fun p=>φ (.pan p)):=by
  intros;first | (simp only [Mb,zh,ja,fa,iB,bB,oL,oX,nB,Option.bind_some]) | rfl
def Vh:List Sl:=.row 0::.top::.dat (.int .i64)::tp 12 []
def Uh:List RS:=[.row 9 1 .str true true,.ghost [.top]]
def oy:List Sl:=.row 0::tp 14 []
def ny:List RS:=[.row 9 1 .str true true,.ghost [.top]]
def Gb (K:XE→List AV→oa→Option OutS):Lx ((Sq BA)) Unit→Option OutS:=fun x=>onL x (fun a=>yb oy ny () (a,((),())) (K (.exit 0))) (fun _=>none) (fun _=>none)
def wq (n:Nat) {R:Type} (r0:(Sq BA)) (k:Unit→Option R):Option R:=(Mb n n (0:Int) r0).bind fun x_1=>onL x_1 (fun a_2=>if ib (a_2.n+1) 16=true then k () else none) (fun _=>none) (fun _=>none)
def af (n:Nat) (r0:(Sq BA)):Option Unit:=wq n r0 some
theorem PW (n:Nat) {S:Type}:∀ r0 (φ:_→Option S),(af n r0).bind φ=wq n r0 φ:=by
  intros;unfold af wq;first | (simp only [ja,fa,iB,bB,oL,oX,nB,Option.bind_some]) | rfl
def Bf (n:Nat):Hint OutS:={ live:=fun c=>(cond (Nat.beq c 0) [(0,some (.sl .str)),(2,none)] []),run:=fun c=>(cond (Nat.beq c 0) (some (ef Vh Uh fun σ ρ K=>(Mb n n σ.1 ρ.1).bind (Gb K))) none),xm:=fun c q=>(cond (Nat.beq c 0&&Nat.beq (q.getD 1000000) 0&&q.isSome) (some [(0,some (.sl .str))]) none) }
def Af (n:Nat) (K:XE→List AV→oa→Option OutS) (m:Nat) (i:Int) (l:(Sq BA)):Option OutS:=Kb tys (ia OutS (gp n)) (Bf n) n (ra [0,1,0,0] (ba Tryz.f79)) 0 Vh Uh K m (i,()) (l,((),()))
theorem ct (n:Nat) (K:XE→List AV→oa→Option OutS):∀ (m:Nat) i l,Af n K m i l=(Mb n m i l).bind (Gb K)
  | 0,_,_=>by kernel_rfl
  | m+1,i,l=>by
    have h1:Af n K (m+1) i l=zh n i l (Af n K m) (fun a=>Gb K (.out a)) (fun a=>Gb K (.ret a)) (fun p=>Gb K (.pan p)):=by kernel_rfl
    have h2:Af n K m=fun i l=>(Mb n m i l).bind (Gb K):=by
      repeat (refine funext fun _=>?_)
      exact ct n K m _ _
    rw [h1,h2];exact (NM n m _ _ (Gb K)).symm
theorem ZI (n:Nat):ub tys (ia OutS (gp n)) (Bf n) n (ra [0,1,0,0] (ba Tryz.f79)) 0:=Aa (sp:=Vh) (rp:=Uh) (by kernel_rfl) fun K σ ρ=>ct n K n σ.1 ρ.1
theorem OM (n:Nat):qa tys (ia OutS (gp n)) (Bf n) n (ba Tryz.f79) 0:=⟨⟨aa,⟨ZI n,⟨⟨aa,⟨aa,aa⟩⟩,⟨aa,aa⟩⟩⟩⟩,aa⟩
theorem cP (n:Nat):Enters Tryz.prog 79:=enters_of (c:=ba Tryz.f79) Tryz.func79 (by kernel_rfl) (by kernel_rfl)
def Bh:List RSp:=[.one (.row 0)]
def Ah:List RS:=[.row 9 1 .str true true]
def dP:List Sl:=[.top]
def eP:List RSp:=[]
def Ig:List RS:=[]
def rg (y:Unit):OutS:=⟨false,km (cc Ig ()) dP (),OC (Vz (cc Ig ()) eP ()),ir (cc Ig ()) Ig ()⟩
theorem Em (n:Nat):EntryOk Tryz.prog gl ⟨79,vd,none,some (csT Bh Ah (fun σ ρ=>af n ρ.1) rg)⟩:=pd (cP n) fun σ ρ y h=>Ta tys_ok (vF n) mixed (hint:=Bf n) (n:=n) Tryz.func79 (ya (OM n)) (la (φ:=fun y=>some (rg y)) (by kernel_rfl) (PW n ρ.1 _) h)
def lf (n:Nat):List Entry:=⟨79,vd,none,some (csT Bh Ah (fun σ ρ=>af n ρ.1) rg)⟩::gp n
theorem xq (n:Nat):AllOk Tryz.prog gl (lf n):=.cons (Em n) (vF n)
def qj (n:Nat) {R:Type} (i c12 c13 c14:Int) (c15:BA) (c16:Bool) (c17:Int) (c18:BA) (c19:Bool) (c20 c21:BA) (c22:Int) (c23:Bool) (r11:(Sq U0)) (r2:(Sq BA)) (kn:Int→Int→Int→Int→BA→Bool→Int→BA→Bool→BA→BA→Int→Bool→(Sq U0)→(Sq BA)→Option R) (ko:U13→Option R) (kr:Unit→Option R) (kp:Int→Option R):Option R:=if (decide (i<(r11.n:Int)))=true then if 0≤i∧i<(r11.n:Int) then kn (IntKind.wrap .i64 (i+(1:Int))) c12 c13 c14 c15 c16 c17 c18 c19 c20 c21 c22 c23 (⟨r11.n,fun q=>if q=(Int.toNat i)∧q<r11.n then ((⟨#[63]⟩:BA),((⟨#[]⟩:BA),())) else r11.at' q⟩:Sq U0) r2 else none else ko (c12,c13,c14,c15,c16,c17,c18,c19,c20,c21,c22,c23,r11,r2)
def nc (n:Nat):Nat→Int→Int→Int→Int→BA→Bool→Int→BA→Bool→BA→BA→Int→Bool→(Sq U0)→(Sq BA)→Option (Lx U13 Unit)
 | 0,_,_,_,_,_,_,_,_,_,_,_,_,_,_,_=>none
 | m+1,i,c12,c13,c14,c15,c16,c17,c18,c19,c20,c21,c22,c23,r11,r2=>qj n i c12 c13 c14 c15 c16 c17 c18 c19 c20 c21 c22 c23 r11 r2 (nc n m) (fun a=>some (.out a)) (fun a=>some (.ret a)) (fun p=>some (.pan p))
theorem ZO (n m:Nat) {S:Type}:∀ i c12 c13 c14 c15 c16 c17 c18 c19 c20 c21 c22 c23 r11 r2 (φ:_→Option S),(nc n (m+1) i c12 c13 c14 c15 c16 c17 c18 c19 c20 c21 c22 c23 r11 r2).bind φ=qj n i c12 c13 c14 c15 c16 c17 c18 c19 c20 c21 c22 c23 r11 r2 (fun i c12 c13 c14 c15 c16 c17 c18 c19 c20 c21 c22 c23 r11 r2=>(nc n m i c12 c13 c14 c15 c16 c17 c18 c19 c20 c21 c22 c23 r11 r2).bind φ) (fun a=>φ (.out a)) (fun a=>φ (.ret a)) (fun p=>φ (.pan p)):=by
  intros;first | (simp only [nc,qj,ja,fa,iB,bB,oL,oX,nB,Option.bind_some]) | rfl
def sj:List Sl:=.top::.ptr 0 0 0::.dat (.int .i64)::tp 15 []
def rj:List RS:=[.box 29 14 false [.dat (.int .i64),.dat (.int .i64),.dat (.int .i64),.dat .str,.dat .bool,.dat (.int .i64),.dat .str,.dat .bool,.dat .str,.dat .str,.row 1,.row 2,.dat (.int .i64),.dat .bool],.row 25 2 (.pair .str (.pair .str .unit)) true true,.row 9 1 .str true true,.ghost [.top]]
def Uz:List Sl:=.top::.ptr 0 0 0::tp 16 []
def Tz:List RS:=[.box 29 14 false [.dat (.int .i64),.dat (.int .i64),.dat (.int .i64),.dat .str,.dat .bool,.dat (.int .i64),.dat .str,.dat .bool,.dat .str,.dat .str,.row 1,.row 2,.dat (.int .i64),.dat .bool],.row 25 2 (.pair .str (.pair .str .unit)) true true,.row 9 1 .str true true,.ghost [.top]]
def ac (K:XE→List AV→oa→Option OutS):Lx U13 Unit→Option OutS:=fun x=>onL x (fun a=>yb Uz Tz () ((a.1,(a.2.1,(a.2.2.1,(a.2.2.2.1,(a.2.2.2.2.1,(a.2.2.2.2.2.1,(a.2.2.2.2.2.2.1,(a.2.2.2.2.2.2.2.1,(a.2.2.2.2.2.2.2.2.1,(a.2.2.2.2.2.2.2.2.2.1,(a.2.2.2.2.2.2.2.2.2.2.1,(a.2.2.2.2.2.2.2.2.2.2.2.1,())))))))))))),(a.2.2.2.2.2.2.2.2.2.2.2.2.1,(a.2.2.2.2.2.2.2.2.2.2.2.2.2,((),())))) (K (.exit 0))) (fun _=>none) (fun _=>none)
def Mu (n:Nat) {R:Type} (c c1 c2:Int) (c3:BA) (c4:Bool) (c5:Int) (c6:BA) (c7:Bool) (c8 c9:BA) (c10:Int) (c11:Bool) (r0:(Sq U0)) (r1:(Sq BA)) (k:Unit→Option R):Option R:=(nc n n (0:Int) c c1 c2 c3 c4 c5 c6 c7 c8 c9 c10 c11 r0 r1).bind fun x_1=>onL x_1 (fun a_2=>(af n a_2.2.2.2.2.2.2.2.2.2.2.2.2.2).bind fun v=>k ()) (fun _=>none) (fun _=>none)
def Ra (n:Nat) (c c1 c2:Int) (c3:BA) (c4:Bool) (c5:Int) (c6:BA) (c7:Bool) (c8 c9:BA) (c10:Int) (c11:Bool) (r0:(Sq U0)) (r1:(Sq BA)):Option Unit:=Mu n c c1 c2 c3 c4 c5 c6 c7 c8 c9 c10 c11 r0 r1 some
theorem RY (n:Nat) {S:Type}:∀ c c1 c2 c3 c4 c5 c6 c7 c8 c9 c10 c11 r0 r1 (φ:_→Option S),(Ra n c c1 c2 c3 c4 c5 c6 c7 c8 c9 c10 c11 r0 r1).bind φ=Mu n c c1 c2 c3 c4 c5 c6 c7 c8 c9 c10 c11 r0 r1 φ:=by
  intros;unfold Ra Mu;first | (simp only [ja,fa,iB,bB,oL,oX,nB,Option.bind_some]) | rfl
def Hg (n:Nat):Hint OutS:={ live:=fun c=>(cond (Nat.beq c 0) [(1,none),(2,none)] []),run:=fun c=>(cond (Nat.beq c 0) (some (ef sj rj fun σ ρ K=>(nc n n σ.1 ρ.1.1 ρ.1.2.1 ρ.1.2.2.1 ρ.1.2.2.2.1 ρ.1.2.2.2.2.1 ρ.1.2.2.2.2.2.1 ρ.1.2.2.2.2.2.2.1 ρ.1.2.2.2.2.2.2.2.1 ρ.1.2.2.2.2.2.2.2.2.1 ρ.1.2.2.2.2.2.2.2.2.2.1 ρ.1.2.2.2.2.2.2.2.2.2.2.1 ρ.1.2.2.2.2.2.2.2.2.2.2.2.1 ρ.2.1 ρ.2.2.1).bind (ac K))) none),xm:=fun c q=>(cond (Nat.beq c 0&&Nat.beq (q.getD 1000000) 0&&q.isSome) (some [(1,none)]) none) }
def Gg (n:Nat) (K:XE→List AV→oa→Option OutS) (m:Nat) (i:Int) (c12:Int) (c13:Int) (c14:Int) (c15:BA) (c16:Bool) (c17:Int) (c18:BA) (c19:Bool) (c20:BA) (c21:BA) (c22:Int) (c23:Bool) (r11:(Sq U0)) (r2:(Sq BA)):Option OutS:=Kb tys (ia OutS (lf n)) (Hg n) n (ra [1,0,1,0,0] (ba Tryz.f52)) 0 sj rj K m (i,()) ((c12,(c13,(c14,(c15,(c16,(c17,(c18,(c19,(c20,(c21,(c22,(c23,())))))))))))),(r11,(r2,((),()))))
theorem vw (n:Nat) (K:XE→List AV→oa→Option OutS):∀ (m:Nat) i c12 c13 c14 c15 c16 c17 c18 c19 c20 c21 c22 c23 r11 r2,Gg n K m i c12 c13 c14 c15 c16 c17 c18 c19 c20 c21 c22 c23 r11 r2=(nc n m i c12 c13 c14 c15 c16 c17 c18 c19 c20 c21 c22 c23 r11 r2).bind (ac K)
  | 0,_,_,_,_,_,_,_,_,_,_,_,_,_,_,_=>by kernel_rfl
  | m+1,i,c12,c13,c14,c15,c16,c17,c18,c19,c20,c21,c22,c23,r11,r2=>by
    have h1:Gg n K (m+1) i c12 c13 c14 c15 c16 c17 c18 c19 c20 c21 c22 c23 r11 r2=qj n i c12 c13 c14 c15 c16 c17 c18 c19 c20 c21 c22 c23 r11 r2 (Gg n K m) (fun a=>ac K (.out a)) (fun a=>ac K (.ret a)) (fun p=>ac K (.pan p)):=by kernel_rfl
    have h2:Gg n K m=fun i c12 c13 c14 c15 c16 c17 c18 c19 c20 c21 c22 c23 r11 r2=>(nc n m i c12 c13 c14 c15 c16 c17 c18 c19 c20 c21 c22 c23 r11 r2).bind (ac K):=by
      repeat (refine funext fun _=>?_)
      exact vw n K m _ _ _ _ _ _ _ _ _ _ _ _ _ _ _
    rw [h1,h2];exact (ZO n m _ _ _ _ _ _ _ _ _ _ _ _ _ _ _ (ac K)).symm
theorem MM (n:Nat):ub tys (ia OutS (lf n)) (Hg n) n (ra [1,0,1,0,0] (ba Tryz.f52)) 0:=Aa (sp:=sj) (rp:=rj) (by kernel_rfl) fun K σ ρ=>vw n K n σ.1 ρ.1.1 ρ.1.2.1 ρ.1.2.2.1 ρ.1.2.2.2.1 ρ.1.2.2.2.2.1 ρ.1.2.2.2.2.2.1 ρ.1.2.2.2.2.2.2.1 ρ.1.2.2.2.2.2.2.2.1 ρ.1.2.2.2.2.2.2.2.2.1 ρ.1.2.2.2.2.2.2.2.2.2.1 ρ.1.2.2.2.2.2.2.2.2.2.2.1 ρ.1.2.2.2.2.2.2.2.2.2.2.2.1 ρ.2.1 ρ.2.2.1
theorem aP (n:Nat):qa tys (ia OutS (lf n)) (Hg n) n (ba Tryz.f52) 0:=⟨aa,⟨⟨aa,⟨MM n,⟨⟨aa,⟨aa,aa⟩⟩,⟨aa,aa⟩⟩⟩⟩,aa⟩⟩
theorem nS (n:Nat):Enters Tryz.prog 52:=enters_of (c:=ba Tryz.f52) Tryz.func52 (by kernel_rfl) (by kernel_rfl)
def uj:List RSp:=[.agg [.dat (.int .i64),.dat (.int .i64),.dat (.int .i64),.dat .str,.dat .bool,.dat (.int .i64),.dat .str,.dat .bool,.dat .str,.dat .str,.row 0,.row 1,.dat (.int .i64),.dat .bool]]
def tj:List RS:=[.row 25 2 (.pair .str (.pair .str .unit)) true true,.row 9 1 .str true true]
def oS:List Sl:=[.top]
def pS:List RSp:=[]
def yh:List RS:=[]
def lh (y:Unit):OutS:=⟨false,km (cc yh ()) oS (),OC (Vz (cc yh ()) pS ()),ir (cc yh ()) yh ()⟩
theorem vq (n:Nat):EntryOk Tryz.prog gl ⟨52,vd,none,some (csT uj tj (fun σ ρ=>Ra n σ.1.1 σ.1.2.1 σ.1.2.2.1 σ.1.2.2.2.1 σ.1.2.2.2.2.1 σ.1.2.2.2.2.2.1 σ.1.2.2.2.2.2.2.1 σ.1.2.2.2.2.2.2.2.1 σ.1.2.2.2.2.2.2.2.2.1 σ.1.2.2.2.2.2.2.2.2.2.1 σ.1.2.2.2.2.2.2.2.2.2.2.1 σ.1.2.2.2.2.2.2.2.2.2.2.2.1 ρ.1 ρ.2.1) lh)⟩:=pd (nS n) fun σ ρ y h=>Ta tys_ok (xq n) mixed (hint:=Hg n) (n:=n) Tryz.func52 (ya (aP n)) (la (φ:=fun y=>some (lh y)) (by kernel_rfl) (RY n σ.1.1 σ.1.2.1 σ.1.2.2.1 σ.1.2.2.2.1 σ.1.2.2.2.2.1 σ.1.2.2.2.2.2.1 σ.1.2.2.2.2.2.2.1 σ.1.2.2.2.2.2.2.2.1 σ.1.2.2.2.2.2.2.2.2.1 σ.1.2.2.2.2.2.2.2.2.2.1 σ.1.2.2.2.2.2.2.2.2.2.2.1 σ.1.2.2.2.2.2.2.2.2.2.2.2.1 ρ.1 ρ.2.1 _) h)
def uq (n:Nat):List Entry:=⟨52,vd,none,some (csT uj tj (fun σ ρ=>Ra n σ.1.1 σ.1.2.1 σ.1.2.2.1 σ.1.2.2.2.1 σ.1.2.2.2.2.1 σ.1.2.2.2.2.2.1 σ.1.2.2.2.2.2.2.1 σ.1.2.2.2.2.2.2.2.1 σ.1.2.2.2.2.2.2.2.2.1 σ.1.2.2.2.2.2.2.2.2.2.1 σ.1.2.2.2.2.2.2.2.2.2.2.1 σ.1.2.2.2.2.2.2.2.2.2.2.2.1 ρ.1 ρ.2.1) lh)⟩::lf n
theorem Zs (n:Nat):AllOk Tryz.prog gl (uq n):=.cons (vq n) (xq n)
def gO (n:Nat) {R:Type} (c:T0) (k:T0→Option R):Option R:=if (c.2.2.2.2.1 !=(0:Int))=true then if (c.2.2.2.2.1 !=(5:Int))=true then k (c.1,(c.2.1,(c.2.2.1,(c.2.2.2.1,((1:Int),(c.2.2.2.2.2.1,(false,(((⟨#[]⟩:BA),((⟨#[]⟩:BA),())),((⟨0,fun _=>ta (.pair .str (.pair .str .unit))⟩:Sq U0),((⟨0,fun _=>ta .str⟩:Sq BA),((0:Int),(false,())))))))))))) else k (c.1,(c.2.1,(c.2.2.1,(c.2.2.2.1,(c.2.2.2.2.1,(c.2.2.2.2.2.1,(false,(((⟨#[]⟩:BA),((⟨#[]⟩:BA),())),((⟨0,fun _=>ta (.pair .str (.pair .str .unit))⟩:Sq U0),((⟨0,fun _=>ta .str⟩:Sq BA),((0:Int),(false,())))))))))))) else k (c.1,(c.2.1,(c.2.2.1,(c.2.2.2.1,(c.2.2.2.2.1,(c.2.2.2.2.2.1,(false,(((⟨#[]⟩:BA),((⟨#[]⟩:BA),())),((⟨0,fun _=>ta (.pair .str (.pair .str .unit))⟩:Sq U0),((⟨0,fun _=>ta .str⟩:Sq BA),((0:Int),(false,()))))))))))))
def OS (n:Nat) (c:T0):Option T0:=gO n c some
theorem Ofb (n:Nat) {S:Type}:∀ c (φ:_→Option S),(OS n c).bind φ=gO n c φ:=by
  intros;unfold OS gO;first | (simp only [ja,fa,iB,bB,oL,oX,nB,Option.bind_some]) | rfl
def kL (n:Nat):Hint Out:={ live:=fun c=>[],run:=fun c=>none,xm:=fun c q=>none }
theorem Y3 (n:Nat):qa tys (ia Out (uq n)) (kL n) n (ba Tryz.f47) 0:=na (fun _=>rfl) _ _ (by kernel_rfl)
theorem M8 (n:Nat):Enters Tryz.prog 47:=enters_of (c:=ba Tryz.f47) Tryz.func47 (by kernel_rfl) (by kernel_rfl)
def xx (n:Nat):Entry:=⟨47,pcT K1 (.one K0) (fun xs=>OS n xs.1),none,none⟩
theorem dI (n:Nat):EntryOk Tryz.prog gl (xx n):=wa (M8 n) fun xs y h=>ma tys_ok (Zs n) mixed (hint:=kL n) (n:=n) Tryz.func47 (ya (Y3 n)) (la (φ:=(fun y=>some (Out.ret (Ya (.one K0) y)))) (by kernel_rfl) (Ofb n xs.1 _) h)
def cI (n:Nat):List Entry:=xx n::uq n
theorem VF (n:Nat):AllOk Tryz.prog gl (cI n):=.cons (dI n) (Zs n)
def vA (n:Nat) {R:Type} (c:T0) (k:U3→Option R):Option R:=(QQ n c).bind fun v=>if (!v)=true then k ((0:Int),((0:Int),((0:Int),((⟨#[]⟩:BA),(false,((0:Int),((⟨#[]⟩:BA),(false,((⟨#[]⟩:BA),((⟨#[]⟩:BA),((0:Int),(false,((1:Int),((⟨0,fun _=>ta (.pair .str (.pair .str .unit))⟩:Sq U0),((⟨0,fun _=>ta .str⟩:Sq BA),()))))))))))))))) else (xi n c).bind fun v1=>k (v1.1,(v1.2.1,(v1.2.2.1,(v1.2.2.2.1,(v1.2.2.2.2.1,(v1.2.2.2.2.2.1,(v1.2.2.2.2.2.2.1,(v1.2.2.2.2.2.2.2.1,(v1.2.2.2.2.2.2.2.2.1,(v1.2.2.2.2.2.2.2.2.2.1,(v1.2.2.2.2.2.2.2.2.2.2.1,(v1.2.2.2.2.2.2.2.2.2.2.2.1,((0:Int),(v1.2.2.2.2.2.2.2.2.2.2.2.2.1,(v1.2.2.2.2.2.2.2.2.2.2.2.2.2.1,())))))))))))))))
def ji (n:Nat) (c:T0):Option U3:=vA n c some
theorem d7 (n:Nat) {S:Type}:∀ c (φ:_→Option S),(ji n c).bind φ=vA n c φ:=by
  intros;unfold ji vA;first | (simp only [ja,fa,iB,bB,oL,oX,nB,Option.bind_some]) | rfl
def wA (n:Nat):Hint OutS:={ live:=fun c=>[],run:=fun c=>none,xm:=fun c q=>none,pr:=[(0,10,25),(0,11,9)] }
theorem NT (n:Nat):qa tys (ia OutS (cI n)).keep (wA n) n (ba Tryz.f48) 0:=na (fun _=>rfl) _ _ (by kernel_rfl)
theorem yX (n:Nat):Enters Tryz.prog 48:=enters_of (c:=ba Tryz.f48) Tryz.func48 (by kernel_rfl) (by kernel_rfl)
def Kn:List RSp:=[.one (.dat K0)]
def Jn:List RS:=[]
def zX:List Sl:=[.top]
def AX:List RSp:=[.agg [.dat (.int .i64),.dat (.int .i64),.dat (.int .i64),.dat .str,.dat .bool,.dat (.int .i64),.dat .str,.dat .bool,.dat .str,.dat .str,.row 0,.row 1,.dat (.int .i64),.dat .bool],.one (.dat (.int .i64))]
def Xk:List RS:=[.row 25 2 (.pair .str (.pair .str .unit)) true true,.row 9 1 .str true true]
def Gl (y:U3):OutS:=⟨false,km (cc Xk (y.2.2.2.2.2.2.2.2.2.2.2.2.2.1,(y.2.2.2.2.2.2.2.2.2.2.2.2.2.2.1,()))) zX (),OC (Vz (cc Xk (y.2.2.2.2.2.2.2.2.2.2.2.2.2.1,(y.2.2.2.2.2.2.2.2.2.2.2.2.2.2.1,()))) AX ((y.1,(y.2.1,(y.2.2.1,(y.2.2.2.1,(y.2.2.2.2.1,(y.2.2.2.2.2.1,(y.2.2.2.2.2.2.1,(y.2.2.2.2.2.2.2.1,(y.2.2.2.2.2.2.2.2.1,(y.2.2.2.2.2.2.2.2.2.1,(y.2.2.2.2.2.2.2.2.2.2.1,(y.2.2.2.2.2.2.2.2.2.2.2.1,())))))))))))),((y.2.2.2.2.2.2.2.2.2.2.2.2.1,()),()))),ir (cc Xk (y.2.2.2.2.2.2.2.2.2.2.2.2.2.1,(y.2.2.2.2.2.2.2.2.2.2.2.2.2.2.1,()))) Xk (y.2.2.2.2.2.2.2.2.2.2.2.2.2.1,(y.2.2.2.2.2.2.2.2.2.2.2.2.2.2.1,()))⟩
theorem Tw (n:Nat):EntryOk Tryz.prog gl ⟨48,vd,none,some (csT Kn Jn (fun σ ρ=>ji n σ.1.1) Gl)⟩:=pd (yX n) fun σ ρ y h=>If tys_ok (VF n) mixed (hint:=wA n) (n:=n) Tryz.func48 (ya (NT n)) (la (φ:=fun y=>some (Gl y)) (by kernel_rfl) (d7 n σ.1.1 _) h)
def Sw (n:Nat):List Entry:=⟨48,vd,none,some (csT Kn Jn (fun σ ρ=>ji n σ.1.1) Gl)⟩::cI n
theorem Hy (n:Nat):AllOk Tryz.prog gl (Sw n):=.cons (Tw n) (VF n)
def MB (n:Nat) {R:Type} (id tenant ip:Int) (k:Bool→Option R):Option R:=if (decide (id≥(1:Int)))=true then if (decide (id≤(1099511627776:Int)))=true then (NU n tenant (3:Int)).bind fun v=>if v=true then (NU n ip (1099511627776:Int)).bind fun v1=>k v1 else k false else k false else k false
def PD (n:Nat) (id tenant ip:Int):Option Bool:=MB n id tenant ip some
theorem J8 (n:Nat) {S:Type}:∀ id tenant ip (φ:_→Option S),(PD n id tenant ip).bind φ=MB n id tenant ip φ:=by
  intros;unfold PD MB;first | (simp only [ja,fa,iB,bB,oL,oX,nB,Option.bind_some]) | rfl
def NB (n:Nat):Hint Out:={ live:=fun c=>[],run:=fun c=>none,xm:=fun c q=>none }
theorem lV (n:Nat):qa tys (ia Out (Sw n)) (NB n) n (ba Tryz.f49) 0:=na (fun _=>rfl) _ _ (by kernel_rfl)
theorem lY (n:Nat):Enters Tryz.prog 49:=enters_of (c:=ba Tryz.f49) Tryz.func49 (by kernel_rfl) (by kernel_rfl)
def eo (n:Nat):Entry:=⟨49,pcT (.pair (.int .i64) (.pair (.int .i64) (.pair (.int .i64) .unit))) (.one .bool) (fun xs=>PD n xs.1 xs.2.1 xs.2.2.1),none,none⟩
theorem ux (n:Nat):EntryOk Tryz.prog gl (eo n):=wa (lY n) fun xs y h=>ma tys_ok (Hy n) mixed (hint:=NB n) (n:=n) Tryz.func49 (ya (lV n)) (la (φ:=(fun y=>some (Out.ret (Ya (.one .bool) y)))) (by kernel_rfl) (J8 n xs.1 xs.2.1 xs.2.2.1 _) h)
def tx (n:Nat):List Entry:=eo n::Sw n
theorem Sy (n:Nat):AllOk Tryz.prog gl (tx n):=.cons (ux n) (Hy n)
def mV (n:Nat) {R:Type} (id tenant ip:Int) (k:T0→Option R):Option R:=k (id,(tenant,(ip,(((⟨#[]⟩:BA),(false,())),((0:Int),((⟨#[]⟩:BA),(false,(((⟨#[]⟩:BA),((⟨#[]⟩:BA),())),((⟨0,fun _=>ta (.pair .str (.pair .str .unit))⟩:Sq U0),((⟨0,fun _=>ta .str⟩:Sq BA),((0:Int),(false,()))))))))))))
def X3 (n:Nat) (id tenant ip:Int):Option T0:=mV n id tenant ip some
theorem xib (n:Nat) {S:Type}:∀ id tenant ip (φ:_→Option S),(X3 n id tenant ip).bind φ=mV n id tenant ip φ:=by
  intros;unfold X3 mV;first | (simp only [ja,fa,iB,bB,oL,oX,nB,Option.bind_some]) | rfl
def kQ (n:Nat):Hint Out:={ live:=fun c=>[],run:=fun c=>none,xm:=fun c q=>none }
theorem L8 (n:Nat):qa tys (ia Out (tx n)) (kQ n) n (ba Tryz.f50) 0:=na (fun _=>rfl) _ _ (by kernel_rfl)
theorem ocb (n:Nat):Enters Tryz.prog 50:=enters_of (c:=ba Tryz.f50) Tryz.func50 (by kernel_rfl) (by kernel_rfl)
def QD (n:Nat):Entry:=⟨50,pcT (.pair (.int .i64) (.pair (.int .i64) (.pair (.int .i64) .unit))) (.one K0) (fun xs=>X3 n xs.1 xs.2.1 xs.2.2.1),none,none⟩
theorem fO (n:Nat):EntryOk Tryz.prog gl (QD n):=wa (ocb n) fun xs y h=>ma tys_ok (Sy n) mixed (hint:=kQ n) (n:=n) Tryz.func50 (ya (L8 n)) (la (φ:=(fun y=>some (Out.ret (Ya (.one K0) y)))) (by kernel_rfl) (xib n xs.1 xs.2.1 xs.2.2.1 _) h)
def eO (n:Nat):List Entry:=QD n::tx n
theorem jL (n:Nat):AllOk Tryz.prog gl (eO n):=.cons (fO n) (Sy n)
def Rw (n:Nat) {R:Type} (id tenant ip:Int) (k:U3→Option R):Option R:=(QQ n (id,(tenant,(ip,(((⟨#[]⟩:BA),(false,())),((0:Int),((⟨#[]⟩:BA),(false,(((⟨#[]⟩:BA),((⟨#[]⟩:BA),())),((⟨0,fun _=>ta (.pair .str (.pair .str .unit))⟩:Sq U0),((⟨0,fun _=>ta .str⟩:Sq BA),((0:Int),(false,()))))))))))))).bind fun v=>if (!v)=true then k ((0:Int),((0:Int),((0:Int),((⟨#[]⟩:BA),(false,((0:Int),((⟨#[]⟩:BA),(false,((⟨#[]⟩:BA),((⟨#[]⟩:BA),((0:Int),(false,((1:Int),((⟨0,fun _=>ta (.pair .str (.pair .str .unit))⟩:Sq U0),((⟨0,fun _=>ta .str⟩:Sq BA),()))))))))))))))) else k (id,(tenant,(ip,((⟨#[]⟩:BA),(false,((0:Int),((⟨#[]⟩:BA),(false,((⟨#[]⟩:BA),((⟨#[]⟩:BA),((0:Int),(false,((0:Int),((⟨0,fun _=>ta (.pair .str (.pair .str .unit))⟩:Sq U0),((⟨0,fun _=>ta .str⟩:Sq BA),())))))))))))))))
def ch (n:Nat) (id tenant ip:Int):Option U3:=Rw n id tenant ip some
theorem obb (n:Nat) {S:Type}:∀ id tenant ip (φ:_→Option S),(ch n id tenant ip).bind φ=Rw n id tenant ip φ:=by
  intros;unfold ch Rw;first | (simp only [ja,fa,iB,bB,oL,oX,nB,Option.bind_some]) | rfl
def tF (n:Nat):Hint OutS:={ live:=fun c=>[],run:=fun c=>none,xm:=fun c q=>none,pr:=[(0,10,25),(0,11,9)] }
theorem xX (n:Nat):qa tys (ia OutS (eO n)).keep (tF n) n (ba Tryz.f41) 0:=na (fun _=>rfl) _ _ (by kernel_rfl)
theorem M1 (n:Nat):Enters Tryz.prog 41:=enters_of (c:=ba Tryz.f41) Tryz.func41 (by kernel_rfl) (by kernel_rfl)
def Yq:List RSp:=[.one (.dat (.int .i64)),.one (.dat (.int .i64)),.one (.dat (.int .i64))]
def Xq:List RS:=[]
def N1:List Sl:=[.top,.top,.top]
def O1:List RSp:=[.agg [.dat (.int .i64),.dat (.int .i64),.dat (.int .i64),.dat .str,.dat .bool,.dat (.int .i64),.dat .str,.dat .bool,.dat .str,.dat .str,.row 0,.row 1,.dat (.int .i64),.dat .bool],.one (.dat (.int .i64))]
def In:List RS:=[.row 25 2 (.pair .str (.pair .str .unit)) true true,.row 9 1 .str true true]
def fp (y:U3):OutS:=⟨false,km (cc In (y.2.2.2.2.2.2.2.2.2.2.2.2.2.1,(y.2.2.2.2.2.2.2.2.2.2.2.2.2.2.1,()))) N1 (),OC (Vz (cc In (y.2.2.2.2.2.2.2.2.2.2.2.2.2.1,(y.2.2.2.2.2.2.2.2.2.2.2.2.2.2.1,()))) O1 ((y.1,(y.2.1,(y.2.2.1,(y.2.2.2.1,(y.2.2.2.2.1,(y.2.2.2.2.2.1,(y.2.2.2.2.2.2.1,(y.2.2.2.2.2.2.2.1,(y.2.2.2.2.2.2.2.2.1,(y.2.2.2.2.2.2.2.2.2.1,(y.2.2.2.2.2.2.2.2.2.2.1,(y.2.2.2.2.2.2.2.2.2.2.2.1,())))))))))))),((y.2.2.2.2.2.2.2.2.2.2.2.2.1,()),()))),ir (cc In (y.2.2.2.2.2.2.2.2.2.2.2.2.2.1,(y.2.2.2.2.2.2.2.2.2.2.2.2.2.2.1,()))) In (y.2.2.2.2.2.2.2.2.2.2.2.2.2.1,(y.2.2.2.2.2.2.2.2.2.2.2.2.2.2.1,()))⟩
theorem uA (n:Nat):EntryOk Tryz.prog gl ⟨41,vd,none,some (csT Yq Xq (fun σ ρ=>ch n σ.1.1 σ.2.1.1 σ.2.2.1.1) fp)⟩:=pd (M1 n) fun σ ρ y h=>If tys_ok (jL n) mixed (hint:=tF n) (n:=n) Tryz.func41 (ya (xX n)) (la (φ:=fun y=>some (fp y)) (by kernel_rfl) (obb n σ.1.1 σ.2.1.1 σ.2.2.1.1 _) h)
def sA (n:Nat):List Entry:=⟨41,vd,none,some (csT Yq Xq (fun σ ρ=>ch n σ.1.1 σ.2.1.1 σ.2.2.1.1) fp)⟩::eO n
theorem tA (n:Nat):AllOk Tryz.prog gl (sA n):=.cons (uA n) (jL n)
def WU (n:Nat) {R:Type} (line:BA) (k:(BA×Bool×Unit)→Option R):Option R:=if (line.toList==(⟨#[46]⟩:BA).toList)=true then k ((⟨#[]⟩:BA),(true,())) else if (decide ((line.size:Int)>(0:Int)))=true then if 0≤(0:Int)∧(0:Int)<(line.size:Int) then if ((bt line (0:Int))==(46:Int))=true then if 0≤(1:Int)∧(1:Int)≤(line.size:Int) then k ((line.extract (Int.toNat (1:Int)) (Int.toNat (line.size:Int))),(false,())) else none else k (line,(false,())) else none else k (line,(false,()))
def R3 (n:Nat) (line:BA):Option (BA×Bool×Unit):=WU n line some
theorem uib (n:Nat) {S:Type}:∀ line (φ:_→Option S),(R3 n line).bind φ=WU n line φ:=by
  intros;unfold R3 WU;first | (simp only [ja,fa,iB,bB,oL,oX,nB,Option.bind_some]) | rfl
def fQ (n:Nat):Hint Out:={ live:=fun c=>[],run:=fun c=>none,xm:=fun c q=>none }
theorem F8 (n:Nat):qa tys (ia Out (sA n)) (fQ n) n (ba Tryz.f104) 0:=na (fun _=>rfl) _ _ (by kernel_rfl)
theorem kcb (n:Nat):Enters Tryz.prog 104:=enters_of (c:=ba Tryz.f104) Tryz.func104 (by kernel_rfl) (by kernel_rfl)
def ND (n:Nat):Entry:=⟨104,pcT (.pair .str .unit) (.many (.pair .str (.pair .bool .unit))) (fun xs=>R3 n xs.1),none,none⟩
theorem bO (n:Nat):EntryOk Tryz.prog gl (ND n):=wa (kcb n) fun xs y h=>ma tys_ok (tA n) mixed (hint:=fQ n) (n:=n) Tryz.func104 (ya (F8 n)) (la (φ:=(fun y=>some (Out.ret (Ya (.many (.pair .str (.pair .bool .unit))) y)))) (by kernel_rfl) (uib n xs.1 _) h)
def aO (n:Nat):List Entry:=ND n::sA n
theorem fL (n:Nat):AllOk Tryz.prog gl (aO n):=.cons (bO n) (tA n)
def OB (n:Nat) {R:Type} (c c1 c2:Int) (c3:BA) (c4:Bool) (c5:Int) (c6:BA) (c7:Bool) (c8 c9:BA) (c10:Int) (c11:Bool) (l:U9) (r0:(Sq U0)) (r1:(Sq BA)) (k:U14→Option R):Option R:=(R3 n l.1).bind fun v=>if (!l.2.1)=true then if v.2.1=true then k ((c,(c1,(c2,((c3,(c4,())),(c5,(c6,(c7,((c8,(c9,())),(r0,(r1,(c10,(c11,())))))))))))),((0:Int),((⟨#[115,101,110,100]⟩:BA),()))) else if c11=true then k ((c,(c1,(c2,((c3,(c4,())),(c5,(c6,(c7,((c8,(c9,())),(r0,(r1,(c10,(c11,())))))))))))),((0:Int),((⟨#[]⟩:BA),()))) else if l.2.1=false then (MD n v.1).bind fun v1=>if (!v1)=false then if (decide ((IntKind.wrap .i64 ((IntKind.wrap .i64 (c10+(v.1.size:Int)))+(2:Int)))>(8192:Int)))=true then k ((c,(c1,(c2,((c3,(c4,())),(c5,(c6,(c7,((c8,(c9,())),(r0,((⟨0,fun _=>ta .str⟩:Sq BA),((0:Int),(true,())))))))))))),((0:Int),((⟨#[]⟩:BA),()))) else if ib (r1.n+1) 16=true then k ((c,(c1,(c2,((c3,(c4,())),(c5,(c6,(c7,((c8,(c9,())),(r0,((⟨(r1.n+1),fun q=>if q<r1.n then r1.at' q else (fun q=>List.getD (α:=BA) [v.1] q (ta .str)) (q - r1.n)⟩:Sq BA),((IntKind.wrap .i64 ((IntKind.wrap .i64 (c10+(v.1.size:Int)))+(2:Int))),(c11,())))))))))))),((0:Int),((⟨#[]⟩:BA),())))
 else none else k ((c,(c1,(c2,((c3,(c4,())),(c5,(c6,(c7,((c8,(c9,())),(r0,((⟨0,fun _=>ta .str⟩:Sq BA),((0:Int),(true,())))))))))))),((0:Int),((⟨#[]⟩:BA),()))) else k ((c,(c1,(c2,((c3,(c4,())),(c5,(c6,(c7,((c8,(c9,())),(r0,((⟨0,fun _=>ta .str⟩:Sq BA),((0:Int),(true,())))))))))))),((0:Int),((⟨#[]⟩:BA),()))) else if c11=true then k ((c,(c1,(c2,((c3,(c4,())),(c5,(c6,(c7,((c8,(c9,())),(r0,(r1,(c10,(c11,())))))))))))),((0:Int),((⟨#[]⟩:BA),()))) else if l.2.1=false then (MD n v.1).bind fun v2=>if (!v2)=false then if (decide ((IntKind.wrap .i64 ((IntKind.wrap .i64 (c10+(v.1.size:Int)))+(2:Int)))>(8192:Int)))=true then k ((c,(c1,(c2,((c3,(c4,())),(c5,(c6,(c7,((c8,(c9,())),(r0,((⟨0,fun _=>ta .str⟩:Sq BA),((0:Int),(true,())))))))))))),((0:Int),((⟨#[]⟩:BA),()))) else if ib (r1.n+1) 16=true then k ((c,(c1,(c2,((c3,(c4,())),(c5,(c6,(c7,((c8,(c9,())),(r0,((⟨(r1.n+1),fun q=>if q<r1.n then r1.at' q else (fun q=>List.getD (α:=BA) [v.1] q (ta .str)) (q - r1.n)⟩:Sq BA),((IntKind.wrap .i64 ((IntKind.wrap .i64 (c10+(v.1.size:Int)))+(2:Int))),(c11,())))))))))))),((0:Int),((⟨#[]⟩:BA),()))) else none else k ((c,(c1,(c2,((c3,(c4,())),(c5,(c6,(c7,((c8,(c9,())),(r0,((⟨0,fun _=>ta .str⟩:Sq BA),((0:Int),(true,())))))))))))),((0:Int),((⟨#[]⟩:BA),())))
 else k ((c,(c1,(c2,((c3,(c4,())),(c5,(c6,(c7,((c8,(c9,())),(r0,((⟨0,fun _=>ta .str⟩:Sq BA),((0:Int),(true,())))))))))))),((0:Int),((⟨#[]⟩:BA),())))
def Yj (n:Nat) (c c1 c2:Int) (c3:BA) (c4:Bool) (c5:Int) (c6:BA) (c7:Bool) (c8 c9:BA) (c10:Int) (c11:Bool) (l:U9) (r0:(Sq U0)) (r1:(Sq BA)):Option U14:=OB n c c1 c2 c3 c4 c5 c6 c7 c8 c9 c10 c11 l r0 r1 some
theorem Q8 (n:Nat) {S:Type}:∀ c c1 c2 c3 c4 c5 c6 c7 c8 c9 c10 c11 l r0 r1 (φ:_→Option S),(Yj n c c1 c2 c3 c4 c5 c6 c7 c8 c9 c10 c11 l r0 r1).bind φ=OB n c c1 c2 c3 c4 c5 c6 c7 c8 c9 c10 c11 l r0 r1 φ:=by
  intros;unfold Yj OB;first | (simp only [ja,fa,iB,bB,oL,oX,nB,Option.bind_some]) | rfl
def PB (n:Nat):Hint OutS:={ live:=fun c=>[],run:=fun c=>none,xm:=fun c q=>none,fz:=true }
theorem uV (n:Nat):qa tys (ia OutS (aO n)) (PB n) n (ba Tryz.f77) 0:=na (fun _=>rfl) _ _ (by kernel_rfl)
theorem mY (n:Nat):Enters Tryz.prog 77:=enters_of (c:=ba Tryz.f77) Tryz.func77 (by kernel_rfl) (by kernel_rfl)
def io:List RSp:=[.agg [.dat (.int .i64),.dat (.int .i64),.dat (.int .i64),.dat .str,.dat .bool,.dat (.int .i64),.dat .str,.dat .bool,.dat .str,.dat .str,.row 0,.row 1,.dat (.int .i64),.dat .bool],.one (.dat (.pair .str (.pair .bool .unit)))]
def go:List RS:=[.row 25 2 (.pair .str (.pair .str .unit)) true false,.row 9 1 .str true false]
def nY:List Sl:=[.top,.top]
def oY:List RSp:=[.one (.dat K0),.one (.dat (.int .i64)),.one (.dat .str)]
def ql:List RS:=[]
def Pl (y:U14):OutS:=⟨false,km (cc ql ()) nY (),OC (Vz (cc ql ()) oY ((y.1,()),((y.2.1,()),((y.2.2.1,()),())))),ir (cc ql ()) ql ()⟩
theorem Ax (n:Nat):EntryOk Tryz.prog gl ⟨77,vd,none,some (csT io go (fun σ ρ=>Yj n σ.1.1 σ.1.2.1 σ.1.2.2.1 σ.1.2.2.2.1 σ.1.2.2.2.2.1 σ.1.2.2.2.2.2.1 σ.1.2.2.2.2.2.2.1 σ.1.2.2.2.2.2.2.2.1 σ.1.2.2.2.2.2.2.2.2.1 σ.1.2.2.2.2.2.2.2.2.2.1 σ.1.2.2.2.2.2.2.2.2.2.2.1 σ.1.2.2.2.2.2.2.2.2.2.2.2.1 σ.2.1.1 ρ.1 ρ.2.1) Pl)⟩:=pd (mY n) fun σ ρ y h=>Ta tys_ok (fL n) mixed (hint:=PB n) (n:=n) Tryz.func77 (ya (uV n)) (la (φ:=fun y=>some (Pl y)) (by kernel_rfl) (Q8 n σ.1.1 σ.1.2.1 σ.1.2.2.1 σ.1.2.2.2.1 σ.1.2.2.2.2.1 σ.1.2.2.2.2.2.1 σ.1.2.2.2.2.2.2.1 σ.1.2.2.2.2.2.2.2.1 σ.1.2.2.2.2.2.2.2.2.1 σ.1.2.2.2.2.2.2.2.2.2.1 σ.1.2.2.2.2.2.2.2.2.2.2.1 σ.1.2.2.2.2.2.2.2.2.2.2.2.1 σ.2.1.1 ρ.1 ρ.2.1 _) h)
def zx (n:Nat):List Entry:=⟨77,vd,none,some (csT io go (fun σ ρ=>Yj n σ.1.1 σ.1.2.1 σ.1.2.2.1 σ.1.2.2.2.1 σ.1.2.2.2.2.1 σ.1.2.2.2.2.2.1 σ.1.2.2.2.2.2.2.1 σ.1.2.2.2.2.2.2.2.1 σ.1.2.2.2.2.2.2.2.2.1 σ.1.2.2.2.2.2.2.2.2.2.1 σ.1.2.2.2.2.2.2.2.2.2.2.1 σ.1.2.2.2.2.2.2.2.2.2.2.2.1 σ.2.1.1 ρ.1 ρ.2.1) Pl)⟩::aO n
theorem Vy (n:Nat):AllOk Tryz.prog gl (zx n):=.cons (Ax n) (fL n)
def GV (n:Nat) {R:Type} (kind:Int) (k:BA→Option R):Option R:=if (kind==(1:Int))=true then k (⟨#[72,69,76,79]⟩:BA) else if (kind==(2:Int))=true then k (⟨#[69,72,76,79]⟩:BA) else if (kind==(3:Int))=true then k (⟨#[77,65,73,76]⟩:BA) else if (kind==(4:Int))=true then k (⟨#[82,67,80,84]⟩:BA) else if (kind==(5:Int))=true then k (⟨#[68,65,84,65]⟩:BA) else if (kind==(6:Int))=true then k (⟨#[82,83,69,84]⟩:BA) else if (kind==(7:Int))=true then k (⟨#[78,79,79,80]⟩:BA) else if (kind==(8:Int))=true then k (⟨#[81,85,73,84]⟩:BA) else k (⟨#[86,82,70,89]⟩:BA)
def I4 (n:Nat) (kind:Int):Option BA:=GV n kind some
theorem Cib (n:Nat) {S:Type}:∀ kind (φ:_→Option S),(I4 n kind).bind φ=GV n kind φ:=by
  intros;unfold I4 GV;first | (simp only [ja,fa,iB,bB,oL,oX,nB,Option.bind_some]) | rfl
def sQ (n:Nat):Hint Out:={ live:=fun c=>[],run:=fun c=>none,xm:=fun c q=>none }
theorem g9 (n:Nat):qa tys (ia Out (zx n)) (sQ n) n (ba Tryz.f106) 0:=na (fun _=>rfl) _ _ (by kernel_rfl)
theorem Bcb (n:Nat):Enters Tryz.prog 106:=enters_of (c:=ba Tryz.f106) Tryz.func106 (by kernel_rfl) (by kernel_rfl)
def WD (n:Nat):Entry:=⟨106,pcT (.pair (.int .i64) .unit) (.one .str) (fun xs=>I4 n xs.1),none,none⟩
theorem mO (n:Nat):EntryOk Tryz.prog gl (WD n):=wa (Bcb n) fun xs y h=>ma tys_ok (Vy n) mixed (hint:=sQ n) (n:=n) Tryz.func106 (ya (g9 n)) (la (φ:=(fun y=>some (Out.ret (Ya (.one .str) y)))) (by kernel_rfl) (Cib n xs.1 _) h)
def Xv (n:Nat):List Entry:=WD n::zx n
theorem ML (n:Nat):AllOk Tryz.prog gl (Xv n):=.cons (mO n) (Vy n)
def Rf (n:Nat) {R:Type} (i:Int) (b:(Sq Int)) (kn:Int→(Sq Int)→Option R) (ko:((Sq Int))→Option R) (kr:Unit→Option R) (kp:Int→Option R):Option R:=if (decide (i<(b.n:Int)))=true then if 0≤i∧i<(b.n:Int) then if (decide ((b.at' (Int.toNat i))≥(65:Int)))=true then if 0≤i∧i<(b.n:Int) then if (decide ((b.at' (Int.toNat i))≤(90:Int)))=true then if 0≤i∧i<(b.n:Int) then if 0≤i∧i<(b.n:Int) then kn (IntKind.wrap .i64 (i+(1:Int))) (⟨b.n,fun q=>if q=(Int.toNat i)∧q<b.n then (IntKind.wrap .u8 ((b.at' (Int.toNat i))+(32:Int))) else b.at' q⟩:Sq Int) else none else none else kn (IntKind.wrap .i64 (i+(1:Int))) b else none else kn (IntKind.wrap .i64 (i+(1:Int))) b else none else ko b
def Db (n:Nat):Nat→Int→(Sq Int)→Option (Lx ((Sq Int)) Unit)
 | 0,_,_=>none
 | m+1,i,b=>Rf n i b (Db n m) (fun a=>some (.out a)) (fun a=>some (.ret a)) (fun p=>some (.pan p))
theorem A3 (n m:Nat) {S:Type}:∀ i b (φ:_→Option S),(Db n (m+1) i b).bind φ=Rf n i b (fun i b=>(Db n m i b).bind φ) (fun a=>φ (.out a)) (fun a=>φ (.ret a)) (fun p=>φ (.pan p)):=by
  intros;first | (simp only [Db,Rf,ja,fa,iB,bB,oL,oX,nB,Option.bind_some]) | rfl
def Ot:List Sl:=.top::.top::.top::.row 0::.dat (.int .i64)::tp 30 []
def Nt:List RS:=[.row 5 1 (.int .u8) false true]
def IK:List Sl:=.top::.top::.top::.row 0::tp 31 []
def GK:List RS:=[.row 5 1 (.int .u8) false true]
def Ie (K:XE→List AV→oa→Option Out):Lx ((Sq Int)) Unit→Option Out:=fun x=>onL x (fun a=>yb IK GK () (a,()) (K (.exit 0))) (fun _=>none) (fun _=>none)
def GD (n:Nat) {R:Type} (s:BA) (k:BA→Option R):Option R:=(Db n n (0:Int) (⟨s.size,fun q=>bt s q⟩:Sq Int)).bind fun x_1=>onL x_1 (fun a_2=>k (nw a_2.n a_2.at')) (fun _=>none) (fun _=>none)
def He (n:Nat) (s:BA):Option BA:=GD n s some
theorem Gfb (n:Nat) {S:Type}:∀ s (φ:_→Option S),(He n s).bind φ=GD n s φ:=by
  intros;unfold He GD;first | (simp only [ja,fa,iB,bB,oL,oX,nB,Option.bind_some]) | rfl
def Rn (n:Nat):Hint Out:={ live:=fun c=>(cond (Nat.beq c 0) [(3,some (.sl (.int .u8))),(4,none)] []),run:=fun c=>(cond (Nat.beq c 0) (some (ef Ot Nt fun σ ρ K=>(Db n n σ.1 ρ.1).bind (Ie K))) none),xm:=fun c q=>(cond (Nat.beq c 0&&Nat.beq (q.getD 1000000) 0&&q.isSome) (some [(3,some (.sl (.int .u8)))]) none) }
def Qn (n:Nat) (K:XE→List AV→oa→Option Out) (m:Nat) (i:Int) (b:(Sq Int)):Option Out:=Kb tys (ia Out (Xv n)) (Rn n) n (ra [1,1,0,1,0,0] (ba Tryz.f107)) 0 Ot Nt K m (i,()) (b,())
theorem FK (n:Nat) (K:XE→List AV→oa→Option Out):∀ (m:Nat) i b,Qn n K m i b=(Db n m i b).bind (Ie K)
  | 0,_,_=>by kernel_rfl
  | m+1,i,b=>by
    have h1:Qn n K (m+1) i b=Rf n i b (Qn n K m) (fun a=>Ie K (.out a)) (fun a=>Ie K (.ret a)) (fun p=>Ie K (.pan p)):=by kernel_rfl
    have h2:Qn n K m=fun i b=>(Db n m i b).bind (Ie K):=by
      repeat (refine funext fun _=>?_)
      exact FK n K m _ _
    rw [h1,h2];exact (A3 n m _ _ (Ie K)).symm
theorem ZX (n:Nat):ub tys (ia Out (Xv n)) (Rn n) n (ra [1,1,0,1,0,0] (ba Tryz.f107)) 0:=Aa (sp:=Ot) (rp:=Nt) (by kernel_rfl) fun K σ ρ=>FK n K n σ.1 ρ.1
theorem B3 (n:Nat):qa tys (ia Out (Xv n)) (Rn n) n (ba Tryz.f107) 0:=⟨aa,⟨aa,⟨⟨aa,⟨ZX n,⟨⟨aa,⟨aa,aa⟩⟩,⟨⟨aa,⟨aa,aa⟩⟩,aa⟩⟩⟩⟩,⟨aa,aa⟩⟩⟩⟩
theorem x8 (n:Nat):Enters Tryz.prog 107:=enters_of (c:=ba Tryz.f107) Tryz.func107 (by kernel_rfl) (by kernel_rfl)
def px (n:Nat):Entry:=⟨107,pcT (.pair .str .unit) (.one .str) (fun xs=>He n xs.1),none,none⟩
theorem fH (n:Nat):EntryOk Tryz.prog gl (px n):=wa (x8 n) fun xs y h=>ma tys_ok (ML n) mixed (hint:=Rn n) (n:=n) Tryz.func107 (ya (B3 n)) (la (φ:=(fun y=>some (Out.ret (Ya (.one .str) y)))) (by kernel_rfl) (Gfb n xs.1 _) h)
def eH (n:Nat):List Entry:=px n::Xv n
theorem EF (n:Nat):AllOk Tryz.prog gl (eH n):=.cons (fH n) (ML n)
def zI (n:Nat) {R:Type} (s with0:BA) (k:Bool→Option R):Option R:=if (decide ((s.size:Int)≥(with0.size:Int)))=true then if 0≤(with0.size:Int)∧(with0.size:Int)≤(s.size:Int) then (He n (s.extract (Int.toNat (0:Int)) (Int.toNat (with0.size:Int)))).bind fun v=>(He n with0).bind fun v1=>k (v.toList==v1.toList) else none else k false
def fq (n:Nat) (s with0:BA):Option Bool:=zI n s with0 some
theorem xcb (n:Nat) {S:Type}:∀ s with0 (φ:_→Option S),(fq n s with0).bind φ=zI n s with0 φ:=by
  intros;unfold fq zI;first | (simp only [ja,fa,iB,bB,oL,oX,nB,Option.bind_some]) | rfl
def bG (n:Nat):Hint Out:={ live:=fun c=>[],run:=fun c=>none,xm:=fun c q=>none }
theorem vY (n:Nat):qa tys (ia Out (eH n)) (bG n) n (ba Tryz.f105) 0:=na (fun _=>rfl) _ _ (by kernel_rfl)
theorem D4 (n:Nat):Enters Tryz.prog 105:=enters_of (c:=ba Tryz.f105) Tryz.func105 (by kernel_rfl) (by kernel_rfl)
def Zr (n:Nat):Entry:=⟨105,pcT (.pair .str (.pair .str .unit)) (.one .bool) (fun xs=>fq n xs.1 xs.2.1),none,none⟩
theorem WB (n:Nat):EntryOk Tryz.prog gl (Zr n):=wa (D4 n) fun xs y h=>ma tys_ok (EF n) mixed (hint:=bG n) (n:=n) Tryz.func105 (ya (vY n)) (la (φ:=(fun y=>some (Out.ret (Ya (.one .bool) y)))) (by kernel_rfl) (xcb n xs.1 xs.2.1 _) h)
def Ql (n:Nat):List Entry:=Zr n::eH n
theorem VB (n:Nat):AllOk Tryz.prog gl (Ql n):=.cons (WB n) (EF n)
def vo (n:Nat) {R:Type} (s1:BA) (quoted:Bool) (i:Int) (kn:BA→Bool→Int→Option R) (ko:(BA)→Option R) (kr:(Int)→Option R) (kp:Int→Option R):Option R:=if (decide (i<(s1.size:Int)))=true then if quoted=true then if 0≤i∧i<(s1.size:Int) then if ((bt s1 i)==(92:Int))=true then kn s1 quoted (IntKind.wrap .i64 ((IntKind.wrap .i64 (i+(1:Int)))+(1:Int))) else if 0≤i∧i<(s1.size:Int) then if ((bt s1 i)==(34:Int))=true then if 0≤i∧i<(s1.size:Int) then if ((bt s1 i)==(62:Int))=true then if (!(!quoted))=true then kr (IntKind.wrap .i64 (i+(1:Int))) else kn s1 (!quoted) (IntKind.wrap .i64 (i+(1:Int))) else kn s1 (!quoted) (IntKind.wrap .i64 (i+(1:Int))) else none else if 0≤i∧i<(s1.size:Int) then if ((bt s1 i)==(62:Int))=true then if (!quoted)=true then kr (IntKind.wrap .i64 (i+(1:Int))) else kn s1 quoted (IntKind.wrap .i64 (i+(1:Int))) else kn s1 quoted (IntKind.wrap .i64 (i+(1:Int))) else none else none else none else if 0≤i∧i<(s1.size:Int) then if ((bt s1 i)==(34:Int))=true then if 0≤i∧i<(s1.size:Int) then if ((bt s1 i)==(62:Int))=true then if (!(!quoted))=true then kr (IntKind.wrap .i64 (i+(1:Int))) else kn s1 (!quoted) (IntKind.wrap .i64 (i+(1:Int))) else kn s1 (!quoted) (IntKind.wrap .i64 (i+(1:Int))) else none else if 0≤i∧i<(s1.size:Int) then if ((bt s1 i)==(62:Int))=true then
 if (!quoted)=true then kr (IntKind.wrap .i64 (i+(1:Int))) else kn s1 quoted (IntKind.wrap .i64 (i+(1:Int))) else kn s1 quoted (IntKind.wrap .i64 (i+(1:Int))) else none else none else ko s1
def Cd (n:Nat):Nat→BA→Bool→Int→Option (Lx (BA) (Int))
 | 0,_,_,_=>none
 | m+1,s1,quoted,i=>vo n s1 quoted i (Cd n m) (fun a=>some (.out a)) (fun a=>some (.ret a)) (fun p=>some (.pan p))
theorem HV (n m:Nat) {S:Type}:∀ s1 quoted i (φ:_→Option S),(Cd n (m+1) s1 quoted i).bind φ=vo n s1 quoted i (fun s1 quoted i=>(Cd n m s1 quoted i).bind φ) (fun a=>φ (.out a)) (fun a=>φ (.ret a)) (fun p=>φ (.pan p)):=by
  intros;first | (simp only [Cd,vo,ja,fa,iB,bB,oL,oX,nB,Option.bind_some]) | rfl
def Am:List Sl:=.dat .str::.top::.top::.dat .bool::.dat (.int .i64)::tp 33 []
def zm:List RS:=[]
def PE:List Sl:=.dat .str::tp 37 []
def OE:List RS:=[]
def RE:List Sl:=.top::.top::.dat (.int .i64)::tp 35 []
def QE:List RS:=[]
def Zc (K:XE→List AV→oa→Option Out):Lx (BA) (Int)→Option Out:=fun x=>onL x (fun a=>yb PE OE (a,()) () (K (.exit 0))) (fun a=>yb RE QE (a,()) () (K .ret)) (fun _=>none)
def YB (n:Nat) {R:Type} (s:BA) (k:Int→Option R):Option R:=(Cd n n s false (0:Int)).bind fun x_1=>onL x_1 (fun a_2=>k (a_2.size:Int)) (fun a_3=>k a_3) (fun _=>none)
def XD (n:Nat) (s:BA):Option Int:=YB n s some
theorem j9 (n:Nat) {S:Type}:∀ s (φ:_→Option S),(XD n s).bind φ=YB n s φ:=by
  intros;unfold XD YB;first | (simp only [ja,fa,iB,bB,oL,oX,nB,Option.bind_some]) | rfl
def fj (n:Nat):Hint Out:={ live:=fun c=>(cond (Nat.beq c 0) (lv [0,3,4]) []),run:=fun c=>(cond (Nat.beq c 0) (some (ef Am zm fun σ ρ K=>(Cd n n σ.1 σ.2.1 σ.2.2.1).bind (Zc K))) none),xm:=fun c q=>(cond (Nat.beq c 0&&Nat.beq (q.getD 1000000) 0&&q.isSome) (some [(0,none)]) (cond (Nat.beq c 1&&q.isNone) (some [(2,none)]) none)) }
def dj (n:Nat) (K:XE→List AV→oa→Option Out) (m:Nat) (s1:BA) (quoted:Bool) (i:Int):Option Out:=Kb tys (ia Out (Ql n)) (fj n) n (ra [1,1,0,1,0,0] (ba Tryz.f108)) 0 Am zm K m (s1,(quoted,(i,()))) ()
theorem ZB (n:Nat) (K:XE→List AV→oa→Option Out):∀ (m:Nat) s1 quoted i,dj n K m s1 quoted i=(Cd n m s1 quoted i).bind (Zc K)
  | 0,_,_,_=>by kernel_rfl
  | m+1,s1,quoted,i=>by
    have h1:dj n K (m+1) s1 quoted i=vo n s1 quoted i (dj n K m) (fun a=>Zc K (.out a)) (fun a=>Zc K (.ret a)) (fun p=>Zc K (.pan p)):=by kernel_rfl
    have h2:dj n K m=fun s1 quoted i=>(Cd n m s1 quoted i).bind (Zc K):=by
      repeat (refine funext fun _=>?_)
      exact ZB n K m _ _ _
    rw [h1,h2];exact (HV n m _ _ _ (Zc K)).symm
theorem wR (n:Nat):ub tys (ia Out (Ql n)) (fj n) n (ra [1,1,0,1,0,0] (ba Tryz.f108)) 0:=Aa (sp:=Am) (rp:=zm) (by kernel_rfl) fun K σ ρ=>ZB n K n σ.1 σ.2.1 σ.2.2.1
theorem IV (n:Nat):qa tys (ia Out (Ql n)) (fj n) n (ba Tryz.f108) 0:=⟨aa,⟨aa,⟨⟨aa,⟨wR n,⟨⟨aa,⟨aa,aa⟩⟩,⟨⟨⟨aa,⟨⟨aa,aa⟩,aa⟩⟩,⟨⟨aa,⟨aa,aa⟩⟩,⟨aa,⟨⟨aa,aa⟩,aa⟩⟩⟩⟩,aa⟩⟩⟩⟩,⟨aa,aa⟩⟩⟩⟩
theorem yY (n:Nat):Enters Tryz.prog 108:=enters_of (c:=ba Tryz.f108) Tryz.func108 (by kernel_rfl) (by kernel_rfl)
def wo (n:Nat):Entry:=⟨108,pcT (.pair .str .unit) (.one (.int .i64)) (fun xs=>XD n xs.1),none,none⟩
theorem Fx (n:Nat):EntryOk Tryz.prog gl (wo n):=wa (yY n) fun xs y h=>ma tys_ok (VB n) mixed (hint:=fj n) (n:=n) Tryz.func108 (ya (IV n)) (la (φ:=(fun y=>some (Out.ret (Ya (.one (.int .i64)) y)))) (by kernel_rfl) (j9 n xs.1 _) h)
def ej (n:Nat):List Entry:=wo n::Ql n
theorem Xy (n:Nat):AllOk Tryz.prog gl (ej n):=.cons (Fx n) (VB n)
end
end Go.Proofs.YtdohilmgblkppaaGreatDoor.AM
