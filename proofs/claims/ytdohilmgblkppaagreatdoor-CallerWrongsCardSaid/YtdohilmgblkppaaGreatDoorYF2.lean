/- Typed functions that tell what the Go functions of this seat answer, and proofs of it, by program (gen.py). -/
import Derived.Test.YtdohilmgblkppaaGreatDoorYF1
set_option linter.all false
set_option linter.unusedVariables false
set_option linter.unusedSimpArgs false
set_option maxRecDepth 1000000
set_option maxHeartbeats 0
namespace Go.Proofs.YtdohilmgblkppaaGreatDoor.AM
open Go Go.RowKit
noncomputable section
def jw (n:Nat) {R:Type} (s:BA) (k:(BA×Int×Unit)→Option R):Option R:=(yn n s).bind fun v=>(Xc n v).bind fun v1=>if (!v1)=true then k ((⟨#[]⟩:BA),((8:Int),())) else k (v,((0:Int),()))
def Oc (n:Nat) (s:BA):Option (BA×Int×Unit):=jw n s some
theorem V6 (n:Nat) {S:Type}:∀ s (φ:_→Option S),(Oc n s).bind φ=jw n s φ:=by
  intros;unfold Oc jw;first | (simp only [ia,ba,iB,bB,oL,oX,nB,Option.bind_some]) | rfl
def TD (n:Nat):Hint Out:={ live:=fun c=>[],run:=fun c=>none,xm:=fun c q=>none }
theorem sU (n:Nat):qa tys (ja Out (DZ n)) (TD n) n (fa Tryz.f133) 0:=na (fun _=>rfl) _ _ (by kernel_rfl)
theorem mX (n:Nat):Enters Tryz.prog 133:=enters_of (c:=fa Tryz.f133) Tryz.func133 (by kernel_rfl) (by kernel_rfl)
def EN (n:Nat):Entry:=⟨133,pcT (.pair .str .unit) (.many (.pair .str (.pair (.int .i64) .unit))) (fun xs=>Oc n xs.1),none,none⟩
theorem x0 (n:Nat):EntryOk Tryz.prog gl (EN n):=ya (mX n) fun xs y h=>ma tys_ok (KT n) mixed (hint:=TD n) (n:=n) Tryz.func133 (za (sU n)) (la (φ:=(fun y=>some (Out.ret (ib (.many (.pair .str (.pair (.int .i64) .unit))) y)))) (by kernel_rfl) (V6 n xs.1 _) h)
def Zy (n:Nat):List Entry:=EN n::DZ n
theorem No (n:Nat):AllOk Tryz.prog gl (Zy n):=.cons (x0 n) (KT n)
def MQ (n:Nat) {R:Type} (s:BA) (k:T1→Option R) (kp:Int→Option R):Option R:=if (decide ((s.size:Int)≥(4:Int)))=true then if 0≤(4:Int)∧(4:Int)≤(s.size:Int) then (bF n (s.extract (Int.toNat (0:Int)) (Int.toNat (4:Int)))).bind fun v=>if (decide (v>(0:Int)))=true then if ((s.size:Int)==(4:Int))=false then if 0≤(4:Int)∧(4:Int)<(s.size:Int) then (Fa n ((bt s (4:Int))==(32:Int)) (3:Int)).bind fun x_1=>onX x_1 (fun p=>kp p) (fun v1=>if 0≤(4:Int)∧(4:Int)≤(s.size:Int) then (bF n (s.extract (Int.toNat (0:Int)) (Int.toNat (4:Int)))).bind fun v2=>if 0≤(4:Int)∧(4:Int)≤(s.size:Int) then if (v2==(3:Int))=true then (rh n (s.extract (Int.toNat (4:Int)) (Int.toNat (s.size:Int))) (⟨#[32,70,82,79,77,58]⟩:BA)).bind fun x_2=>onX x_2 (fun p1=>kp p1) (fun v3=>(Um n v3).bind fun x_3=>onX x_3 (fun p2=>kp p2) (fun v4=>(cF n v4.2.2.1).bind fun x_4=>onX x_4 (fun p3=>kp p3) (fun v5=>(qh n (v2,((⟨#[]⟩:BA),(v4.2.1,((v4.1.1,(v4.1.2.1,())),(v5,())))))).bind fun v6=>(Fa n v6 (8:Int)).bind fun x_5=>onX x_5 (fun p4=>kp p4) (fun v7=>k (v2,((⟨#[]⟩:BA),(v4.2.1,((v4.1.1,(v4.1.2.1,())),(v5,()))))))))) else if (v2==(4:Int))=true then (rh n (s.extract (Int.toNat (4:Int)) (Int.toNat (s.size:Int))) (⟨#[32,84,79,58]⟩:BA)).bind fun x_6=>onX x_6 (fun p5=>
 kp p5) (fun v8=>(Um n v8).bind fun x_7=>onX x_7 (fun p6=>kp p6) (fun v9=>(Fa n (v9.2.2.1.toList==(⟨#[]⟩:BA).toList) (8:Int)).bind fun x_8=>onX x_8 (fun p7=>kp p7) (fun v10=>(qh n (v2,((⟨#[]⟩:BA),(v9.2.1,((v9.1.1,(v9.1.2.1,())),((0:Int),())))))).bind fun v11=>(Fa n v11 (8:Int)).bind fun x_9=>onX x_9 (fun p8=>kp p8) (fun v12=>k (v2,((⟨#[]⟩:BA),(v9.2.1,((v9.1.1,(v9.1.2.1,())),((0:Int),()))))))))) else if (v2==(1:Int))=true then (Da n (s.extract (Int.toNat (4:Int)) (Int.toNat (s.size:Int))) (⟨#[32]⟩:BA)).bind fun v13=>(Oc n v13).bind fun v14=>(Fa n (v14.2.1==(0:Int)) (8:Int)).bind fun x_10=>onX x_10 (fun p9=>kp p9) (fun v15=>(qh n (v2,(v14.1,(false,(((⟨#[]⟩:BA),((⟨#[]⟩:BA),())),((0:Int),())))))).bind fun v16=>(Fa n v16 (8:Int)).bind fun x_11=>onX x_11 (fun p10=>kp p10) (fun v17=>k (v2,(v14.1,(false,(((⟨#[]⟩:BA),((⟨#[]⟩:BA),())),((0:Int),()))))))) else if (v2==(2:Int))=true then (Da n (s.extract (Int.toNat (4:Int)) (Int.toNat (s.size:Int))) (⟨#[32]⟩:BA)).bind fun v18=>(Oc n v18).bind fun v19=>(Fa n (v19.2.1==(0:Int)) (8:Int)).bind fun x_12=>onX x_12 (fun p11=>kp p11) (fun v20=>(qh n (v2,(v19.1,(false,(((⟨#[]⟩:BA),((⟨#[]⟩:BA),())),((0:Int),())))))).bind fun v21=>
 (Fa n v21 (8:Int)).bind fun x_13=>onX x_13 (fun p12=>kp p12) (fun v22=>k (v2,(v19.1,(false,(((⟨#[]⟩:BA),((⟨#[]⟩:BA),())),((0:Int),()))))))) else (Fa n (!((s.extract (Int.toNat (4:Int)) (Int.toNat (s.size:Int))).toList==(⟨#[32]⟩:BA).toList)) (8:Int)).bind fun x_14=>onX x_14 (fun p13=>kp p13) (fun v23=>(Da n (s.extract (Int.toNat (4:Int)) (Int.toNat (s.size:Int))) (⟨#[32]⟩:BA)).bind fun v24=>(qh n (v2,(v24,(false,(((⟨#[]⟩:BA),((⟨#[]⟩:BA),())),((0:Int),())))))).bind fun v25=>(Fa n v25 (8:Int)).bind fun x_15=>onX x_15 (fun p14=>kp p14) (fun v26=>k (v2,(v24,(false,(((⟨#[]⟩:BA),((⟨#[]⟩:BA),())),((0:Int),()))))))) else none else none) else none else (Fa n true (3:Int)).bind fun x_16=>onX x_16 (fun p15=>kp p15) (fun v27=>if 0≤(4:Int)∧(4:Int)≤(s.size:Int) then (bF n (s.extract (Int.toNat (0:Int)) (Int.toNat (4:Int)))).bind fun v28=>if 0≤(4:Int)∧(4:Int)≤(s.size:Int) then if (v28==(3:Int))=true then (rh n (s.extract (Int.toNat (4:Int)) (Int.toNat (s.size:Int))) (⟨#[32,70,82,79,77,58]⟩:BA)).bind fun x_17=>onX x_17 (fun p16=>kp p16) (fun v29=>(Um n v29).bind fun x_18=>onX x_18 (fun p17=>kp p17) (fun v30=>(cF n v30.2.2.1).bind fun x_19=>onX x_19 (fun p18=>kp p18) (fun v31=>(qh n (v28,((⟨#[]⟩:BA),(v30.2.1,((v30.1.1,(v30.1.2.1,())),(v31,())))))).bind fun v32=>
 (Fa n v32 (8:Int)).bind fun x_20=>onX x_20 (fun p19=>kp p19) (fun v33=>k (v28,((⟨#[]⟩:BA),(v30.2.1,((v30.1.1,(v30.1.2.1,())),(v31,()))))))))) else if (v28==(4:Int))=true then (rh n (s.extract (Int.toNat (4:Int)) (Int.toNat (s.size:Int))) (⟨#[32,84,79,58]⟩:BA)).bind fun x_21=>onX x_21 (fun p20=>kp p20) (fun v34=>(Um n v34).bind fun x_22=>onX x_22 (fun p21=>kp p21) (fun v35=>(Fa n (v35.2.2.1.toList==(⟨#[]⟩:BA).toList) (8:Int)).bind fun x_23=>onX x_23 (fun p22=>kp p22) (fun v36=>(qh n (v28,((⟨#[]⟩:BA),(v35.2.1,((v35.1.1,(v35.1.2.1,())),((0:Int),())))))).bind fun v37=>(Fa n v37 (8:Int)).bind fun x_24=>onX x_24 (fun p23=>kp p23) (fun v38=>k (v28,((⟨#[]⟩:BA),(v35.2.1,((v35.1.1,(v35.1.2.1,())),((0:Int),()))))))))) else if (v28==(1:Int))=true then (Da n (s.extract (Int.toNat (4:Int)) (Int.toNat (s.size:Int))) (⟨#[32]⟩:BA)).bind fun v39=>(Oc n v39).bind fun v40=>(Fa n (v40.2.1==(0:Int)) (8:Int)).bind fun x_25=>onX x_25 (fun p24=>kp p24) (fun v41=>(qh n (v28,(v40.1,(false,(((⟨#[]⟩:BA),((⟨#[]⟩:BA),())),((0:Int),())))))).bind fun v42=>(Fa n v42 (8:Int)).bind fun x_26=>onX x_26 (fun p25=>kp p25) (fun v43=>k (v28,(v40.1,(false,(((⟨#[]⟩:BA),((⟨#[]⟩:BA),())),((0:Int),()))))))) else if (v28==(2:Int))=true then
 (Da n (s.extract (Int.toNat (4:Int)) (Int.toNat (s.size:Int))) (⟨#[32]⟩:BA)).bind fun v44=>(Oc n v44).bind fun v45=>(Fa n (v45.2.1==(0:Int)) (8:Int)).bind fun x_27=>onX x_27 (fun p26=>kp p26) (fun v46=>(qh n (v28,(v45.1,(false,(((⟨#[]⟩:BA),((⟨#[]⟩:BA),())),((0:Int),())))))).bind fun v47=>(Fa n v47 (8:Int)).bind fun x_28=>onX x_28 (fun p27=>kp p27) (fun v48=>k (v28,(v45.1,(false,(((⟨#[]⟩:BA),((⟨#[]⟩:BA),())),((0:Int),()))))))) else (Fa n (!((s.extract (Int.toNat (4:Int)) (Int.toNat (s.size:Int))).toList==(⟨#[32]⟩:BA).toList)) (8:Int)).bind fun x_29=>onX x_29 (fun p28=>kp p28) (fun v49=>(Da n (s.extract (Int.toNat (4:Int)) (Int.toNat (s.size:Int))) (⟨#[32]⟩:BA)).bind fun v50=>(qh n (v28,(v50,(false,(((⟨#[]⟩:BA),((⟨#[]⟩:BA),())),((0:Int),())))))).bind fun v51=>(Fa n v51 (8:Int)).bind fun x_30=>onX x_30 (fun p29=>kp p29) (fun v52=>k (v28,(v50,(false,(((⟨#[]⟩:BA),((⟨#[]⟩:BA),())),((0:Int),()))))))) else none else none) else (Fa n false (3:Int)).bind fun x_31=>onX x_31 (fun p30=>kp p30) (fun v53=>if 0≤(4:Int)∧(4:Int)≤(s.size:Int) then (bF n (s.extract (Int.toNat (0:Int)) (Int.toNat (4:Int)))).bind fun v54=>if 0≤(4:Int)∧(4:Int)≤(s.size:Int) then if (v54==(3:Int))=true then
 (rh n (s.extract (Int.toNat (4:Int)) (Int.toNat (s.size:Int))) (⟨#[32,70,82,79,77,58]⟩:BA)).bind fun x_32=>onX x_32 (fun p31=>kp p31) (fun v55=>(Um n v55).bind fun x_33=>onX x_33 (fun p32=>kp p32) (fun v56=>(cF n v56.2.2.1).bind fun x_34=>onX x_34 (fun p33=>kp p33) (fun v57=>(qh n (v54,((⟨#[]⟩:BA),(v56.2.1,((v56.1.1,(v56.1.2.1,())),(v57,())))))).bind fun v58=>(Fa n v58 (8:Int)).bind fun x_35=>onX x_35 (fun p34=>kp p34) (fun v59=>k (v54,((⟨#[]⟩:BA),(v56.2.1,((v56.1.1,(v56.1.2.1,())),(v57,()))))))))) else if (v54==(4:Int))=true then (rh n (s.extract (Int.toNat (4:Int)) (Int.toNat (s.size:Int))) (⟨#[32,84,79,58]⟩:BA)).bind fun x_36=>onX x_36 (fun p35=>kp p35) (fun v60=>(Um n v60).bind fun x_37=>onX x_37 (fun p36=>kp p36) (fun v61=>(Fa n (v61.2.2.1.toList==(⟨#[]⟩:BA).toList) (8:Int)).bind fun x_38=>onX x_38 (fun p37=>kp p37) (fun v62=>(qh n (v54,((⟨#[]⟩:BA),(v61.2.1,((v61.1.1,(v61.1.2.1,())),((0:Int),())))))).bind fun v63=>(Fa n v63 (8:Int)).bind fun x_39=>onX x_39 (fun p38=>kp p38) (fun v64=>k (v54,((⟨#[]⟩:BA),(v61.2.1,((v61.1.1,(v61.1.2.1,())),((0:Int),()))))))))) else if (v54==(1:Int))=true then (Da n (s.extract (Int.toNat (4:Int)) (Int.toNat (s.size:Int))) (⟨#[32]⟩:BA)).bind fun v65=>(Oc n v65).bind fun v66=>
 (Fa n (v66.2.1==(0:Int)) (8:Int)).bind fun x_40=>onX x_40 (fun p39=>kp p39) (fun v67=>(qh n (v54,(v66.1,(false,(((⟨#[]⟩:BA),((⟨#[]⟩:BA),())),((0:Int),())))))).bind fun v68=>(Fa n v68 (8:Int)).bind fun x_41=>onX x_41 (fun p40=>kp p40) (fun v69=>k (v54,(v66.1,(false,(((⟨#[]⟩:BA),((⟨#[]⟩:BA),())),((0:Int),()))))))) else if (v54==(2:Int))=true then (Da n (s.extract (Int.toNat (4:Int)) (Int.toNat (s.size:Int))) (⟨#[32]⟩:BA)).bind fun v70=>(Oc n v70).bind fun v71=>(Fa n (v71.2.1==(0:Int)) (8:Int)).bind fun x_42=>onX x_42 (fun p41=>kp p41) (fun v72=>(qh n (v54,(v71.1,(false,(((⟨#[]⟩:BA),((⟨#[]⟩:BA),())),((0:Int),())))))).bind fun v73=>(Fa n v73 (8:Int)).bind fun x_43=>onX x_43 (fun p42=>kp p42) (fun v74=>k (v54,(v71.1,(false,(((⟨#[]⟩:BA),((⟨#[]⟩:BA),())),((0:Int),()))))))) else (Fa n (!((s.extract (Int.toNat (4:Int)) (Int.toNat (s.size:Int))).toList==(⟨#[32]⟩:BA).toList)) (8:Int)).bind fun x_44=>onX x_44 (fun p43=>kp p43) (fun v75=>(Da n (s.extract (Int.toNat (4:Int)) (Int.toNat (s.size:Int))) (⟨#[32]⟩:BA)).bind fun v76=>(qh n (v54,(v76,(false,(((⟨#[]⟩:BA),((⟨#[]⟩:BA),())),((0:Int),())))))).bind fun v77=>(Fa n v77 (8:Int)).bind fun x_45=>onX x_45 (fun p44=>
 kp p44) (fun v78=>k (v54,(v76,(false,(((⟨#[]⟩:BA),((⟨#[]⟩:BA),())),((0:Int),()))))))) else none else none) else none else (Fa n false (3:Int)).bind fun x_46=>onX x_46 (fun p45=>kp p45) (fun v79=>if 0≤(4:Int)∧(4:Int)≤(s.size:Int) then (bF n (s.extract (Int.toNat (0:Int)) (Int.toNat (4:Int)))).bind fun v80=>if 0≤(4:Int)∧(4:Int)≤(s.size:Int) then if (v80==(3:Int))=true then (rh n (s.extract (Int.toNat (4:Int)) (Int.toNat (s.size:Int))) (⟨#[32,70,82,79,77,58]⟩:BA)).bind fun x_47=>onX x_47 (fun p46=>kp p46) (fun v81=>(Um n v81).bind fun x_48=>onX x_48 (fun p47=>kp p47) (fun v82=>(cF n v82.2.2.1).bind fun x_49=>onX x_49 (fun p48=>kp p48) (fun v83=>(qh n (v80,((⟨#[]⟩:BA),(v82.2.1,((v82.1.1,(v82.1.2.1,())),(v83,())))))).bind fun v84=>(Fa n v84 (8:Int)).bind fun x_50=>onX x_50 (fun p49=>kp p49) (fun v85=>k (v80,((⟨#[]⟩:BA),(v82.2.1,((v82.1.1,(v82.1.2.1,())),(v83,()))))))))) else if (v80==(4:Int))=true then (rh n (s.extract (Int.toNat (4:Int)) (Int.toNat (s.size:Int))) (⟨#[32,84,79,58]⟩:BA)).bind fun x_51=>onX x_51 (fun p50=>kp p50) (fun v86=>(Um n v86).bind fun x_52=>onX x_52 (fun p51=>kp p51) (fun v87=>(Fa n (v87.2.2.1.toList==(⟨#[]⟩:BA).toList) (8:Int)).bind fun x_53=>onX x_53 (fun p52=>kp p52) (fun v88=>(qh n (v80,((⟨#[]⟩:BA),(v87.2.1,((v87.1.1,(v87.1.2.1,())),((0:Int),())))))).bind fun v89=>
 (Fa n v89 (8:Int)).bind fun x_54=>onX x_54 (fun p53=>kp p53) (fun v90=>k (v80,((⟨#[]⟩:BA),(v87.2.1,((v87.1.1,(v87.1.2.1,())),((0:Int),()))))))))) else if (v80==(1:Int))=true then (Da n (s.extract (Int.toNat (4:Int)) (Int.toNat (s.size:Int))) (⟨#[32]⟩:BA)).bind fun v91=>(Oc n v91).bind fun v92=>(Fa n (v92.2.1==(0:Int)) (8:Int)).bind fun x_55=>onX x_55 (fun p54=>kp p54) (fun v93=>(qh n (v80,(v92.1,(false,(((⟨#[]⟩:BA),((⟨#[]⟩:BA),())),((0:Int),())))))).bind fun v94=>(Fa n v94 (8:Int)).bind fun x_56=>onX x_56 (fun p55=>kp p55) (fun v95=>k (v80,(v92.1,(false,(((⟨#[]⟩:BA),((⟨#[]⟩:BA),())),((0:Int),()))))))) else if (v80==(2:Int))=true then (Da n (s.extract (Int.toNat (4:Int)) (Int.toNat (s.size:Int))) (⟨#[32]⟩:BA)).bind fun v96=>(Oc n v96).bind fun v97=>(Fa n (v97.2.1==(0:Int)) (8:Int)).bind fun x_57=>onX x_57 (fun p56=>kp p56) (fun v98=>(qh n (v80,(v97.1,(false,(((⟨#[]⟩:BA),((⟨#[]⟩:BA),())),((0:Int),())))))).bind fun v99=>(Fa n v99 (8:Int)).bind fun x_58=>onX x_58 (fun p57=>kp p57) (fun v100=>k (v80,(v97.1,(false,(((⟨#[]⟩:BA),((⟨#[]⟩:BA),())),((0:Int),()))))))) else (Fa n (!((s.extract (Int.toNat (4:Int)) (Int.toNat (s.size:Int))).toList==(⟨#[32]⟩:BA).toList)) (8:Int)).bind fun x_59=>onX x_59 (fun p58=>
 kp p58) (fun v101=>(Da n (s.extract (Int.toNat (4:Int)) (Int.toNat (s.size:Int))) (⟨#[32]⟩:BA)).bind fun v102=>(qh n (v80,(v102,(false,(((⟨#[]⟩:BA),((⟨#[]⟩:BA),())),((0:Int),())))))).bind fun v103=>(Fa n v103 (8:Int)).bind fun x_60=>onX x_60 (fun p59=>kp p59) (fun v104=>k (v80,(v102,(false,(((⟨#[]⟩:BA),((⟨#[]⟩:BA),())),((0:Int),()))))))) else none else none)
def YW (n:Nat) (s:BA):Option (Except Int T1):=MQ n s (fun y=>some (.ok y)) (fun p=>some (.error p))
theorem rbb (n:Nat) {S:Type}:∀ s (φ:_→Option S),(YW n s).bind φ=MQ n s (fun y=>φ (.ok y)) (fun p=>φ (.error p)):=by
  intros;unfold YW MQ;first | (simp only [ia,ba,iB,bB,oL,oX,nB,Option.bind_some]) | rfl
def wH (n:Nat):Hint Out:={ live:=fun c=>[],run:=fun c=>none,xm:=fun c q=>none }
theorem YT (n:Nat):qa tys (ja Out (Zy n)) (wH n) n (fa Tryz.f99) 0:=na (fun _=>rfl) _ _ (by kernel_rfl)
theorem ldb (n:Nat):Enters Tryz.prog 99:=enters_of (c:=fa Tryz.f99) Tryz.func99 (by kernel_rfl) (by kernel_rfl)
def n6 (n:Nat):Entry:=⟨99,pcX 144 (.pair .str .unit) (.one K2) (fun xs=>YW n xs.1),none,none⟩
theorem Pfb (n:Nat):EntryOk Tryz.prog gl (n6 n):=TI (ldb n) (fun xs y h=>ma tys_ok (No n) mixed (hint:=wH n) (n:=n) Tryz.func99 (za (YT n)) (la (φ:=(fun r=>onX r (fun p=>some (Out.pan (lh 144 p))) fun y=>some (Out.ret (ib (.one K2) y)))) (by kernel_rfl) (rbb n xs.1 _) h)) (fun xs p h=>ma tys_ok (No n) mixed (hint:=wH n) (n:=n) Tryz.func99 (za (YT n)) (la (φ:=(fun r=>onX r (fun p=>some (Out.pan (lh 144 p))) fun y=>some (Out.ret (ib (.one K2) y)))) (by kernel_rfl) (rbb n xs.1 _) h))
def Uv (n:Nat):List Entry:=n6 n::Zy n
theorem GO (n:Nat):AllOk Tryz.prog gl (Uv n):=.cons (Pfb n) (No n)
def sB (n:Nat) {R:Type} (s:BA) (k:(T1×Int×Unit)→Option R):Option R:=(YW n s).bind fun x_1=>onX x_1 (fun p=>k (((0:Int),((⟨#[]⟩:BA),(false,(((⟨#[]⟩:BA),((⟨#[]⟩:BA),())),((0:Int),()))))),(p,()))) (fun v=>k ((v.1,(v.2.1,(v.2.2.1,((v.2.2.2.1.1,(v.2.2.2.1.2.1,())),(v.2.2.2.2.1,()))))),((0:Int),())))
def qx (n:Nat) (s:BA):Option (T1×Int×Unit):=sB n s some
theorem Ifb (n:Nat) {S:Type}:∀ s (φ:_→Option S),(qx n s).bind φ=sB n s φ:=by
  intros;unfold qx sB;first | (simp only [ia,ba,iB,bB,oL,oX,nB,Option.bind_some]) | rfl
def Ds (n:Nat):Hint Out:={ live:=fun c=>[],run:=fun c=>none,xm:=fun c q=>none,pm:=some [(2,none),(3,none)] }
theorem W5 (n:Nat):qa tys (ja Out (Uv n)) (Ds n) n (ta [0] (fa Tryz.f69)) 0∧qa tys (ja Out (Uv n)) (Ds n) n (ta [1,1] (fa Tryz.f69)) 0:=⟨aa,⟨aa,aa⟩⟩
theorem H9 (n:Nat):Enters Tryz.prog 69:=enters_of (c:=fa Tryz.f69) Tryz.func69 (by kernel_rfl) (by kernel_rfl)
theorem LT:Tryz.prog.funcs[98]?=some Tryz.f98:=by kernel_rfl
theorem V5:Enters Tryz.prog 98:=enters_of (c:=fa Tryz.f98) LT (by kernel_rfl) (by kernel_rfl)
theorem EZ (n:Nat):qa tys (ja Out (Uv n)) jY n (ta [1] (fa Tryz.f98)) 0:=⟨⟨aa,⟨aa,aa⟩⟩,⟨aa,⟨⟨aa,⟨aa,aa⟩⟩,aa⟩⟩⟩
theorem Hfb (n:Nat) (s:BA):fnD tys (ja Out (Uv n)) (Ds n) n 98 Tryz.f98 Tryz.f69 (jcb (.pair .str .unit) (s,())) (y9 fun v=>some (.ret v))=sB n s (fun y=>some (.ret (ib (.many K12) y))):=by kernel_rfl
def VW (n:Nat):Entry:=⟨69,pcT (.pair .str .unit) (.many K12) (fun xs=>qx n xs.1),none,none⟩
theorem ddb (n:Nat):EntryOk Tryz.prog gl (VW n):=ya (H9 n) fun xs y h=>qW tys_ok (GO n) mixed (hint:=Ds n) (n:=n) (fn:=Tryz.f69) (f2:=Tryz.f98) Tryz.func69 LT V5 (Xkb (W5 n)) (kib (EZ n)) (la (φ:=(fun y=>some (Out.ret (ib (.many K12) y)))) (Hfb n xs.1) (Ifb n xs.1 _) h)
def ZM (n:Nat):List Entry:=VW n::Uv n
theorem SK (n:Nat):AllOk Tryz.prog gl (ZM n):=.cons (ddb n) (GO n)
def rF (n:Nat) {R:Type} (c:T0) (k:U2→Option R):Option R:=if (c.2.2.2.2.1 !=(0:Int))=true then if (c.2.2.2.2.1 !=(5:Int))=true then k (c.1,(c.2.1,(c.2.2.1,(c.2.2.2.1.1,(c.2.2.2.1.2.1,((1:Int),(c.2.2.2.2.2.1,(false,((⟨#[]⟩:BA),((⟨#[]⟩:BA),((0:Int),(false,((⟨0,fun _=>ua (.pair .str (.pair .str .unit))⟩:Sq U0),((⟨0,fun _=>ua .str⟩:Sq BA),())))))))))))))) else k (c.1,(c.2.1,(c.2.2.1,(c.2.2.2.1.1,(c.2.2.2.1.2.1,(c.2.2.2.2.1,(c.2.2.2.2.2.1,(false,((⟨#[]⟩:BA),((⟨#[]⟩:BA),((0:Int),(false,((⟨0,fun _=>ua (.pair .str (.pair .str .unit))⟩:Sq U0),((⟨0,fun _=>ua .str⟩:Sq BA),())))))))))))))) else k (c.1,(c.2.1,(c.2.2.1,(c.2.2.2.1.1,(c.2.2.2.1.2.1,(c.2.2.2.2.1,(c.2.2.2.2.2.1,(false,((⟨#[]⟩:BA),((⟨#[]⟩:BA),((0:Int),(false,((⟨0,fun _=>ua (.pair .str (.pair .str .unit))⟩:Sq U0),((⟨0,fun _=>ua .str⟩:Sq BA),()))))))))))))))
def Ji (n:Nat) (c:T0):Option U2:=rF n c some
theorem u7 (n:Nat) {S:Type}:∀ c (φ:_→Option S),(Ji n c).bind φ=rF n c φ:=by
  intros;unfold Ji rF;first | (simp only [ia,ba,iB,bB,oL,oX,nB,Option.bind_some]) | rfl
def ZD (n:Nat):Hint OutS:={ live:=fun c=>[],run:=fun c=>none,xm:=fun c q=>none,pr:=[(0,10,25),(0,11,9)] }
theorem FU (n:Nat):qa tys (ja OutS (ZM n)).keep (ZD n) n (fa Tryz.f76) 0:=na (fun _=>rfl) _ _ (by kernel_rfl)
theorem EX (n:Nat):Enters Tryz.prog 76:=enters_of (c:=fa Tryz.f76) Tryz.func76 (by kernel_rfl) (by kernel_rfl)
def QN:List RSp:=[.one (.dat K0)]
def PN:List RS:=[]
def FX:List Sl:=[.top]
def GX:List RSp:=[.agg [.dat (.int .i64),.dat (.int .i64),.dat (.int .i64),.dat .str,.dat .bool,.dat (.int .i64),.dat .str,.dat .bool,.dat .str,.dat .str,.row 0,.row 1,.dat (.int .i64),.dat .bool]]
def Bn:List RS:=[.row 25 2 (.pair .str (.pair .str .unit)) true true,.row 9 1 .str true true]
def sF (y:U2):OutS:=⟨false,lp (Wc Bn (y.2.2.2.2.2.2.2.2.2.2.2.2.1,(y.2.2.2.2.2.2.2.2.2.2.2.2.2.1,()))) FX (),tH (kE (Wc Bn (y.2.2.2.2.2.2.2.2.2.2.2.2.1,(y.2.2.2.2.2.2.2.2.2.2.2.2.2.1,()))) GX ((y.1,(y.2.1,(y.2.2.1,(y.2.2.2.1,(y.2.2.2.2.1,(y.2.2.2.2.2.1,(y.2.2.2.2.2.2.1,(y.2.2.2.2.2.2.2.1,(y.2.2.2.2.2.2.2.2.1,(y.2.2.2.2.2.2.2.2.2.1,(y.2.2.2.2.2.2.2.2.2.2.1,(y.2.2.2.2.2.2.2.2.2.2.2.1,())))))))))))),())),dw (Wc Bn (y.2.2.2.2.2.2.2.2.2.2.2.2.1,(y.2.2.2.2.2.2.2.2.2.2.2.2.2.1,()))) Bn (y.2.2.2.2.2.2.2.2.2.2.2.2.1,(y.2.2.2.2.2.2.2.2.2.2.2.2.2.1,()))⟩
theorem C1 (n:Nat):EntryOk Tryz.prog gl ⟨76,me,none,some (csT QN PN (fun σ ρ=>Ji n σ.1.1) sF)⟩:=qe (EX n) fun σ ρ y h=>Tf tys_ok (SK n) mixed (hint:=ZD n) (n:=n) Tryz.func76 (za (FU n)) (la (φ:=fun y=>some (sF y)) (by kernel_rfl) (u7 n σ.1.1 _) h)
def oz (n:Nat):List Entry:=⟨76,me,none,some (csT QN PN (fun σ ρ=>Ji n σ.1.1) sF)⟩::ZM n
theorem pz (n:Nat):AllOk Tryz.prog gl (oz n):=.cons (C1 n) (SK n)
def bC (n:Nat) {R:Type} (c:T0) (v:T1) (k:(Int×BA×Unit)→Option R):Option R:=if (c.2.2.2.2.1 !=(2:Int))=true then if (c.2.2.2.2.1 !=(3:Int))=true then k ((503:Int),((⟨#[]⟩:BA),())) else if ((c.2.2.2.2.2.2.2.2.1.n:Int)==(8:Int))=true then k ((452:Int),((⟨#[]⟩:BA),())) else (sCn n c.2.2.2.2.2.2.2.2.1 v.2.2.2.1).bind fun v1=>if v1=true then k ((250:Int),((⟨#[]⟩:BA),())) else k ((0:Int),((⟨#[114,99,112,116]⟩:BA),())) else if ((c.2.2.2.2.2.2.2.2.1.n:Int)==(8:Int))=true then k ((452:Int),((⟨#[]⟩:BA),())) else (sCn n c.2.2.2.2.2.2.2.2.1 v.2.2.2.1).bind fun v2=>if v2=true then k ((250:Int),((⟨#[]⟩:BA),())) else k ((0:Int),((⟨#[114,99,112,116]⟩:BA),()))
def Wq (n:Nat) (c:T0) (v:T1):Option (Int×BA×Unit):=bC n c v some
theorem Ybb (n:Nat) {S:Type}:∀ c v (φ:_→Option S),(Wq n c v).bind φ=bC n c v φ:=by
  intros;unfold Wq bC;first | (simp only [ia,ba,iB,bB,oL,oX,nB,Option.bind_some]) | rfl
def AI (n:Nat):Hint Out:={ live:=fun c=>[],run:=fun c=>none,xm:=fun c q=>none }
theorem YX (n:Nat):qa tys (ja Out (oz n)) (AI n) n (fa Tryz.f100) 0:=na (fun _=>rfl) _ _ (by kernel_rfl)
theorem Z1 (n:Nat):Enters Tryz.prog 100:=enters_of (c:=fa Tryz.f100) Tryz.func100 (by kernel_rfl) (by kernel_rfl)
def wR (n:Nat):Entry:=⟨100,pcT K13 (.many (.pair (.int .i64) (.pair .str .unit))) (fun xs=>Wq n xs.1 xs.2.1),none,none⟩
theorem G7 (n:Nat):EntryOk Tryz.prog gl (wR n):=ya (Z1 n) fun xs y h=>ma tys_ok (pz n) mixed (hint:=AI n) (n:=n) Tryz.func100 (za (YX n)) (la (φ:=(fun y=>some (Out.ret (ib (.many (.pair (.int .i64) (.pair .str .unit))) y)))) (by kernel_rfl) (Ybb n xs.1 xs.2.1 _) h)
def xF (n:Nat):List Entry:=wR n::oz n
theorem fE (n:Nat):AllOk Tryz.prog gl (xF n):=.cons (G7 n) (pz n)
def Bz (n:Nat) {R:Type} (c:T0) (v:T1) (k:U15→Option R):Option R:=if (v.1==(1:Int))=true then (Wj n v.2.1).bind fun v1=>if (!v1)=true then k (c,((501:Int),((⟨#[]⟩:BA),()))) else (Ji n (c.1,(c.2.1,(c.2.2.1,(c.2.2.2.1,((1:Int),(v.2.1,c.2.2.2.2.2.2))))))).bind fun v2=>k ((v2.1,(v2.2.1,(v2.2.2.1,((v2.2.2.2.1,(v2.2.2.2.2.1,())),(v2.2.2.2.2.2.1,(v2.2.2.2.2.2.2.1,(v2.2.2.2.2.2.2.2.1,((v2.2.2.2.2.2.2.2.2.1,(v2.2.2.2.2.2.2.2.2.2.1,())),(v2.2.2.2.2.2.2.2.2.2.2.2.2.1,(v2.2.2.2.2.2.2.2.2.2.2.2.2.2.1,(v2.2.2.2.2.2.2.2.2.2.2.1,(v2.2.2.2.2.2.2.2.2.2.2.2.1,())))))))))))),((250:Int),((⟨#[]⟩:BA),()))) else if (v.1==(2:Int))=true then (Wj n v.2.1).bind fun v3=>if (!v3)=true then k (c,((501:Int),((⟨#[]⟩:BA),()))) else (Ji n (c.1,(c.2.1,(c.2.2.1,(c.2.2.2.1,((1:Int),(v.2.1,c.2.2.2.2.2.2))))))).bind fun v4=>k ((v4.1,(v4.2.1,(v4.2.2.1,((v4.2.2.2.1,(v4.2.2.2.2.1,())),(v4.2.2.2.2.2.1,(v4.2.2.2.2.2.2.1,(v4.2.2.2.2.2.2.2.1,((v4.2.2.2.2.2.2.2.2.1,(v4.2.2.2.2.2.2.2.2.2.1,())),(v4.2.2.2.2.2.2.2.2.2.2.2.2.1,(v4.2.2.2.2.2.2.2.2.2.2.2.2.2.1,(v4.2.2.2.2.2.2.2.2.2.2.1,(v4.2.2.2.2.2.2.2.2.2.2.2.1,())))))))))))),((250:Int),((⟨#[]⟩:BA),()))) else if (v.1==(6:Int))=true then (Ji n c).bind fun v5=>k ((v5.1,(v5.2.1,(v5.2.2.1,((v5.2.2.2.1,(v5.2.2.2.2.1,())),(v5.2.2.2.2.2.1,(v5.2.2.2.2.2.2.1,(v5.2.2.2.2.2.2.2.1,((v5.2.2.2.2.2.2.2.2.1,(v5.2.2.2.2.2.2.2.2.2.1,())),(v5.2.2.2.2.2.2.2.2.2.2.2.2.1,(v5.2.2.2.2.2.2.2.2.2.2.2.2.2.1,(v5.2.2.2.2.2.2.2.2.2.2.1,(v5.2.2.2.2.2.2.2.2.2.2.2.1,())))))))))))),((250:Int),((⟨#[]⟩:BA),())))
 else if (v.1==(7:Int))=true then k (c,((250:Int),((⟨#[]⟩:BA),()))) else if (v.1==(9:Int))=true then k (c,((252:Int),((⟨#[]⟩:BA),()))) else if (v.1==(8:Int))=true then (Ji n c).bind fun v6=>k ((v6.1,(v6.2.1,(v6.2.2.1,((v6.2.2.2.1,(v6.2.2.2.2.1,())),((5:Int),(v6.2.2.2.2.2.2.1,(v6.2.2.2.2.2.2.2.1,((v6.2.2.2.2.2.2.2.2.1,(v6.2.2.2.2.2.2.2.2.2.1,())),(v6.2.2.2.2.2.2.2.2.2.2.2.2.1,(v6.2.2.2.2.2.2.2.2.2.2.2.2.2.1,(v6.2.2.2.2.2.2.2.2.2.2.1,(v6.2.2.2.2.2.2.2.2.2.2.2.1,())))))))))))),((221:Int),((⟨#[]⟩:BA),()))) else if (v.1==(4:Int))=true then (Wq n c v).bind fun v7=>k (c,(v7.1,(v7.2.1,()))) else if (v.1==(5:Int))=true then if (c.2.2.2.2.1 !=(3:Int))=true then k (c,((503:Int),((⟨#[]⟩:BA),()))) else k ((c.1,(c.2.1,(c.2.2.1,(c.2.2.2.1,((4:Int),c.2.2.2.2.2))))),((354:Int),((⟨#[]⟩:BA),()))) else if (c.2.2.2.2.1 !=(1:Int))=true then k (c,((503:Int),((⟨#[]⟩:BA),()))) else if (decide (v.2.2.2.2.1>(8192:Int)))=true then k (c,((552:Int),((⟨#[]⟩:BA),()))) else k (c,((0:Int),((⟨#[109,97,105,108]⟩:BA),())))
def IL (n:Nat) (c:T0) (v:T1):Option U15:=Bz n c v some
theorem S1 (n:Nat) {S:Type}:∀ c v (φ:_→Option S),(IL n c v).bind φ=Bz n c v φ:=by
  intros;unfold IL Bz;first | (simp only [ia,ba,iB,bB,oL,oX,nB,Option.bind_some]) | rfl
def Cz (n:Nat):Hint Out:={ live:=fun c=>[],run:=fun c=>none,xm:=fun c q=>none }
theorem tR (n:Nat):qa tys (ja Out (xF n)) (Cz n) n (fa Tryz.f70) 0:=na (fun _=>rfl) _ _ (by kernel_rfl)
theorem PU (n:Nat):Enters Tryz.prog 70:=enters_of (c:=fa Tryz.f70) Tryz.func70 (by kernel_rfl) (by kernel_rfl)
def uI (n:Nat):Entry:=⟨70,pcT K13 (.many K14) (fun xs=>IL n xs.1 xs.2.1),none,none⟩
theorem WX (n:Nat):EntryOk Tryz.prog gl (uI n):=ya (PU n) fun xs y h=>ma tys_ok (fE n) mixed (hint:=Cz n) (n:=n) Tryz.func70 (za (tR n)) (la (φ:=(fun y=>some (Out.ret (ib (.many K14) y)))) (by kernel_rfl) (S1 n xs.1 xs.2.1 _) h)
def ww (n:Nat):List Entry:=uI n::xF n
theorem Mx (n:Nat):AllOk Tryz.prog gl (ww n):=.cons (WX n) (fE n)
def nw (n:Nat) {R:Type} (c c1 c2:Int) (c3:BA) (c4:Bool) (c5:Int) (c6:BA) (c7:Bool) (c8 c9:BA) (c10:Int) (c11:Bool) (r0:(Sq U0)) (r1:(Sq BA)) (k:U2→Option R):Option R:=if (c5 !=(0:Int))=true then if (c5 !=(5:Int))=true then k (c,(c1,(c2,(c3,(c4,((1:Int),(c6,(false,((⟨#[]⟩:BA),((⟨#[]⟩:BA),((0:Int),(false,((⟨0,fun _=>ua (.pair .str (.pair .str .unit))⟩:Sq U0),((⟨0,fun _=>ua .str⟩:Sq BA),())))))))))))))) else k (c,(c1,(c2,(c3,(c4,(c5,(c6,(false,((⟨#[]⟩:BA),((⟨#[]⟩:BA),((0:Int),(false,((⟨0,fun _=>ua (.pair .str (.pair .str .unit))⟩:Sq U0),((⟨0,fun _=>ua .str⟩:Sq BA),())))))))))))))) else k (c,(c1,(c2,(c3,(c4,(c5,(c6,(false,((⟨#[]⟩:BA),((⟨#[]⟩:BA),((0:Int),(false,((⟨0,fun _=>ua (.pair .str (.pair .str .unit))⟩:Sq U0),((⟨0,fun _=>ua .str⟩:Sq BA),()))))))))))))))
def vh (n:Nat) (c c1 c2:Int) (c3:BA) (c4:Bool) (c5:Int) (c6:BA) (c7:Bool) (c8 c9:BA) (c10:Int) (c11:Bool) (r0:(Sq U0)) (r1:(Sq BA)):Option U2:=nw n c c1 c2 c3 c4 c5 c6 c7 c8 c9 c10 c11 r0 r1 some
theorem w7 (n:Nat) {S:Type}:∀ c c1 c2 c3 c4 c5 c6 c7 c8 c9 c10 c11 r0 r1 (φ:_→Option S),(vh n c c1 c2 c3 c4 c5 c6 c7 c8 c9 c10 c11 r0 r1).bind φ=nw n c c1 c2 c3 c4 c5 c6 c7 c8 c9 c10 c11 r0 r1 φ:=by
  intros;unfold vh nw;first | (simp only [ia,ba,iB,bB,oL,oX,nB,Option.bind_some]) | rfl
def aE (n:Nat):Hint OutS:={ live:=fun c=>[],run:=fun c=>none,xm:=fun c q=>none,pr:=[(0,10,25),(0,11,9)] }
theorem GU (n:Nat):qa tys (ja OutS (ww n)).keep (aE n) n (fa Tryz.f76) 0:=na (fun _=>rfl) _ _ (by kernel_rfl)
theorem HX (n:Nat):Enters Tryz.prog 76:=enters_of (c:=fa Tryz.f76) Tryz.func76 (by kernel_rfl) (by kernel_rfl)
def SN:List RSp:=[.agg [.dat (.int .i64),.dat (.int .i64),.dat (.int .i64),.dat .str,.dat .bool,.dat (.int .i64),.dat .str,.dat .bool,.dat .str,.dat .str,.row 0,.row 1,.dat (.int .i64),.dat .bool]]
def RN:List RS:=[.row 25 2 (.pair .str (.pair .str .unit)) true true,.row 9 1 .str true true]
def JX:List Sl:=[.top]
def KX:List RSp:=[.agg [.dat (.int .i64),.dat (.int .i64),.dat (.int .i64),.dat .str,.dat .bool,.dat (.int .i64),.dat .str,.dat .bool,.dat .str,.dat .str,.row 0,.row 1,.dat (.int .i64),.dat .bool]]
def Dn:List RS:=[.row 25 2 (.pair .str (.pair .str .unit)) true true,.row 9 1 .str true true]
def tF (y:U2):OutS:=⟨false,lp (Wc Dn (y.2.2.2.2.2.2.2.2.2.2.2.2.1,(y.2.2.2.2.2.2.2.2.2.2.2.2.2.1,()))) JX (),tH (kE (Wc Dn (y.2.2.2.2.2.2.2.2.2.2.2.2.1,(y.2.2.2.2.2.2.2.2.2.2.2.2.2.1,()))) KX ((y.1,(y.2.1,(y.2.2.1,(y.2.2.2.1,(y.2.2.2.2.1,(y.2.2.2.2.2.1,(y.2.2.2.2.2.2.1,(y.2.2.2.2.2.2.2.1,(y.2.2.2.2.2.2.2.2.1,(y.2.2.2.2.2.2.2.2.2.1,(y.2.2.2.2.2.2.2.2.2.2.1,(y.2.2.2.2.2.2.2.2.2.2.2.1,())))))))))))),())),dw (Wc Dn (y.2.2.2.2.2.2.2.2.2.2.2.2.1,(y.2.2.2.2.2.2.2.2.2.2.2.2.2.1,()))) Dn (y.2.2.2.2.2.2.2.2.2.2.2.2.1,(y.2.2.2.2.2.2.2.2.2.2.2.2.2.1,()))⟩
theorem D1 (n:Nat):EntryOk Tryz.prog gl ⟨76,me,none,some (csT SN RN (fun σ ρ=>vh n σ.1.1 σ.1.2.1 σ.1.2.2.1 σ.1.2.2.2.1 σ.1.2.2.2.2.1 σ.1.2.2.2.2.2.1 σ.1.2.2.2.2.2.2.1 σ.1.2.2.2.2.2.2.2.1 σ.1.2.2.2.2.2.2.2.2.1 σ.1.2.2.2.2.2.2.2.2.2.1 σ.1.2.2.2.2.2.2.2.2.2.2.1 σ.1.2.2.2.2.2.2.2.2.2.2.2.1 ρ.1 ρ.2.1) tF)⟩:=qe (HX n) fun σ ρ y h=>Tf tys_ok (Mx n) mixed (hint:=aE n) (n:=n) Tryz.func76 (za (GU n)) (la (φ:=fun y=>some (tF y)) (by kernel_rfl) (w7 n σ.1.1 σ.1.2.1 σ.1.2.2.1 σ.1.2.2.2.1 σ.1.2.2.2.2.1 σ.1.2.2.2.2.2.1 σ.1.2.2.2.2.2.2.1 σ.1.2.2.2.2.2.2.2.1 σ.1.2.2.2.2.2.2.2.2.1 σ.1.2.2.2.2.2.2.2.2.2.1 σ.1.2.2.2.2.2.2.2.2.2.2.1 σ.1.2.2.2.2.2.2.2.2.2.2.2.1 ρ.1 ρ.2.1 _) h)
def qz (n:Nat):List Entry:=⟨76,me,none,some (csT SN RN (fun σ ρ=>vh n σ.1.1 σ.1.2.1 σ.1.2.2.1 σ.1.2.2.2.1 σ.1.2.2.2.2.1 σ.1.2.2.2.2.2.1 σ.1.2.2.2.2.2.2.1 σ.1.2.2.2.2.2.2.2.1 σ.1.2.2.2.2.2.2.2.2.1 σ.1.2.2.2.2.2.2.2.2.2.1 σ.1.2.2.2.2.2.2.2.2.2.2.1 σ.1.2.2.2.2.2.2.2.2.2.2.2.1 ρ.1 ρ.2.1) tF)⟩::ww n
theorem rz (n:Nat):AllOk Tryz.prog gl (qz n):=.cons (D1 n) (Mx n)
def Kb (n:Nat) {R:Type} (c c1 c2:Int) (c3:BA) (c4:Bool) (c5:Int) (c6:BA) (c7:Bool) (c8 c9:BA) (c10:Int) (c11:Bool) (v:T1) (r0:(Sq U0)) (r1:(Sq BA)) (k:U15→Option R):Option R:=if (v.1==(1:Int))=true then (Wj n v.2.1).bind fun v1=>if (!v1)=true then k ((c,(c1,(c2,((c3,(c4,())),(c5,(c6,(c7,((c8,(c9,())),(r0,(r1,(c10,(c11,())))))))))))),((501:Int),((⟨#[]⟩:BA),()))) else (vh n c c1 c2 c3 c4 (1:Int) v.2.1 c7 c8 c9 c10 c11 r0 r1).bind fun v2=>k ((v2.1,(v2.2.1,(v2.2.2.1,((v2.2.2.2.1,(v2.2.2.2.2.1,())),(v2.2.2.2.2.2.1,(v2.2.2.2.2.2.2.1,(v2.2.2.2.2.2.2.2.1,((v2.2.2.2.2.2.2.2.2.1,(v2.2.2.2.2.2.2.2.2.2.1,())),(v2.2.2.2.2.2.2.2.2.2.2.2.2.1,(v2.2.2.2.2.2.2.2.2.2.2.2.2.2.1,(v2.2.2.2.2.2.2.2.2.2.2.1,(v2.2.2.2.2.2.2.2.2.2.2.2.1,())))))))))))),((250:Int),((⟨#[]⟩:BA),()))) else if (v.1==(2:Int))=true then (Wj n v.2.1).bind fun v3=>if (!v3)=true then k ((c,(c1,(c2,((c3,(c4,())),(c5,(c6,(c7,((c8,(c9,())),(r0,(r1,(c10,(c11,())))))))))))),((501:Int),((⟨#[]⟩:BA),()))) else (vh n c c1 c2 c3 c4 (1:Int) v.2.1 c7 c8 c9 c10 c11 r0 r1).bind fun v4=>k ((v4.1,(v4.2.1,(v4.2.2.1,((v4.2.2.2.1,(v4.2.2.2.2.1,())),(v4.2.2.2.2.2.1,(v4.2.2.2.2.2.2.1,(v4.2.2.2.2.2.2.2.1,((v4.2.2.2.2.2.2.2.2.1,(v4.2.2.2.2.2.2.2.2.2.1,())),(v4.2.2.2.2.2.2.2.2.2.2.2.2.1,(v4.2.2.2.2.2.2.2.2.2.2.2.2.2.1,(v4.2.2.2.2.2.2.2.2.2.2.1,(v4.2.2.2.2.2.2.2.2.2.2.2.1,())))))))))))),((250:Int),((⟨#[]⟩:BA),())))
 else if (v.1==(6:Int))=true then (vh n c c1 c2 c3 c4 c5 c6 c7 c8 c9 c10 c11 r0 r1).bind fun v5=>k ((v5.1,(v5.2.1,(v5.2.2.1,((v5.2.2.2.1,(v5.2.2.2.2.1,())),(v5.2.2.2.2.2.1,(v5.2.2.2.2.2.2.1,(v5.2.2.2.2.2.2.2.1,((v5.2.2.2.2.2.2.2.2.1,(v5.2.2.2.2.2.2.2.2.2.1,())),(v5.2.2.2.2.2.2.2.2.2.2.2.2.1,(v5.2.2.2.2.2.2.2.2.2.2.2.2.2.1,(v5.2.2.2.2.2.2.2.2.2.2.1,(v5.2.2.2.2.2.2.2.2.2.2.2.1,())))))))))))),((250:Int),((⟨#[]⟩:BA),()))) else if (v.1==(7:Int))=true then k ((c,(c1,(c2,((c3,(c4,())),(c5,(c6,(c7,((c8,(c9,())),(r0,(r1,(c10,(c11,())))))))))))),((250:Int),((⟨#[]⟩:BA),()))) else if (v.1==(9:Int))=true then k ((c,(c1,(c2,((c3,(c4,())),(c5,(c6,(c7,((c8,(c9,())),(r0,(r1,(c10,(c11,())))))))))))),((252:Int),((⟨#[]⟩:BA),()))) else if (v.1==(8:Int))=true then (vh n c c1 c2 c3 c4 c5 c6 c7 c8 c9 c10 c11 r0 r1).bind fun v6=>k ((v6.1,(v6.2.1,(v6.2.2.1,((v6.2.2.2.1,(v6.2.2.2.2.1,())),((5:Int),(v6.2.2.2.2.2.2.1,(v6.2.2.2.2.2.2.2.1,((v6.2.2.2.2.2.2.2.2.1,(v6.2.2.2.2.2.2.2.2.2.1,())),(v6.2.2.2.2.2.2.2.2.2.2.2.2.1,(v6.2.2.2.2.2.2.2.2.2.2.2.2.2.1,(v6.2.2.2.2.2.2.2.2.2.2.1,(v6.2.2.2.2.2.2.2.2.2.2.2.1,())))))))))))),((221:Int),((⟨#[]⟩:BA),()))) else if (v.1==(4:Int))=true then (Wq n (c,(c1,(c2,((c3,(c4,())),(c5,(c6,(c7,((c8,(c9,())),(r0,(r1,(c10,(c11,())))))))))))) v).bind fun v7=>k ((c,(c1,(c2,((c3,(c4,())),(c5,(c6,(c7,((c8,(c9,())),(r0,(r1,(c10,(c11,())))))))))))),(v7.1,(v7.2.1,())))
 else if (v.1==(5:Int))=true then if (c5 !=(3:Int))=true then k ((c,(c1,(c2,((c3,(c4,())),(c5,(c6,(c7,((c8,(c9,())),(r0,(r1,(c10,(c11,())))))))))))),((503:Int),((⟨#[]⟩:BA),()))) else k ((c,(c1,(c2,((c3,(c4,())),((4:Int),(c6,(c7,((c8,(c9,())),(r0,(r1,(c10,(c11,())))))))))))),((354:Int),((⟨#[]⟩:BA),()))) else if (c5 !=(1:Int))=true then k ((c,(c1,(c2,((c3,(c4,())),(c5,(c6,(c7,((c8,(c9,())),(r0,(r1,(c10,(c11,())))))))))))),((503:Int),((⟨#[]⟩:BA),()))) else if (decide (v.2.2.2.2.1>(8192:Int)))=true then k ((c,(c1,(c2,((c3,(c4,())),(c5,(c6,(c7,((c8,(c9,())),(r0,(r1,(c10,(c11,())))))))))))),((552:Int),((⟨#[]⟩:BA),()))) else k ((c,(c1,(c2,((c3,(c4,())),(c5,(c6,(c7,((c8,(c9,())),(r0,(r1,(c10,(c11,())))))))))))),((0:Int),((⟨#[109,97,105,108]⟩:BA),())))
def ab (n:Nat) (c c1 c2:Int) (c3:BA) (c4:Bool) (c5:Int) (c6:BA) (c7:Bool) (c8 c9:BA) (c10:Int) (c11:Bool) (v:T1) (r0:(Sq U0)) (r1:(Sq BA)):Option U15:=Kb n c c1 c2 c3 c4 c5 c6 c7 c8 c9 c10 c11 v r0 r1 some
theorem uR (n:Nat) {S:Type}:∀ c c1 c2 c3 c4 c5 c6 c7 c8 c9 c10 c11 v r0 r1 (φ:_→Option S),(ab n c c1 c2 c3 c4 c5 c6 c7 c8 c9 c10 c11 v r0 r1).bind φ=Kb n c c1 c2 c3 c4 c5 c6 c7 c8 c9 c10 c11 v r0 r1 φ:=by
  intros;unfold ab Kb;first | (simp only [ia,ba,iB,bB,oL,oX,nB,Option.bind_some]) | rfl
def Uq (n:Nat):Hint OutS:={ live:=fun c=>[],run:=fun c=>none,xm:=fun c q=>none,fz:=true }
theorem vI (n:Nat):qa tys (ja OutS (qz n)) (Uq n) n (fa Tryz.f70) 0:=na (fun _=>rfl) _ _ (by kernel_rfl)
theorem JL (n:Nat):Enters Tryz.prog 70:=enters_of (c:=fa Tryz.f70) Tryz.func70 (by kernel_rfl) (by kernel_rfl)
def Ox:List RSp:=[.agg [.dat (.int .i64),.dat (.int .i64),.dat (.int .i64),.dat .str,.dat .bool,.dat (.int .i64),.dat .str,.dat .bool,.dat .str,.dat .str,.row 0,.row 1,.dat (.int .i64),.dat .bool],.one (.dat K2)]
def Nx:List RS:=[.row 25 2 (.pair .str (.pair .str .unit)) true true,.row 9 1 .str true true]
def KL:List Sl:=[.top,.top]
def LL:List RSp:=[.one (.dat K0),.one (.dat (.int .i64)),.one (.dat .str)]
def Mg:List RS:=[]
def Zo (y:U15):OutS:=⟨false,lp (Wc Mg ()) KL (),tH (kE (Wc Mg ()) LL ((y.1,()),((y.2.1,()),((y.2.2.1,()),())))),dw (Wc Mg ()) Mg ()⟩
theorem SO (n:Nat):EntryOk Tryz.prog gl ⟨70,me,none,some (csT Ox Nx (fun σ ρ=>ab n σ.1.1 σ.1.2.1 σ.1.2.2.1 σ.1.2.2.2.1 σ.1.2.2.2.2.1 σ.1.2.2.2.2.2.1 σ.1.2.2.2.2.2.2.1 σ.1.2.2.2.2.2.2.2.1 σ.1.2.2.2.2.2.2.2.2.1 σ.1.2.2.2.2.2.2.2.2.2.1 σ.1.2.2.2.2.2.2.2.2.2.2.1 σ.1.2.2.2.2.2.2.2.2.2.2.2.1 σ.2.1.1 ρ.1 ρ.2.1) Zo)⟩:=qe (JL n) fun σ ρ y h=>Bb tys_ok (rz n) mixed (hint:=Uq n) (n:=n) Tryz.func70 (za (vI n)) (la (φ:=fun y=>some (Zo y)) (by kernel_rfl) (uR n σ.1.1 σ.1.2.1 σ.1.2.2.1 σ.1.2.2.2.1 σ.1.2.2.2.2.1 σ.1.2.2.2.2.2.1 σ.1.2.2.2.2.2.2.1 σ.1.2.2.2.2.2.2.2.1 σ.1.2.2.2.2.2.2.2.2.1 σ.1.2.2.2.2.2.2.2.2.2.1 σ.1.2.2.2.2.2.2.2.2.2.2.1 σ.1.2.2.2.2.2.2.2.2.2.2.2.1 σ.2.1.1 ρ.1 ρ.2.1 _) h)
def lm (n:Nat):List Entry:=⟨70,me,none,some (csT Ox Nx (fun σ ρ=>ab n σ.1.1 σ.1.2.1 σ.1.2.2.1 σ.1.2.2.2.1 σ.1.2.2.2.2.1 σ.1.2.2.2.2.2.1 σ.1.2.2.2.2.2.2.1 σ.1.2.2.2.2.2.2.2.1 σ.1.2.2.2.2.2.2.2.2.1 σ.1.2.2.2.2.2.2.2.2.2.1 σ.1.2.2.2.2.2.2.2.2.2.2.1 σ.1.2.2.2.2.2.2.2.2.2.2.2.1 σ.2.1.1 ρ.1 ρ.2.1) Zo)⟩::qz n
theorem ap (n:Nat):AllOk Tryz.prog gl (lm n):=.cons (SO n) (rz n)
def Uf (n:Nat) {R:Type} (c c1 c2:Int) (c3:BA) (c4:Bool) (c5:Int) (c6:BA) (c7:Bool) (c8 c9:BA) (c10:Int) (c11:Bool) (l:U10) (r0:(Sq U0)) (r1:(Sq BA)) (k:(T0×Int×BA×T1×Unit)→Option R):Option R:=if (c5==(4:Int))=true then (Kl n c c1 c2 c3 c4 c5 c6 c7 c8 c9 c10 c11 l r0 r1).bind fun v=>dup 1 (k (v.1,((0:Int),(v.2.1,(((0:Int),((⟨#[]⟩:BA),(false,(((⟨#[]⟩:BA),((⟨#[]⟩:BA),())),((0:Int),()))))),()))))) else if l.2.1=true then dup 1 (k ((c,(c1,(c2,((c3,(c4,())),(c5,(c6,(c7,((c8,(c9,())),(r0,(r1,(c10,(c11,())))))))))))),((500:Int),((⟨#[]⟩:BA),(((0:Int),((⟨#[]⟩:BA),(false,(((⟨#[]⟩:BA),((⟨#[]⟩:BA),())),((0:Int),()))))),()))))) else (qx n l.1).bind fun v1=>if (v1.2.1==(0:Int))=true then (ab n c c1 c2 c3 c4 c5 c6 c7 c8 c9 c10 c11 v1.1 r0 r1).bind fun v2=>dup 1 (k (v2.1,(v2.2.1,(v2.2.2.1,(v1.1,()))))) else if (v1.2.1==(3:Int))=true then dup 1 (k ((c,(c1,(c2,((c3,(c4,())),(c5,(c6,(c7,((c8,(c9,())),(r0,(r1,(c10,(c11,())))))))))))),((500:Int),((⟨#[]⟩:BA),(v1.1,()))))) else dup 1 (k ((c,(c1,(c2,((c3,(c4,())),(c5,(c6,(c7,((c8,(c9,())),(r0,(r1,(c10,(c11,())))))))))))),((501:Int),((⟨#[]⟩:BA),(v1.1,())))))
def Ub (n:Nat) (c c1 c2:Int) (c3:BA) (c4:Bool) (c5:Int) (c6:BA) (c7:Bool) (c8 c9:BA) (c10:Int) (c11:Bool) (l:U10) (r0:(Sq U0)) (r1:(Sq BA)):Option (T0×Int×BA×T1×Unit):=Uf n c c1 c2 c3 c4 c5 c6 c7 c8 c9 c10 c11 l r0 r1 some
theorem G1 (n:Nat) {S:Type}:∀ c c1 c2 c3 c4 c5 c6 c7 c8 c9 c10 c11 l r0 r1 (φ:_→Option S),(Ub n c c1 c2 c3 c4 c5 c6 c7 c8 c9 c10 c11 l r0 r1).bind φ=Uf n c c1 c2 c3 c4 c5 c6 c7 c8 c9 c10 c11 l r0 r1 φ:=by
  intros;unfold Ub Uf;first | (simp only [ia,ba,iB,bB,oL,oX,nB,Option.bind_some]) | rfl
def uz (n:Nat):Hint OutS:={ live:=fun c=>[],run:=fun c=>none,xm:=fun c q=>none,sch:=fun c=>(cond (Nat.beq c 8) (some [(0,1),(2,5),(1,7),(3,6),(4,6),(5,2)]) (cond (Nat.beq c 11) (some [(0,1),(2,5),(1,7),(3,6),(4,6),(5,2)]) (cond (Nat.beq c 13) (some [(1,0),(2,0),(0,1),(4,5),(3,7),(5,6),(6,6),(7,2)]) (cond (Nat.beq c 5) (some [(0,1),(2,5),(1,7),(3,6),(4,6),(5,2)]) (cond (Nat.beq c 3) (some [(1,0),(0,1),(3,5),(2,7),(4,6),(5,6),(6,2)]) none))))),fz:=true }
theorem kR (n:Nat):qa tys (ja OutS (lm n)) (uz n) n (fa Tryz.f37) 0:=na (fun _=>rfl) _ _ (by kernel_rfl)
theorem HU (n:Nat):Enters Tryz.prog 37:=enters_of (c:=fa Tryz.f37) Tryz.func37 (by kernel_rfl) (by kernel_rfl)
def qI:List RSp:=[.agg [.dat (.int .i64),.dat (.int .i64),.dat (.int .i64),.dat .str,.dat .bool,.dat (.int .i64),.dat .str,.dat .bool,.dat .str,.dat .str,.row 0,.row 1,.dat (.int .i64),.dat .bool],.one (.dat (.pair .str (.pair .bool .unit)))]
def pI:List RS:=[.row 25 2 (.pair .str (.pair .str .unit)) true true,.row 9 1 .str true true]
def IU:List Sl:=[.top,.top]
def JU:List RSp:=[.one (.dat K0),.one (.dat (.int .i64)),.one (.dat .str),.one (.dat K2)]
def Sk:List RS:=[]
def tz (y:(T0×Int×BA×T1×Unit)):OutS:=⟨false,lp (Wc Sk ()) IU (),tH (kE (Wc Sk ()) JU ((y.1,()),((y.2.1,()),((y.2.2.1,()),((y.2.2.2.1,()),()))))),dw (Wc Sk ()) Sk ()⟩
theorem MX (n:Nat):EntryOk Tryz.prog gl ⟨37,me,none,some (csT qI pI (fun σ ρ=>Ub n σ.1.1 σ.1.2.1 σ.1.2.2.1 σ.1.2.2.2.1 σ.1.2.2.2.2.1 σ.1.2.2.2.2.2.1 σ.1.2.2.2.2.2.2.1 σ.1.2.2.2.2.2.2.2.1 σ.1.2.2.2.2.2.2.2.2.1 σ.1.2.2.2.2.2.2.2.2.2.1 σ.1.2.2.2.2.2.2.2.2.2.2.1 σ.1.2.2.2.2.2.2.2.2.2.2.2.1 σ.2.1.1 ρ.1 ρ.2.1) tz)⟩:=qe (HU n) fun σ ρ y h=>Bb tys_ok (ap n) mixed (hint:=uz n) (n:=n) Tryz.func37 (za (kR n)) (la (φ:=fun y=>some (tz y)) (by kernel_rfl) (G1 n σ.1.1 σ.1.2.1 σ.1.2.2.1 σ.1.2.2.2.1 σ.1.2.2.2.2.1 σ.1.2.2.2.2.2.1 σ.1.2.2.2.2.2.2.1 σ.1.2.2.2.2.2.2.2.1 σ.1.2.2.2.2.2.2.2.2.1 σ.1.2.2.2.2.2.2.2.2.2.1 σ.1.2.2.2.2.2.2.2.2.2.2.1 σ.1.2.2.2.2.2.2.2.2.2.2.2.1 σ.2.1.1 ρ.1 ρ.2.1 _) h)
def ow (n:Nat):List Entry:=⟨37,me,none,some (csT qI pI (fun σ ρ=>Ub n σ.1.1 σ.1.2.1 σ.1.2.2.1 σ.1.2.2.2.1 σ.1.2.2.2.2.1 σ.1.2.2.2.2.2.1 σ.1.2.2.2.2.2.2.1 σ.1.2.2.2.2.2.2.2.1 σ.1.2.2.2.2.2.2.2.2.1 σ.1.2.2.2.2.2.2.2.2.2.1 σ.1.2.2.2.2.2.2.2.2.2.2.1 σ.1.2.2.2.2.2.2.2.2.2.2.2.1 σ.2.1.1 ρ.1 ρ.2.1) tz)⟩::lm n
theorem Ix (n:Nat):AllOk Tryz.prog gl (ow n):=.cons (MX n) (ap n)
def rI (n:Nat) {R:Type} (c:T0) (l:U10) (k:(T0×Int×BA×Int×Unit)→Option R):Option R:=(RO n c).bind fun v=>if (!v)=true then k (((0:Int),((0:Int),((0:Int),(((⟨#[]⟩:BA),(false,())),((0:Int),((⟨#[]⟩:BA),(false,(((⟨#[]⟩:BA),((⟨#[]⟩:BA),())),((⟨0,fun _=>ua (.pair .str (.pair .str .unit))⟩:Sq U0),((⟨0,fun _=>ua .str⟩:Sq BA),((0:Int),(false,())))))))))))),((0:Int),((⟨#[]⟩:BA),((1:Int),())))) else if (c.2.2.2.2.1==(5:Int))=true then k (((0:Int),((0:Int),((0:Int),(((⟨#[]⟩:BA),(false,())),((0:Int),((⟨#[]⟩:BA),(false,(((⟨#[]⟩:BA),((⟨#[]⟩:BA),())),((⟨0,fun _=>ua (.pair .str (.pair .str .unit))⟩:Sq U0),((⟨0,fun _=>ua .str⟩:Sq BA),((0:Int),(false,())))))))))))),((0:Int),((⟨#[]⟩:BA),((6:Int),())))) else dup 1 ((Ch n c).bind fun v1=>(Ub n v1.1 v1.2.1 v1.2.2.1 v1.2.2.2.1 v1.2.2.2.2.1 v1.2.2.2.2.2.1 v1.2.2.2.2.2.2.1 v1.2.2.2.2.2.2.2.1 v1.2.2.2.2.2.2.2.2.1 v1.2.2.2.2.2.2.2.2.2.1 v1.2.2.2.2.2.2.2.2.2.2.1 v1.2.2.2.2.2.2.2.2.2.2.2.1 l v1.2.2.2.2.2.2.2.2.2.2.2.2.1 v1.2.2.2.2.2.2.2.2.2.2.2.2.2.1).bind fun v2=>(Ch n v2.1).bind fun v3=>k ((v3.1,(v3.2.1,(v3.2.2.1,((v3.2.2.2.1,(v3.2.2.2.2.1,())),(v3.2.2.2.2.2.1,(v3.2.2.2.2.2.2.1,(v3.2.2.2.2.2.2.2.1,((v3.2.2.2.2.2.2.2.2.1,(v3.2.2.2.2.2.2.2.2.2.1,())),(v3.2.2.2.2.2.2.2.2.2.2.2.2.1,(v3.2.2.2.2.2.2.2.2.2.2.2.2.2.1,(v3.2.2.2.2.2.2.2.2.2.2.1,(v3.2.2.2.2.2.2.2.2.2.2.2.1,())))))))))))),(v2.2.1,(v2.2.2.1,((0:Int),())))))
def Il (n:Nat) (c:T0) (l:U10):Option (T0×Int×BA×Int×Unit):=rI n c l some
theorem ygb (n:Nat) {S:Type}:∀ c l (φ:_→Option S),(Il n c l).bind φ=rI n c l φ:=by
  intros;unfold Il rI;first | (simp only [ia,ba,iB,bB,oL,oX,nB,Option.bind_some]) | rfl
def mR (n:Nat):Hint Out:={ live:=fun c=>[],run:=fun c=>none,xm:=fun c q=>none,sch:=fun c=>(cond (Nat.beq c 5) (some [(0,1),(1,5),(2,7),(3,2),(4,6),(5,6),(6,6),(7,6),(8,6),(9,2),(10,6),(11,6)]) none) }
theorem z7 (n:Nat):qa tys (ja Out (ow n)) (mR n) n (fa Tryz.f17) 0:=na (fun _=>rfl) _ _ (by kernel_rfl)
theorem Sbb (n:Nat):Enters Tryz.prog 17:=enters_of (c:=fa Tryz.f17) Tryz.func17 (by kernel_rfl) (by kernel_rfl)
def H1 (n:Nat):Entry:=⟨17,pcT K16 (.many K15) (fun xs=>Il n xs.1 xs.2.1),none,none⟩
theorem Pdb (n:Nat):EntryOk Tryz.prog gl (H1 n):=ya (Sbb n) fun xs y h=>ma tys_ok (Ix n) mixed (hint:=mR n) (n:=n) Tryz.func17 (za (z7 n)) (la (φ:=(fun y=>some (Out.ret (ib (.many K15) y)))) (by kernel_rfl) (ygb n xs.1 xs.2.1 _) h)
def lR (n:Nat):List Entry:=H1 n::ow n
theorem UN (n:Nat):AllOk Tryz.prog gl (lR n):=.cons (Pdb n) (Ix n)
def LZ (n:Nat) {R:Type} (e:Int) (k:Int→Option R):Option R:=k e
def Pf (n:Nat) (e:Int):Option Int:=LZ n e some
theorem Ohb (n:Nat) {S:Type}:∀ e (φ:_→Option S),(Pf n e).bind φ=LZ n e φ:=by
  intros;unfold Pf LZ;first | (simp only [ia,ba,iB,bB,oL,oX,nB,Option.bind_some]) | rfl
def jU (n:Nat):Hint Out:={ live:=fun c=>[],run:=fun c=>none,xm:=fun c q=>none }
theorem X9 (n:Nat):qa tys (ja Out (lR n)) (jU n) n (fa Tryz.f18) 0:=na (fun _=>rfl) _ _ (by kernel_rfl)
theorem rdb (n:Nat):Enters Tryz.prog 18:=enters_of (c:=fa Tryz.f18) Tryz.func18 (by kernel_rfl) (by kernel_rfl)
def C6 (n:Nat):Entry:=⟨18,pcT (.pair (.int .i64) .unit) (.one (.int .i64)) (fun xs=>Pf n xs.1),none,none⟩
theorem Zfb (n:Nat):EntryOk Tryz.prog gl (C6 n):=ya (rdb n) fun xs y h=>ma tys_ok (UN n) mixed (hint:=jU n) (n:=n) Tryz.func18 (za (X9 n)) (la (φ:=(fun y=>some (Out.ret (ib (.one (.int .i64)) y)))) (by kernel_rfl) (Ohb n xs.1 _) h)
def SB (n:Nat):List Entry:=C6 n::lR n
theorem LO (n:Nat):AllOk Tryz.prog gl (SB n):=.cons (Zfb n) (UN n)
def Uc (n:Nat) {R:Type} (a1 b1:(Sq U0)) (i:Int) (kn:(Sq U0)→(Sq U0)→Int→Option R) (ko:(Unit)→Option R) (kr:(Bool)→Option R) (kp:Int→Option R):Option R:=if (decide (i<(a1.n:Int)))=true then if 0≤i∧i<(a1.n:Int) then if 0≤i∧i<(b1.n:Int) then if (!(((((a1.at' (Int.toNat i))).1).toList==(((b1.at' (Int.toNat i))).1).toList)&&((((((a1.at' (Int.toNat i))).2).1).toList==((((b1.at' (Int.toNat i))).2).1).toList)&&true)))=true then kr false else kn a1 b1 (IntKind.wrap .i64 (i+(1:Int))) else none else none else ko ()
def Ra (n:Nat):Nat→(Sq U0)→(Sq U0)→Int→Option (Lx (Unit) (Bool))
 | 0,_,_,_=>none
 | m+1,a1,b1,i=>Uc n a1 b1 i (Ra n m) (fun a=>some (.out a)) (fun a=>some (.ret a)) (fun p=>some (.pan p))
theorem HF (n m:Nat) {S:Type}:∀ a1 b1 i (φ:_→Option S),(Ra n (m+1) a1 b1 i).bind φ=Uc n a1 b1 i (fun a1 b1 i=>(Ra n m a1 b1 i).bind φ) (fun a=>φ (.out a)) (fun a=>φ (.ret a)) (fun p=>φ (.pan p)):=by
  intros;first | (simp only [Ra,Uc,ia,ba,iB,bB,oL,oX,nB,Option.bind_some]) | rfl
def ph:List Sl:=.dat (.sl (.pair .str (.pair .str .unit)))::.dat (.sl (.pair .str (.pair .str .unit)))::.top::.top::.top::.dat (.int .i64)::tp 20 []
def oh:List RS:=[]
def Zu:List Sl:=tp 26 []
def Yu:List RS:=[]
def iv:List Sl:=tp 4 (.dat .bool::tp 21 [])
def fv:List RS:=[]
def ub (K:XE→List AV→oa→Option Out):Lx (Unit) (Bool)→Option Out:=fun x=>onL x (fun a=>Zb Zu Yu () () (K (.exit 0))) (fun a=>Zb iv fv (a,()) () (K .ret)) (fun _=>none)
def Eh (n:Nat) {R:Type} (a b:(Sq U0)) (k:Bool→Option R):Option R:=if ((a.n:Int) !=(b.n:Int))=true then k false else (Ra n n a b (0:Int)).bind fun x_1=>onL x_1 (fun a_2=>k true) (fun a_3=>k a_3) (fun _=>none)
def Cf (n:Nat) (a b:(Sq U0)):Option Bool:=Eh n a b some
theorem jP (n:Nat) {S:Type}:∀ a b (φ:_→Option S),(Cf n a b).bind φ=Eh n a b φ:=by
  intros;unfold Cf Eh;first | (simp only [ia,ba,iB,bB,oL,oX,nB,Option.bind_some]) | rfl
def Oe (n:Nat):Hint Out:={ live:=fun c=>(cond (Nat.beq c 0) [(0,some (.sl (.pair .str (.pair .str .unit)))),(1,some (.sl (.pair .str (.pair .str .unit)))),(5,none)] []),run:=fun c=>(cond (Nat.beq c 0) (some (Qf ph oh fun σ ρ K=>(Ra n n σ.1 σ.2.1 σ.2.2.1).bind (ub K))) none),xm:=fun c q=>(cond (Nat.beq c 0&&Nat.beq (q.getD 1000000) 0&&q.isSome) (some []) (cond (Nat.beq c 1&&q.isNone) (some [(4,none)]) none)) }
def Ne (n:Nat) (K:XE→List AV→oa→Option Out) (m:Nat) (a1:(Sq U0)) (b1:(Sq U0)) (i:Int):Option Out:=Dc tys (ja Out (SB n)) (Oe n) n (ta [1,1,0,1,0,0] (fa Tryz.f39)) 0 ph oh K m (a1,(b1,(i,()))) ()
theorem Hp (n:Nat) (K:XE→List AV→oa→Option Out):∀ (m:Nat) a1 b1 i,Ne n K m a1 b1 i=(Ra n m a1 b1 i).bind (ub K)
  | 0,_,_,_=>by kernel_rfl
  | m+1,a1,b1,i=>by
    have h1:Ne n K (m+1) a1 b1 i=Uc n a1 b1 i (Ne n K m) (fun a=>ub K (.out a)) (fun a=>ub K (.ret a)) (fun p=>ub K (.pan p)):=by kernel_rfl
    have h2:Ne n K m=fun a1 b1 i=>(Ra n m a1 b1 i).bind (ub K):=by
      repeat (refine funext fun _=>?_)
      exact Hp n K m _ _ _
    rw [h1,h2];exact (HF n m _ _ _ (ub K)).symm
theorem lD (n:Nat):ec tys (ja Out (SB n)) (Oe n) n (ta [1,1,0,1,0,0] (fa Tryz.f39)) 0:=Ba (sp:=ph) (rp:=oh) (by kernel_rfl) fun K σ ρ=>Hp n K n σ.1 σ.2.1 σ.2.2.1
theorem IF (n:Nat):qa tys (ja Out (SB n)) (Oe n) n (fa Tryz.f39) 0:=⟨aa,⟨⟨aa,⟨⟨aa,aa⟩,aa⟩⟩,⟨⟨aa,⟨lD n,⟨⟨aa,⟨aa,aa⟩⟩,⟨⟨aa,⟨⟨aa,aa⟩,aa⟩⟩,aa⟩⟩⟩⟩,⟨aa,aa⟩⟩⟩⟩
theorem XI (n:Nat):Enters Tryz.prog 39:=enters_of (c:=fa Tryz.f39) Tryz.func39 (by kernel_rfl) (by kernel_rfl)
def jv (n:Nat):Entry:=⟨39,pcT K17 (.one .bool) (fun xs=>Cf n xs.1 xs.2.1),none,none⟩
theorem gM (n:Nat):EntryOk Tryz.prog gl (jv n):=ya (XI n) fun xs y h=>ma tys_ok (LO n) mixed (hint:=Oe n) (n:=n) Tryz.func39 (za (IF n)) (la (φ:=(fun y=>some (Out.ret (ib (.one .bool) y)))) (by kernel_rfl) (jP n xs.1 xs.2.1 _) h)
def ee (n:Nat):List Entry:=jv n::SB n
theorem Om (n:Nat):AllOk Tryz.prog gl (ee n):=.cons (gM n) (LO n)
def fe (n:Nat) {R:Type} (a1 b1:(Sq BA)) (i:Int) (kn:(Sq BA)→(Sq BA)→Int→Option R) (ko:(Unit)→Option R) (kr:(Bool)→Option R) (kp:Int→Option R):Option R:=if (decide (i<(a1.n:Int)))=true then if 0≤i∧i<(a1.n:Int) then if 0≤i∧i<(b1.n:Int) then if (!((a1.at' (Int.toNat i)).toList==(b1.at' (Int.toNat i)).toList))=true then kr false else kn a1 b1 (IntKind.wrap .i64 (i+(1:Int))) else none else none else ko ()
def eb (n:Nat):Nat→(Sq BA)→(Sq BA)→Int→Option (Lx (Unit) (Bool))
 | 0,_,_,_=>none
 | m+1,a1,b1,i=>fe n a1 b1 i (eb n m) (fun a=>some (.out a)) (fun a=>some (.ret a)) (fun p=>some (.pan p))
theorem iM (n m:Nat) {S:Type}:∀ a1 b1 i (φ:_→Option S),(eb n (m+1) a1 b1 i).bind φ=fe n a1 b1 i (fun a1 b1 i=>(eb n m a1 b1 i).bind φ) (fun a=>φ (.out a)) (fun a=>φ (.ret a)) (fun p=>φ (.pan p)):=by
  intros;first | (simp only [eb,fe,ia,ba,iB,bB,oL,oX,nB,Option.bind_some]) | rfl
def Si:List Sl:=.dat (.sl .str)::.dat (.sl .str)::.top::.top::.top::.dat (.int .i64)::tp 20 []
def Ri:List RS:=[]
def my:List Sl:=tp 26 []
def ly:List RS:=[]
def oy:List Sl:=tp 4 (.dat .bool::tp 21 [])
def ny:List RS:=[]
def jc (K:XE→List AV→oa→Option Out):Lx (Unit) (Bool)→Option Out:=fun x=>onL x (fun a=>Zb my ly () () (K (.exit 0))) (fun a=>Zb oy ny (a,()) () (K .ret)) (fun _=>none)
def Xk (n:Nat) {R:Type} (a b:(Sq BA)) (k:Bool→Option R):Option R:=if ((a.n:Int) !=(b.n:Int))=true then k false else (eb n n a b (0:Int)).bind fun x_1=>onL x_1 (fun a_2=>k true) (fun a_3=>k a_3) (fun _=>none)
def qi (n:Nat) (a b:(Sq BA)):Option Bool:=Xk n a b some
theorem lV (n:Nat) {S:Type}:∀ a b (φ:_→Option S),(qi n a b).bind φ=Xk n a b φ:=by
  intros;unfold qi Xk;first | (simp only [ia,ba,iB,bB,oL,oX,nB,Option.bind_some]) | rfl
def Og (n:Nat):Hint Out:={ live:=fun c=>(cond (Nat.beq c 0) [(0,some (.sl .str)),(1,some (.sl .str)),(5,none)] []),run:=fun c=>(cond (Nat.beq c 0) (some (Qf Si Ri fun σ ρ K=>(eb n n σ.1 σ.2.1 σ.2.2.1).bind (jc K))) none),xm:=fun c q=>(cond (Nat.beq c 0&&Nat.beq (q.getD 1000000) 0&&q.isSome) (some []) (cond (Nat.beq c 1&&q.isNone) (some [(4,none)]) none)) }
def Ng (n:Nat) (K:XE→List AV→oa→Option Out) (m:Nat) (a1:(Sq BA)) (b1:(Sq BA)) (i:Int):Option Out:=Dc tys (ja Out (ee n)) (Og n) n (ta [1,1,0,1,0,0] (fa Tryz.f40)) 0 Si Ri K m (a1,(b1,(i,()))) ()
theorem mv (n:Nat) (K:XE→List AV→oa→Option Out):∀ (m:Nat) a1 b1 i,Ng n K m a1 b1 i=(eb n m a1 b1 i).bind (jc K)
  | 0,_,_,_=>by kernel_rfl
  | m+1,a1,b1,i=>by
    have h1:Ng n K (m+1) a1 b1 i=fe n a1 b1 i (Ng n K m) (fun a=>jc K (.out a)) (fun a=>jc K (.ret a)) (fun p=>jc K (.pan p)):=by kernel_rfl
    have h2:Ng n K m=fun a1 b1 i=>(eb n m a1 b1 i).bind (jc K):=by
      repeat (refine funext fun _=>?_)
      exact mv n K m _ _ _
    rw [h1,h2];exact (iM n m _ _ _ (jc K)).symm
theorem YI (n:Nat):ec tys (ja Out (ee n)) (Og n) n (ta [1,1,0,1,0,0] (fa Tryz.f40)) 0:=Ba (sp:=Si) (rp:=Ri) (by kernel_rfl) fun K σ ρ=>mv n K n σ.1 σ.2.1 σ.2.2.1
theorem jM (n:Nat):qa tys (ja Out (ee n)) (Og n) n (fa Tryz.f40) 0:=⟨aa,⟨⟨aa,⟨⟨aa,aa⟩,aa⟩⟩,⟨⟨aa,⟨YI n,⟨⟨aa,⟨aa,aa⟩⟩,⟨⟨aa,⟨⟨aa,aa⟩,aa⟩⟩,aa⟩⟩⟩⟩,⟨aa,aa⟩⟩⟩⟩
theorem kP (n:Nat):Enters Tryz.prog 40:=enters_of (c:=fa Tryz.f40) Tryz.func40 (by kernel_rfl) (by kernel_rfl)
def gA (n:Nat):Entry:=⟨40,pcT (.pair (.sl .str) (.pair (.sl .str) .unit)) (.one .bool) (fun xs=>qi n xs.1 xs.2.1),none,none⟩
theorem jS (n:Nat):EntryOk Tryz.prog gl (gA n):=ya (kP n) fun xs y h=>ma tys_ok (Om n) mixed (hint:=Og n) (n:=n) Tryz.func40 (za (jM n)) (la (φ:=(fun y=>some (Out.ret (ib (.one .bool) y)))) (by kernel_rfl) (lV n xs.1 xs.2.1 _) h)
def Ip (n:Nat):List Entry:=gA n::ee n
theorem jr (n:Nat):AllOk Tryz.prog gl (Ip n):=.cons (jS n) (Om n)
def Kn (n:Nat) {R:Type} (a b:T0) (k:Bool→Option R):Option R:=if (a.1==b.1)=true then if (a.2.1==b.2.1)=true then if (a.2.2.1==b.2.2.1)=true then if ((a.2.2.2.1.1.toList==b.2.2.2.1.1.toList)&&((a.2.2.2.1.2.1==b.2.2.2.1.2.1)&&true))=true then if (a.2.2.2.2.1==b.2.2.2.2.1)=true then if (a.2.2.2.2.2.1.toList==b.2.2.2.2.2.1.toList)=true then if (a.2.2.2.2.2.2.1==b.2.2.2.2.2.2.1)=true then if ((a.2.2.2.2.2.2.2.1.1.toList==b.2.2.2.2.2.2.2.1.1.toList)&&((a.2.2.2.2.2.2.2.1.2.1.toList==b.2.2.2.2.2.2.2.1.2.1.toList)&&true))=true then (Cf n a.2.2.2.2.2.2.2.2.1 b.2.2.2.2.2.2.2.2.1).bind fun v=>if v=true then (qi n a.2.2.2.2.2.2.2.2.2.1 b.2.2.2.2.2.2.2.2.2.1).bind fun v1=>if v1=true then if (a.2.2.2.2.2.2.2.2.2.2.1==b.2.2.2.2.2.2.2.2.2.2.1)=true then k (a.2.2.2.2.2.2.2.2.2.2.2.1==b.2.2.2.2.2.2.2.2.2.2.2.1) else k false else k false else k false else k false else k false else k false else k false else k false else k false else k false else k false
def wa (n:Nat) (a b:T0):Option Bool:=Kn n a b some
theorem vY (n:Nat) {S:Type}:∀ a b (φ:_→Option S),(wa n a b).bind φ=Kn n a b φ:=by
  intros;unfold wa Kn;first | (simp only [ia,ba,iB,bB,oL,oX,nB,Option.bind_some]) | rfl
def Tx (n:Nat):Hint Out:={ live:=fun c=>[],run:=fun c=>none,xm:=fun c q=>none }
theorem iP (n:Nat):qa tys (ja Out (Ip n)) (Tx n) n (fa Tryz.f19) 0:=na (fun _=>rfl) _ _ (by kernel_rfl)
theorem iS (n:Nat):Enters Tryz.prog 19:=enters_of (c:=fa Tryz.f19) Tryz.func19 (by kernel_rfl) (by kernel_rfl)
def oE (n:Nat):Entry:=⟨19,pcT K18 (.one .bool) (fun xs=>wa n xs.1 xs.2.1),none,none⟩
theorem kV (n:Nat):EntryOk Tryz.prog gl (oE n):=ya (iS n) fun xs y h=>ma tys_ok (jr n) mixed (hint:=Tx n) (n:=n) Tryz.func19 (za (iP n)) (la (φ:=(fun y=>some (Out.ret (ib (.one .bool) y)))) (by kernel_rfl) (vY n xs.1 xs.2.1 _) h)
def mt (n:Nat):List Entry:=oE n::Ip n
theorem Xu (n:Nat):AllOk Tryz.prog gl (mt n):=.cons (kV n) (jr n)
def rQ (n:Nat) {R:Type} (id tenant ip:Int) (k:(T0×Int×Unit)→Option R):Option R:=(RO n (id,(tenant,(ip,(((⟨#[]⟩:BA),(false,())),((0:Int),((⟨#[]⟩:BA),(false,(((⟨#[]⟩:BA),((⟨#[]⟩:BA),())),((⟨0,fun _=>ua (.pair .str (.pair .str .unit))⟩:Sq U0),((⟨0,fun _=>ua .str⟩:Sq BA),((0:Int),(false,()))))))))))))).bind fun v=>if (!v)=true then k (((0:Int),((0:Int),((0:Int),(((⟨#[]⟩:BA),(false,())),((0:Int),((⟨#[]⟩:BA),(false,(((⟨#[]⟩:BA),((⟨#[]⟩:BA),())),((⟨0,fun _=>ua (.pair .str (.pair .str .unit))⟩:Sq U0),((⟨0,fun _=>ua .str⟩:Sq BA),((0:Int),(false,())))))))))))),((1:Int),())) else k ((id,(tenant,(ip,(((⟨#[]⟩:BA),(false,())),((0:Int),((⟨#[]⟩:BA),(false,(((⟨#[]⟩:BA),((⟨#[]⟩:BA),())),((⟨0,fun _=>ua (.pair .str (.pair .str .unit))⟩:Sq U0),((⟨0,fun _=>ua .str⟩:Sq BA),((0:Int),(false,())))))))))))),((0:Int),()))
def vW (n:Nat) (id tenant ip:Int):Option (T0×Int×Unit):=rQ n id tenant ip some
theorem Agb (n:Nat) {S:Type}:∀ id tenant ip (φ:_→Option S),(vW n id tenant ip).bind φ=rQ n id tenant ip φ:=by
  intros;unfold vW rQ;first | (simp only [ia,ba,iB,bB,oL,oX,nB,Option.bind_some]) | rfl
def pR (n:Nat):Hint Out:={ live:=fun c=>[],run:=fun c=>none,xm:=fun c q=>none }
theorem C7 (n:Nat):qa tys (ja Out (mt n)) (pR n) n (fa Tryz.f41) 0:=na (fun _=>rfl) _ _ (by kernel_rfl)
theorem Ubb (n:Nat):Enters Tryz.prog 41:=enters_of (c:=fa Tryz.f41) Tryz.func41 (by kernel_rfl) (by kernel_rfl)
def I1 (n:Nat):Entry:=⟨41,pcT (.pair (.int .i64) (.pair (.int .i64) (.pair (.int .i64) .unit))) (.many K19) (fun xs=>vW n xs.1 xs.2.1 xs.2.2.1),none,none⟩
theorem Rdb (n:Nat):EntryOk Tryz.prog gl (I1 n):=ya (Ubb n) fun xs y h=>ma tys_ok (Xu n) mixed (hint:=pR n) (n:=n) Tryz.func41 (za (C7 n)) (la (φ:=(fun y=>some (Out.ret (ib (.many K19) y)))) (by kernel_rfl) (Agb n xs.1 xs.2.1 xs.2.2.1 _) h)
def oR (n:Nat):List Entry:=I1 n::mt n
theorem WN (n:Nat):AllOk Tryz.prog gl (oR n):=.cons (Rdb n) (Xu n)
def YC (n:Nat) {R:Type} (k:Bool→Option R):Option R:=(vW n (1:Int) (0:Int) (5:Int)).bind fun v=>(Il n v.1 ((⟨#[69,72,76,79,32,120]⟩:BA),(false,()))).bind fun v1=>(Pf n v.2.1).bind fun v2=>if (v2==(0:Int))=true then (Pf n v1.2.2.2.1).bind fun v3=>if (v3==(0:Int))=true then if (v1.2.1==(250:Int))=true then if (v1.2.2.1.toList==(⟨#[]⟩:BA).toList)=true then if (v1.1.2.2.2.2.1==(1:Int))=true then k (v1.1.2.2.2.2.2.1.toList==(⟨#[120]⟩:BA).toList) else k false else k false else k false else k false else k false
def Fo (n:Nat):Option Bool:=YC n some
theorem sdb (n:Nat) {S:Type}:∀ (φ:_→Option S),(Fo n).bind φ=YC n φ:=by
  intros;unfold Fo YC;first | (simp only [ia,ba,iB,bB,oL,oX,nB,Option.bind_some]) | rfl
def uL (n:Nat):Hint Out:={ live:=fun c=>[],run:=fun c=>none,xm:=fun c q=>none }
theorem OZ (n:Nat):qa tys (ja Out (oR n)) (uL n) n (fa Tryz.f20) 0:=na (fun _=>rfl) _ _ (by kernel_rfl)
theorem G6 (n:Nat):Enters Tryz.prog 20:=enters_of (c:=fa Tryz.f20) Tryz.func20 (by kernel_rfl) (by kernel_rfl)
def mU (n:Nat):Entry:=⟨20,pcT .unit (.one .bool) (fun xs=>Fo n),none,none⟩
theorem aab (n:Nat):EntryOk Tryz.prog gl (mU n):=ya (G6 n) fun xs y h=>ma tys_ok (WN n) mixed (hint:=uL n) (n:=n) Tryz.func20 (za (OZ n)) (la (φ:=(fun y=>some (Out.ret (ib (.one .bool) y)))) (by kernel_rfl) (sdb n  _) h)
def Gq (n:Nat):List Entry:=mU n::oR n
theorem fF (n:Nat):AllOk Tryz.prog gl (Gq n):=.cons (aab n) (WN n)
def sd (n:Nat) {R:Type} (l1:(Sq U0)) (i:Int) (m0:(Sq U0)) (kn:(Sq U0)→Int→(Sq U0)→Option R) (ko:((Sq U0))→Option R) (kr:Unit→Option R) (kp:Int→Option R):Option R:=if (decide (i<(l1.n:Int)))=true then if 0≤i∧i<(l1.n:Int) then if Gb (m0.n+1) 32=true then kn l1 (IntKind.wrap .i64 (i+(1:Int))) (⟨(m0.n+1),fun q=>if q<m0.n then m0.at' q else (fun q=>List.getD (α:=U0) [(((l1.at' (Int.toNat i))).1,((((l1.at' (Int.toNat i))).2).1,()))] q (ua (.pair .str (.pair .str .unit)))) (q - m0.n)⟩:Sq U0) else none else none else ko m0
def Oa (n:Nat):Nat→(Sq U0)→Int→(Sq U0)→Option (Lx ((Sq U0)) Unit)
 | 0,_,_,_=>none
 | m+1,l1,i,m0=>sd n l1 i m0 (Oa n m) (fun a=>some (.out a)) (fun a=>some (.ret a)) (fun p=>some (.pan p))
theorem Vu (n m:Nat) {S:Type}:∀ l1 i m0 (φ:_→Option S),(Oa n (m+1) l1 i m0).bind φ=sd n l1 i m0 (fun l1 i m0=>(Oa n m l1 i m0).bind φ) (fun a=>φ (.out a)) (fun a=>φ (.ret a)) (fun p=>φ (.pan p)):=by
  intros;first | (simp only [Oa,sd,ia,ba,iB,bB,oL,oX,nB,Option.bind_some]) | rfl
def Kd:List Sl:=.dat (.sl (.pair .str (.pair .str .unit)))::.top::.top::.row 0::.dat (.int .i64)::tp 14 []
def Jd:List RS:=[.row 25 2 (.pair .str (.pair .str .unit)) true false,.ghost [.top]]
def rm:List Sl:=.top::.top::.top::.row 0::tp 15 []
def qm:List RS:=[.row 25 2 (.pair .str (.pair .str .unit)) true false,.ghost [.top]]
def Qa (K:XE→List AV→oa→Option OutS):Lx ((Sq U0)) Unit→Option OutS:=fun x=>onL x (fun a=>Zb rm qm () (a,((),())) (K (.exit 0))) (fun _=>none) (fun _=>none)
def dg (n:Nat) {R:Type} (l:(Sq U0)) (k:((Sq U0)×Unit)→Option R):Option R:=(Oa n n l (0:Int) (⟨0,fun _=>ua (.pair .str (.pair .str .unit))⟩:Sq U0)).bind fun x_1=>onL x_1 (fun a_2=>k (a_2,())) (fun _=>none) (fun _=>none)
def ic (n:Nat) (l:(Sq U0)):Option ((Sq U0)×Unit):=dg n l some
theorem cA (n:Nat) {S:Type}:∀ l (φ:_→Option S),(ic n l).bind φ=dg n l φ:=by
  intros;unfold ic dg;first | (simp only [ia,ba,iB,bB,oL,oX,nB,Option.bind_some]) | rfl
def Gc (n:Nat):Hint OutS:={ live:=fun c=>(cond (Nat.beq c 0) [(0,some (.sl (.pair .str (.pair .str .unit)))),(3,some (.sl (.pair .str (.pair .str .unit)))),(4,none)] []),run:=fun c=>(cond (Nat.beq c 0) (some (Qf Kd Jd fun σ ρ K=>(Oa n n σ.1 σ.2.1 ρ.1).bind (Qa K))) none),xm:=fun c q=>(cond (Nat.beq c 0&&Nat.beq (q.getD 1000000) 0&&q.isSome) (some [(3,some (.sl (.pair .str (.pair .str .unit))))]) none) }
def Fc (n:Nat) (K:XE→List AV→oa→Option OutS) (m:Nat) (l1:(Sq U0)) (i:Int) (m0:(Sq U0)):Option OutS:=Dc tys (ja OutS (Gq n)) (Gc n) n (ta [1,1,0,1,0,0] (fa Tryz.f42)) 0 Kd Jd K m (l1,(i,())) (m0,((),()))
theorem pi (n:Nat) (K:XE→List AV→oa→Option OutS):∀ (m:Nat) l1 i m0,Fc n K m l1 i m0=(Oa n m l1 i m0).bind (Qa K)
  | 0,_,_,_=>by kernel_rfl
  | m+1,l1,i,m0=>by
    have h1:Fc n K (m+1) l1 i m0=sd n l1 i m0 (Fc n K m) (fun a=>Qa K (.out a)) (fun a=>Qa K (.ret a)) (fun p=>Qa K (.pan p)):=by kernel_rfl
    have h2:Fc n K m=fun l1 i m0=>(Oa n m l1 i m0).bind (Qa K):=by
      repeat (refine funext fun _=>?_)
      exact pi n K m _ _ _
    rw [h1,h2];exact (Vu n m _ _ _ (Qa K)).symm
theorem kt (n:Nat):ec tys (ja OutS (Gq n)) (Gc n) n (ta [1,1,0,1,0,0] (fa Tryz.f42)) 0:=Ba (sp:=Kd) (rp:=Jd) (by kernel_rfl) fun K σ ρ=>pi n K n σ.1 σ.2.1 ρ.1
theorem Wu (n:Nat):qa tys (ja OutS (Gq n)) (Gc n) n (fa Tryz.f42) 0:=⟨aa,⟨aa,⟨⟨aa,⟨kt n,⟨⟨aa,⟨aa,aa⟩⟩,⟨aa,aa⟩⟩⟩⟩,⟨aa,aa⟩⟩⟩⟩
theorem Ew (n:Nat):Enters Tryz.prog 42:=enters_of (c:=fa Tryz.f42) Tryz.func42 (by kernel_rfl) (by kernel_rfl)
def Oj:List RSp:=[.one (.dat (.sl (.pair .str (.pair .str .unit))))]
def Nj:List RS:=[]
def Fw:List Sl:=[.top]
def Gw:List RSp:=[.one (.row 0)]
def Sc:List RS:=[.row 25 2 (.pair .str (.pair .str .unit)) true false]
def fg (y:((Sq U0)×Unit)):OutS:=⟨false,lp (Wc Sc (y.1,())) Fw (),tH (kE (Wc Sc (y.1,())) Gw ((),())),dw (Wc Sc (y.1,())) Sc (y.1,())⟩
theorem iy (n:Nat):EntryOk Tryz.prog gl ⟨42,me,none,some (csT Oj Nj (fun σ ρ=>ic n σ.1.1) fg)⟩:=qe (Ew n) fun σ ρ y h=>Bb tys_ok (fF n) mixed (hint:=Gc n) (n:=n) Tryz.func42 (za (Wu n)) (la (φ:=fun y=>some (fg y)) (by kernel_rfl) (cA n σ.1.1 _) h)
def dc (n:Nat):List Entry:=⟨42,me,none,some (csT Oj Nj (fun σ ρ=>ic n σ.1.1) fg)⟩::Gq n
theorem zh (n:Nat):AllOk Tryz.prog gl (dc n):=.cons (iy n) (fF n)
def Ud (n:Nat) {R:Type} (l1:(Sq BA)) (i:Int) (m0:(Sq BA)) (kn:(Sq BA)→Int→(Sq BA)→Option R) (ko:((Sq BA))→Option R) (kr:Unit→Option R) (kp:Int→Option R):Option R:=if (decide (i<(l1.n:Int)))=true then if 0≤i∧i<(l1.n:Int) then if Gb (m0.n+1) 16=true then kn l1 (IntKind.wrap .i64 (i+(1:Int))) (⟨(m0.n+1),fun q=>if q<m0.n then m0.at' q else (fun q=>List.getD (α:=BA) [(l1.at' (Int.toNat i))] q (ua .str)) (q - m0.n)⟩:Sq BA) else none else none else ko m0
def Ya (n:Nat):Nat→(Sq BA)→Int→(Sq BA)→Option (Lx ((Sq BA)) Unit)
 | 0,_,_,_=>none
 | m+1,l1,i,m0=>Ud n l1 i m0 (Ya n m) (fun a=>some (.out a)) (fun a=>some (.ret a)) (fun p=>some (.pan p))
theorem jy (n m:Nat) {S:Type}:∀ l1 i m0 (φ:_→Option S),(Ya n (m+1) l1 i m0).bind φ=Ud n l1 i m0 (fun l1 i m0=>(Ya n m l1 i m0).bind φ) (fun a=>φ (.out a)) (fun a=>φ (.ret a)) (fun p=>φ (.pan p)):=by
  intros;first | (simp only [Ya,Ud,ia,ba,iB,bB,oL,oX,nB,Option.bind_some]) | rfl
def Me:List Sl:=.dat (.sl .str)::.top::.top::.row 0::.dat (.int .i64)::tp 14 []
def Le:List RS:=[.row 9 1 .str true false,.ghost [.top]]
def Gp:List Sl:=.top::.top::.top::.row 0::tp 15 []
def Fp:List RS:=[.row 9 1 .str true false,.ghost [.top]]
def Za (K:XE→List AV→oa→Option OutS):Lx ((Sq BA)) Unit→Option OutS:=fun x=>onL x (fun a=>Zb Gp Fp () (a,((),())) (K (.exit 0))) (fun _=>none) (fun _=>none)
def Rh (n:Nat) {R:Type} (l:(Sq BA)) (k:((Sq BA)×Unit)→Option R):Option R:=(Ya n n l (0:Int) (⟨0,fun _=>ua .str⟩:Sq BA)).bind fun x_1=>onL x_1 (fun a_2=>k (a_2,())) (fun _=>none) (fun _=>none)
def Tc (n:Nat) (l:(Sq BA)):Option ((Sq BA)×Unit):=Rh n l some
theorem GF (n:Nat) {S:Type}:∀ l (φ:_→Option S),(Tc n l).bind φ=Rh n l φ:=by
  intros;unfold Tc Rh;first | (simp only [ia,ba,iB,bB,oL,oX,nB,Option.bind_some]) | rfl
def ud (n:Nat):Hint OutS:={ live:=fun c=>(cond (Nat.beq c 0) [(0,some (.sl .str)),(3,some (.sl .str)),(4,none)] []),run:=fun c=>(cond (Nat.beq c 0) (some (Qf Me Le fun σ ρ K=>(Ya n n σ.1 σ.2.1 ρ.1).bind (Za K))) none),xm:=fun c q=>(cond (Nat.beq c 0&&Nat.beq (q.getD 1000000) 0&&q.isSome) (some [(3,some (.sl .str))]) none) }
def td (n:Nat) (K:XE→List AV→oa→Option OutS) (m:Nat) (l1:(Sq BA)) (i:Int) (m0:(Sq BA)):Option OutS:=Dc tys (ja OutS (dc n)) (ud n) n (ta [1,1,0,1,0,0] (fa Tryz.f43)) 0 Me Le K m (l1,(i,())) (m0,((),()))
theorem Pj (n:Nat) (K:XE→List AV→oa→Option OutS):∀ (m:Nat) l1 i m0,td n K m l1 i m0=(Ya n m l1 i m0).bind (Za K)
  | 0,_,_,_=>by kernel_rfl
  | m+1,l1,i,m0=>by
    have h1:td n K (m+1) l1 i m0=Ud n l1 i m0 (td n K m) (fun a=>Za K (.out a)) (fun a=>Za K (.ret a)) (fun p=>Za K (.pan p)):=by kernel_rfl
    have h2:td n K m=fun l1 i m0=>(Ya n m l1 i m0).bind (Za K):=by
      repeat (refine funext fun _=>?_)
      exact Pj n K m _ _ _
    rw [h1,h2];exact (jy n m _ _ _ (Za K)).symm
theorem Hw (n:Nat):ec tys (ja OutS (dc n)) (ud n) n (ta [1,1,0,1,0,0] (fa Tryz.f43)) 0:=Ba (sp:=Me) (rp:=Le) (by kernel_rfl) fun K σ ρ=>Pj n K n σ.1 σ.2.1 ρ.1
theorem ky (n:Nat):qa tys (ja OutS (dc n)) (ud n) n (fa Tryz.f43) 0:=⟨aa,⟨aa,⟨⟨aa,⟨Hw n,⟨⟨aa,⟨aa,aa⟩⟩,⟨aa,aa⟩⟩⟩⟩,⟨aa,aa⟩⟩⟩⟩
theorem dA (n:Nat):Enters Tryz.prog 43:=enters_of (c:=fa Tryz.f43) Tryz.func43 (by kernel_rfl) (by kernel_rfl)
def Nm:List RSp:=[.one (.dat (.sl .str))]
def Mm:List RS:=[]
def eA:List Sl:=[.top]
def fA:List RSp:=[.one (.row 0)]
def Ad:List RS:=[.row 9 1 .str true false]
def Sh (y:((Sq BA)×Unit)):OutS:=⟨false,lp (Wc Ad (y.1,())) eA (),tH (kE (Wc Ad (y.1,())) fA ((),())),dw (Wc Ad (y.1,())) Ad (y.1,())⟩
theorem kD (n:Nat):EntryOk Tryz.prog gl ⟨43,me,none,some (csT Nm Mm (fun σ ρ=>Tc n σ.1.1) Sh)⟩:=qe (dA n) fun σ ρ y h=>Bb tys_ok (zh n) mixed (hint:=ud n) (n:=n) Tryz.func43 (za (ky n)) (la (φ:=fun y=>some (Sh y)) (by kernel_rfl) (GF n σ.1.1 _) h)
def nh (n:Nat):List Entry:=⟨43,me,none,some (csT Nm Mm (fun σ ρ=>Tc n σ.1.1) Sh)⟩::dc n
theorem Qi (n:Nat):AllOk Tryz.prog gl (nh n):=.cons (kD n) (zh n)
def Bp (n:Nat) {R:Type} (a:T0) (k:T0→Option R):Option R:=(ic n a.2.2.2.2.2.2.2.2.1).bind fun v=>(Tc n a.2.2.2.2.2.2.2.2.2.1).bind fun v1=>k (a.1,(a.2.1,(a.2.2.1,(a.2.2.2.1,(a.2.2.2.2.1,(a.2.2.2.2.2.1,(a.2.2.2.2.2.2.1,(a.2.2.2.2.2.2.2.1,(v.1,(v1.1,a.2.2.2.2.2.2.2.2.2.2))))))))))
def Ke (n:Nat) (a:T0):Option T0:=Bp n a some
theorem gS (n:Nat) {S:Type}:∀ a (φ:_→Option S),(Ke n a).bind φ=Bp n a φ:=by
  intros;unfold Ke Bp;first | (simp only [ia,ba,iB,bB,oL,oX,nB,Option.bind_some]) | rfl
def ir (n:Nat):Hint Out:={ live:=fun c=>[],run:=fun c=>none,xm:=fun c q=>none }
theorem VI (n:Nat):qa tys (ja Out (nh n)) (ir n) n (fa Tryz.f23) 0:=na (fun _=>rfl) _ _ (by kernel_rfl)
theorem fM (n:Nat):Enters Tryz.prog 23:=enters_of (c:=fa Tryz.f23) Tryz.func23 (by kernel_rfl) (by kernel_rfl)
def Sx (n:Nat):Entry:=⟨23,pcT K1 (.one K0) (fun xs=>Ke n xs.1),none,none⟩
theorem gP (n:Nat):EntryOk Tryz.prog gl (Sx n):=ya (fM n) fun xs y h=>ma tys_ok (Qi n) mixed (hint:=ir n) (n:=n) Tryz.func23 (za (VI n)) (la (φ:=(fun y=>some (Out.ret (ib (.one K0) y)))) (by kernel_rfl) (gS n xs.1 _) h)
def om (n:Nat):List Entry:=Sx n::nh n
theorem Cp (n:Nat):AllOk Tryz.prog gl (om n):=.cons (gP n) (Qi n)
def BH (n:Nat) {R:Type} (i n0:Int) (k:Int→Option R):Option R:=if (IntKind.wrap .u64 n0)=0 then none else k (IntKind.wrap .i64 (Int.tmod (IntKind.wrap .u64 i) (IntKind.wrap .u64 n0)))
def eL (n:Nat) (i n0:Int):Option Int:=BH n i n0 some
theorem T9 (n:Nat) {S:Type}:∀ i n0 (φ:_→Option S),(eL n i n0).bind φ=BH n i n0 φ:=by
  intros;unfold eL BH;first | (simp only [ia,ba,iB,bB,oL,oX,nB,Option.bind_some]) | rfl
def dF (n:Nat):Hint Out:={ live:=fun c=>[],run:=fun c=>none,xm:=fun c q=>none }
theorem cW (n:Nat):qa tys (ja Out (om n)) (dF n) n (fa Tryz.f44) 0:=na (fun _=>rfl) _ _ (by kernel_rfl)
theorem GZ (n:Nat):Enters Tryz.prog 44:=enters_of (c:=fa Tryz.f44) Tryz.func44 (by kernel_rfl) (by kernel_rfl)
def KO (n:Nat):Entry:=⟨44,pcT (.pair (.int .i64) (.pair (.int .i64) .unit)) (.one (.int .i64)) (fun xs=>eL n xs.1 xs.2.1),none,none⟩
theorem y6 (n:Nat):EntryOk Tryz.prog gl (KO n):=ya (GZ n) fun xs y h=>ma tys_ok (Cp n) mixed (hint:=dF n) (n:=n) Tryz.func44 (za (cW n)) (la (φ:=(fun y=>some (Out.ret (ib (.one (.int .i64)) y)))) (by kernel_rfl) (T9 n xs.1 xs.2.1 _) h)
def am (n:Nat):List Entry:=KO n::om n
theorem JB (n:Nat):AllOk Tryz.prog gl (am n):=.cons (y6 n) (Cp n)
def Jw (n:Nat) {R:Type} (s1:BA) (low1 i:Int) (kn:BA→Int→Int→Option R) (ko:(Unit)→Option R) (kr:(Bool)→Option R) (kp:Int→Option R):Option R:=if (decide (i<(s1.size:Int)))=true then if 0≤i∧i<(s1.size:Int) then if (decide ((bt s1 i)<low1))=false then if 0≤i∧i<(s1.size:Int) then if (decide ((bt s1 i)>(126:Int)))=true then kr false else kn s1 low1 (IntKind.wrap .i64 (i+(1:Int))) else none else kr false else none else ko ()
def ig (n:Nat):Nat→BA→Int→Int→Option (Lx (Unit) (Bool))
 | 0,_,_,_=>none
 | m+1,s1,low1,i=>Jw n s1 low1 i (ig n m) (fun a=>some (.out a)) (fun a=>some (.ret a)) (fun p=>some (.pan p))
theorem zY (n m:Nat) {S:Type}:∀ s1 low1 i (φ:_→Option S),(ig n (m+1) s1 low1 i).bind φ=Jw n s1 low1 i (fun s1 low1 i=>(ig n m s1 low1 i).bind φ) (fun a=>φ (.out a)) (fun a=>φ (.ret a)) (fun p=>φ (.pan p)):=by
  intros;first | (simp only [ig,Jw,ia,ba,iB,bB,oL,oX,nB,Option.bind_some]) | rfl
def tt:List Sl:=.dat .str::.dat (.int .u8)::.top::.top::.top::.dat (.int .i64)::tp 17 []
def rt:List RS:=[]
def gJ:List Sl:=tp 23 []
def fJ:List RS:=[]
def jJ:List Sl:=tp 4 (.dat .bool::tp 18 [])
def iJ:List RS:=[]
def Se (K:XE→List AV→oa→Option Out):Lx (Unit) (Bool)→Option Out:=fun x=>onL x (fun a=>Zb gJ fJ () () (K (.exit 0))) (fun a=>Zb jJ iJ (a,()) () (K .ret)) (fun _=>none)
def kM (n:Nat) {R:Type} (s:BA) (low:Int) (k:Bool→Option R):Option R:=(ig n n s low (0:Int)).bind fun x_1=>onL x_1 (fun a_2=>k true) (fun a_3=>k a_3) (fun _=>none)
def yQ (n:Nat) (s:BA) (low:Int):Option Bool:=kM n s low some
theorem ucb (n:Nat) {S:Type}:∀ s low (φ:_→Option S),(yQ n s low).bind φ=kM n s low φ:=by
  intros;unfold yQ kM;first | (simp only [ia,ba,iB,bB,oL,oX,nB,Option.bind_some]) | rfl
def On (n:Nat):Hint Out:={ live:=fun c=>(cond (Nat.beq c 0) (lv [0,1,5]) []),run:=fun c=>(cond (Nat.beq c 0) (some (Qf tt rt fun σ ρ K=>(ig n n σ.1 σ.2.1 σ.2.2.1).bind (Se K))) none),xm:=fun c q=>(cond (Nat.beq c 0&&Nat.beq (q.getD 1000000) 0&&q.isSome) (some []) (cond (Nat.beq c 1&&q.isNone) (some [(4,none)]) none)) }
def Nn (n:Nat) (K:XE→List AV→oa→Option Out) (m:Nat) (s1:BA) (low1:Int) (i:Int):Option Out:=Dc tys (ja Out (am n)) (On n) n (ta [1,0,1,0,0] (fa Tryz.f134)) 0 tt rt K m (s1,(low1,(i,()))) ()
theorem eJ (n:Nat) (K:XE→List AV→oa→Option Out):∀ (m:Nat) s1 low1 i,Nn n K m s1 low1 i=(ig n m s1 low1 i).bind (Se K)
  | 0,_,_,_=>by kernel_rfl
  | m+1,s1,low1,i=>by
    have h1:Nn n K (m+1) s1 low1 i=Jw n s1 low1 i (Nn n K m) (fun a=>Se K (.out a)) (fun a=>Se K (.ret a)) (fun p=>Se K (.pan p)):=by kernel_rfl
    have h2:Nn n K m=fun s1 low1 i=>(ig n m s1 low1 i).bind (Se K):=by
      repeat (refine funext fun _=>?_)
      exact eJ n K m _ _ _
    rw [h1,h2];exact (zY n m _ _ _ (Se K)).symm
theorem oV (n:Nat):ec tys (ja Out (am n)) (On n) n (ta [1,0,1,0,0] (fa Tryz.f134)) 0:=Ba (sp:=tt) (rp:=rt) (by kernel_rfl) fun K σ ρ=>eJ n K n σ.1 σ.2.1 σ.2.2.1
theorem AY (n:Nat):qa tys (ja Out (am n)) (On n) n (fa Tryz.f134) 0:=⟨aa,⟨⟨aa,⟨oV n,⟨⟨aa,⟨aa,aa⟩⟩,⟨⟨aa,⟨⟨aa,aa⟩,aa⟩⟩,aa⟩⟩⟩⟩,⟨aa,aa⟩⟩⟩
theorem Z3 (n:Nat):Enters Tryz.prog 134:=enters_of (c:=fa Tryz.f134) Tryz.func134 (by kernel_rfl) (by kernel_rfl)
def oS (n:Nat):Entry:=⟨134,pcT (.pair .str (.pair (.int .u8) .unit)) (.one .bool) (fun xs=>yQ n xs.1 xs.2.1),none,none⟩
theorem E8 (n:Nat):EntryOk Tryz.prog gl (oS n):=ya (Z3 n) fun xs y h=>ma tys_ok (JB n) mixed (hint:=On n) (n:=n) Tryz.func134 (za (AY n)) (la (φ:=(fun y=>some (Out.ret (ib (.one .bool) y)))) (by kernel_rfl) (ucb n xs.1 xs.2.1 _) h)
def Jp (n:Nat):List Entry:=oS n::am n
theorem qE (n:Nat):AllOk Tryz.prog gl (Jp n):=.cons (E8 n) (JB n)
def gx (n:Nat) {R:Type} (l:(Sq BA)) (i:Int) (kn:(Sq BA)→Int→Option R) (ko:(Unit)→Option R) (kr:(Bool)→Option R) (kp:Int→Option R):Option R:=if (decide (i<(l.n:Int)))=true then if 0≤i∧i<(l.n:Int) then if ((l.at' (Int.toNat i)).toList==(⟨#[]⟩:BA).toList)=false then if 0≤i∧i<(l.n:Int) then (yQ n (l.at' (Int.toNat i)) (33:Int)).bind fun v1=>if (!v1)=true then kr false else kn l (IntKind.wrap .i64 (i+(1:Int))) else none else kr false else none else ko ()
def sg (n:Nat):Nat→(Sq BA)→Int→Option (Lx (Unit) (Bool))
 | 0,_,_=>none
 | m+1,l,i=>gx n l i (sg n m) (fun a=>some (.out a)) (fun a=>some (.ret a)) (fun p=>some (.pan p))
theorem jZ (n m:Nat) {S:Type}:∀ l i (φ:_→Option S),(sg n (m+1) l i).bind φ=gx n l i (fun l i=>(sg n m l i).bind φ) (fun a=>φ (.out a)) (fun a=>φ (.ret a)) (fun p=>φ (.pan p)):=by
  intros;first | (simp only [sg,gx,ia,ba,iB,bB,oL,oX,nB,Option.bind_some]) | rfl
def Qt:List Sl:=.top::.top::.top::.dat (.sl .str)::.dat (.int .i64)::tp 24 []
def Pt:List RS:=[]
def vK:List Sl:=tp 29 []
def uK:List RS:=[]
def xK:List Sl:=.top::.top::.dat .bool::tp 26 []
def wK:List RS:=[]
def bf (K:XE→List AV→oa→Option Out):Lx (Unit) (Bool)→Option Out:=fun x=>onL x (fun a=>Zb vK uK () () (K (.exit 0))) (fun a=>Zb xK wK (a,()) () (K .ret)) (fun _=>none)
def HM (n:Nat) {R:Type} (s:BA) (k:Bool→Option R):Option R:=if (decide ((s.size:Int)>(64:Int)))=true then k false else (Pn n s (32:Int)).bind fun v=>(sg n n v (0:Int)).bind fun x_1=>onL x_1 (fun a_2=>k true) (fun a_3=>k a_3) (fun _=>none)
def sK (n:Nat) (s:BA):Option Bool:=HM n s some
theorem Lcb (n:Nat) {S:Type}:∀ s (φ:_→Option S),(sK n s).bind φ=HM n s φ:=by
  intros;unfold sK HM;first | (simp only [ia,ba,iB,bB,oL,oX,nB,Option.bind_some]) | rfl
def wo (n:Nat):Hint Out:={ live:=fun c=>(cond (Nat.beq c 0) [(3,some (.sl .str)),(4,none)] []),run:=fun c=>(cond (Nat.beq c 0) (some (Qf Qt Pt fun σ ρ K=>(sg n n σ.1 σ.2.1).bind (bf K))) none),xm:=fun c q=>(cond (Nat.beq c 0&&Nat.beq (q.getD 1000000) 0&&q.isSome) (some []) (cond (Nat.beq c 1&&q.isNone) (some [(2,none)]) none)) }
def vo (n:Nat) (K:XE→List AV→oa→Option Out) (m:Nat) (l:(Sq BA)) (i:Int):Option Out:=Dc tys (ja Out (Jp n)) (wo n) n (ta [1,1,1,0,1,0,0] (fa Tryz.f101)) 0 Qt Pt K m (l,(i,())) ()
theorem tK (n:Nat) (K:XE→List AV→oa→Option Out):∀ (m:Nat) l i,vo n K m l i=(sg n m l i).bind (bf K)
  | 0,_,_=>by kernel_rfl
  | m+1,l,i=>by
    have h1:vo n K (m+1) l i=gx n l i (vo n K m) (fun a=>bf K (.out a)) (fun a=>bf K (.ret a)) (fun p=>bf K (.pan p)):=by kernel_rfl
    have h2:vo n K m=fun l i=>(sg n m l i).bind (bf K):=by
      repeat (refine funext fun _=>?_)
      exact tK n K m _ _
    rw [h1,h2];exact (jZ n m _ _ (bf K)).symm
theorem QV (n:Nat):ec tys (ja Out (Jp n)) (wo n) n (ta [1,1,1,0,1,0,0] (fa Tryz.f101)) 0:=Ba (sp:=Qt) (rp:=Pt) (by kernel_rfl) fun K σ ρ=>tK n K n σ.1 σ.2.1
theorem kZ (n:Nat):qa tys (ja Out (Jp n)) (wo n) n (fa Tryz.f101) 0:=⟨aa,⟨⟨aa,⟨⟨aa,aa⟩,aa⟩⟩,⟨aa,⟨⟨aa,⟨QV n,⟨⟨aa,⟨aa,aa⟩⟩,⟨⟨aa,⟨⟨aa,aa⟩,aa⟩⟩,aa⟩⟩⟩⟩,⟨aa,aa⟩⟩⟩⟩⟩
theorem o5 (n:Nat):Enters Tryz.prog 101:=enters_of (c:=fa Tryz.f101) Tryz.func101 (by kernel_rfl) (by kernel_rfl)
def jT (n:Nat):Entry:=⟨101,pcT (.pair .str .unit) (.one .bool) (fun xs=>sK n xs.1),none,none⟩
theorem n9 (n:Nat):EntryOk Tryz.prog gl (jT n):=ya (o5 n) fun xs y h=>ma tys_ok (qE n) mixed (hint:=wo n) (n:=n) Tryz.func101 (za (kZ n)) (la (φ:=(fun y=>some (Out.ret (ib (.one .bool) y)))) (by kernel_rfl) (Lcb n xs.1 _) h)
def dH (n:Nat):List Entry:=jT n::Jp n
theorem TE (n:Nat):AllOk Tryz.prog gl (dH n):=.cons (n9 n) (qE n)
def YS (n:Nat) {R:Type} (v:T1) (k:Bool→Option R):Option R:=if (v.1==(1:Int))=true then if ((v.1==v.1)&&((v.2.1.toList==v.2.1.toList)&&((v.2.2.1==false)&&(((v.2.2.2.1.1.toList==(⟨#[]⟩:BA).toList)&&((v.2.2.2.1.2.1.toList==(⟨#[]⟩:BA).toList)&&true))&&((v.2.2.2.2.1==(0:Int))&&true)))))=true then (Yi n v.2.1).bind fun v1=>k v1 else k false else if (v.1==(2:Int))=true then if ((v.1==v.1)&&((v.2.1.toList==v.2.1.toList)&&((v.2.2.1==false)&&(((v.2.2.2.1.1.toList==(⟨#[]⟩:BA).toList)&&((v.2.2.2.1.2.1.toList==(⟨#[]⟩:BA).toList)&&true))&&((v.2.2.2.2.1==(0:Int))&&true)))))=true then (Yi n v.2.1).bind fun v2=>k v2 else k false else if (v.1==(3:Int))=true then DL (DL (if v.2.2.1=true then if ((v.2.2.2.1.1.toList==(⟨#[]⟩:BA).toList)&&((v.2.2.2.1.2.1.toList==(⟨#[]⟩:BA).toList)&&true))=false then if (!v.2.2.1)=true then (ze n (v.2.2.2.1.1,(v.2.2.2.1.2.1,()))).bind fun v3=>if ((v.1==v.1)&&((v.2.1.toList==(⟨#[]⟩:BA).toList)&&((v.2.2.1==v.2.2.1)&&(((v.2.2.2.1.1.toList==v.2.2.2.1.1.toList)&&((v.2.2.2.1.2.1.toList==v.2.2.2.1.2.1.toList)&&true))&&((v.2.2.2.2.1==v.2.2.2.2.1)&&true)))))=true then if v3=true then if (decide (v.2.2.2.2.1≥(-1:Int)))=true then k (decide (v.2.2.2.2.1≤(1073741824:Int))) else k false else k false else k false
 else if ((v.1==v.1)&&((v.2.1.toList==(⟨#[]⟩:BA).toList)&&((v.2.2.1==v.2.2.1)&&(((v.2.2.2.1.1.toList==v.2.2.2.1.1.toList)&&((v.2.2.2.1.2.1.toList==v.2.2.2.1.2.1.toList)&&true))&&((v.2.2.2.2.1==v.2.2.2.2.1)&&true)))))=true then k false else k false else if ((v.1==v.1)&&((v.2.1.toList==(⟨#[]⟩:BA).toList)&&((v.2.2.1==v.2.2.1)&&(((v.2.2.2.1.1.toList==v.2.2.2.1.1.toList)&&((v.2.2.2.1.2.1.toList==v.2.2.2.1.2.1.toList)&&true))&&((v.2.2.2.2.1==v.2.2.2.2.1)&&true)))))=true then if (decide (v.2.2.2.2.1≥(-1:Int)))=true then k (decide (v.2.2.2.2.1≤(1073741824:Int))) else k false else k false else if (!v.2.2.1)=true then (ze n (v.2.2.2.1.1,(v.2.2.2.1.2.1,()))).bind fun v4=>if ((v.1==v.1)&&((v.2.1.toList==(⟨#[]⟩:BA).toList)&&((v.2.2.1==v.2.2.1)&&(((v.2.2.2.1.1.toList==v.2.2.2.1.1.toList)&&((v.2.2.2.1.2.1.toList==v.2.2.2.1.2.1.toList)&&true))&&((v.2.2.2.2.1==v.2.2.2.2.1)&&true)))))=true then if v4=true then if (decide (v.2.2.2.2.1≥(-1:Int)))=true then k (decide (v.2.2.2.2.1≤(1073741824:Int))) else k false else k false else k false else if ((v.1==v.1)&&((v.2.1.toList==(⟨#[]⟩:BA).toList)&&((v.2.2.1==v.2.2.1)&&(((v.2.2.2.1.1.toList==v.2.2.2.1.1.toList)&&((v.2.2.2.1.2.1.toList==v.2.2.2.1.2.1.toList)&&true))&&((v.2.2.2.2.1==v.2.2.2.2.1)&&true)))))=true then k false else k false) (dup 1 (if v.2.2.1=true then if ((v.2.2.2.1.1.toList==(⟨#[]⟩:BA).toList)&&((v.2.2.2.1.2.1.toList==(⟨#[]⟩:BA).toList)&&true))=false then
 if (!v.2.2.1)=true then (ze n (v.2.2.2.1.1,(v.2.2.2.1.2.1,()))).bind fun v5=>if ((v.1==v.1)&&((v.2.1.toList==(⟨#[]⟩:BA).toList)&&((v.2.2.1==v.2.2.1)&&(((v.2.2.2.1.1.toList==v.2.2.2.1.1.toList)&&((v.2.2.2.1.2.1.toList==v.2.2.2.1.2.1.toList)&&true))&&((v.2.2.2.2.1==v.2.2.2.2.1)&&true)))))=true then if v5=true then if (decide (v.2.2.2.2.1≥(-1:Int)))=true then k (decide (v.2.2.2.2.1≤(1073741824:Int))) else k false else k false else k false else if ((v.1==v.1)&&((v.2.1.toList==(⟨#[]⟩:BA).toList)&&((v.2.2.1==v.2.2.1)&&(((v.2.2.2.1.1.toList==v.2.2.2.1.1.toList)&&((v.2.2.2.1.2.1.toList==v.2.2.2.1.2.1.toList)&&true))&&((v.2.2.2.2.1==v.2.2.2.2.1)&&true)))))=true then k false else k false else if ((v.1==v.1)&&((v.2.1.toList==(⟨#[]⟩:BA).toList)&&((v.2.2.1==v.2.2.1)&&(((v.2.2.2.1.1.toList==v.2.2.2.1.1.toList)&&((v.2.2.2.1.2.1.toList==v.2.2.2.1.2.1.toList)&&true))&&((v.2.2.2.2.1==v.2.2.2.2.1)&&true)))))=true then if (decide (v.2.2.2.2.1≥(-1:Int)))=true then k (decide (v.2.2.2.2.1≤(1073741824:Int))) else k false else k false else if (!v.2.2.1)=true then (ze n (v.2.2.2.1.1,(v.2.2.2.1.2.1,()))).bind fun v6=>if ((v.1==v.1)&&((v.2.1.toList==(⟨#[]⟩:BA).toList)&&((v.2.2.1==v.2.2.1)&&(((v.2.2.2.1.1.toList==v.2.2.2.1.1.toList)&&((v.2.2.2.1.2.1.toList==v.2.2.2.1.2.1.toList)&&true))&&((v.2.2.2.2.1==v.2.2.2.2.1)&&true)))))=true then
 if v6=true then if (decide (v.2.2.2.2.1≥(-1:Int)))=true then k (decide (v.2.2.2.2.1≤(1073741824:Int))) else k false else k false else k false else if ((v.1==v.1)&&((v.2.1.toList==(⟨#[]⟩:BA).toList)&&((v.2.2.1==v.2.2.1)&&(((v.2.2.2.1.1.toList==v.2.2.2.1.1.toList)&&((v.2.2.2.1.2.1.toList==v.2.2.2.1.2.1.toList)&&true))&&((v.2.2.2.2.1==v.2.2.2.2.1)&&true)))))=true then k false else k false))) (DL (dup 1 (if v.2.2.1=true then if ((v.2.2.2.1.1.toList==(⟨#[]⟩:BA).toList)&&((v.2.2.2.1.2.1.toList==(⟨#[]⟩:BA).toList)&&true))=false then if (!v.2.2.1)=true then (ze n (v.2.2.2.1.1,(v.2.2.2.1.2.1,()))).bind fun v9=>if ((v.1==v.1)&&((v.2.1.toList==(⟨#[]⟩:BA).toList)&&((v.2.2.1==v.2.2.1)&&(((v.2.2.2.1.1.toList==v.2.2.2.1.1.toList)&&((v.2.2.2.1.2.1.toList==v.2.2.2.1.2.1.toList)&&true))&&((v.2.2.2.2.1==v.2.2.2.2.1)&&true)))))=true then if v9=true then if (decide (v.2.2.2.2.1≥(-1:Int)))=true then k (decide (v.2.2.2.2.1≤(1073741824:Int))) else k false else k false else k false else if ((v.1==v.1)&&((v.2.1.toList==(⟨#[]⟩:BA).toList)&&((v.2.2.1==v.2.2.1)&&(((v.2.2.2.1.1.toList==v.2.2.2.1.1.toList)&&((v.2.2.2.1.2.1.toList==v.2.2.2.1.2.1.toList)&&true))&&((v.2.2.2.2.1==v.2.2.2.2.1)&&true)))))=true then k false else k false else if ((v.1==v.1)&&((v.2.1.toList==(⟨#[]⟩:BA).toList)&&((v.2.2.1==v.2.2.1)&&(((v.2.2.2.1.1.toList==v.2.2.2.1.1.toList)&&((v.2.2.2.1.2.1.toList==v.2.2.2.1.2.1.toList)&&true))&&((v.2.2.2.2.1==v.2.2.2.2.1)&&true)))))=true then
 if (decide (v.2.2.2.2.1≥(-1:Int)))=true then k (decide (v.2.2.2.2.1≤(1073741824:Int))) else k false else k false else if (!v.2.2.1)=true then (ze n (v.2.2.2.1.1,(v.2.2.2.1.2.1,()))).bind fun v10=>if ((v.1==v.1)&&((v.2.1.toList==(⟨#[]⟩:BA).toList)&&((v.2.2.1==v.2.2.1)&&(((v.2.2.2.1.1.toList==v.2.2.2.1.1.toList)&&((v.2.2.2.1.2.1.toList==v.2.2.2.1.2.1.toList)&&true))&&((v.2.2.2.2.1==v.2.2.2.2.1)&&true)))))=true then if v10=true then if (decide (v.2.2.2.2.1≥(-1:Int)))=true then k (decide (v.2.2.2.2.1≤(1073741824:Int))) else k false else k false else k false else if ((v.1==v.1)&&((v.2.1.toList==(⟨#[]⟩:BA).toList)&&((v.2.2.1==v.2.2.1)&&(((v.2.2.2.1.1.toList==v.2.2.2.1.1.toList)&&((v.2.2.2.1.2.1.toList==v.2.2.2.1.2.1.toList)&&true))&&((v.2.2.2.2.1==v.2.2.2.2.1)&&true)))))=true then k false else k false)) (DL (dup 1 (if v.2.2.1=true then if ((v.2.2.2.1.1.toList==(⟨#[]⟩:BA).toList)&&((v.2.2.2.1.2.1.toList==(⟨#[]⟩:BA).toList)&&true))=false then if (!v.2.2.1)=true then (ze n (v.2.2.2.1.1,(v.2.2.2.1.2.1,()))).bind fun v13=>if ((v.1==v.1)&&((v.2.1.toList==(⟨#[]⟩:BA).toList)&&((v.2.2.1==v.2.2.1)&&(((v.2.2.2.1.1.toList==v.2.2.2.1.1.toList)&&((v.2.2.2.1.2.1.toList==v.2.2.2.1.2.1.toList)&&true))&&((v.2.2.2.2.1==v.2.2.2.2.1)&&true)))))=true then if v13=true then if (decide (v.2.2.2.2.1≥(-1:Int)))=true then
 k (decide (v.2.2.2.2.1≤(1073741824:Int))) else k false else k false else k false else if ((v.1==v.1)&&((v.2.1.toList==(⟨#[]⟩:BA).toList)&&((v.2.2.1==v.2.2.1)&&(((v.2.2.2.1.1.toList==v.2.2.2.1.1.toList)&&((v.2.2.2.1.2.1.toList==v.2.2.2.1.2.1.toList)&&true))&&((v.2.2.2.2.1==v.2.2.2.2.1)&&true)))))=true then k false else k false else if ((v.1==v.1)&&((v.2.1.toList==(⟨#[]⟩:BA).toList)&&((v.2.2.1==v.2.2.1)&&(((v.2.2.2.1.1.toList==v.2.2.2.1.1.toList)&&((v.2.2.2.1.2.1.toList==v.2.2.2.1.2.1.toList)&&true))&&((v.2.2.2.2.1==v.2.2.2.2.1)&&true)))))=true then if (decide (v.2.2.2.2.1≥(-1:Int)))=true then k (decide (v.2.2.2.2.1≤(1073741824:Int))) else k false else k false else if (!v.2.2.1)=true then (ze n (v.2.2.2.1.1,(v.2.2.2.1.2.1,()))).bind fun v14=>if ((v.1==v.1)&&((v.2.1.toList==(⟨#[]⟩:BA).toList)&&((v.2.2.1==v.2.2.1)&&(((v.2.2.2.1.1.toList==v.2.2.2.1.1.toList)&&((v.2.2.2.1.2.1.toList==v.2.2.2.1.2.1.toList)&&true))&&((v.2.2.2.2.1==v.2.2.2.2.1)&&true)))))=true then if v14=true then if (decide (v.2.2.2.2.1≥(-1:Int)))=true then k (decide (v.2.2.2.2.1≤(1073741824:Int))) else k false else k false else k false else if ((v.1==v.1)&&((v.2.1.toList==(⟨#[]⟩:BA).toList)&&((v.2.2.1==v.2.2.1)&&(((v.2.2.2.1.1.toList==v.2.2.2.1.1.toList)&&((v.2.2.2.1.2.1.toList==v.2.2.2.1.2.1.toList)&&true))&&((v.2.2.2.2.1==v.2.2.2.2.1)&&true)))))=true then
 k false else k false)) (if v.2.2.1=true then if ((v.2.2.2.1.1.toList==(⟨#[]⟩:BA).toList)&&((v.2.2.2.1.2.1.toList==(⟨#[]⟩:BA).toList)&&true))=false then if (!v.2.2.1)=true then (ze n (v.2.2.2.1.1,(v.2.2.2.1.2.1,()))).bind fun v17=>if ((v.1==v.1)&&((v.2.1.toList==(⟨#[]⟩:BA).toList)&&((v.2.2.1==v.2.2.1)&&(((v.2.2.2.1.1.toList==v.2.2.2.1.1.toList)&&((v.2.2.2.1.2.1.toList==v.2.2.2.1.2.1.toList)&&true))&&((v.2.2.2.2.1==v.2.2.2.2.1)&&true)))))=true then if v17=true then if (decide (v.2.2.2.2.1≥(-1:Int)))=true then k (decide (v.2.2.2.2.1≤(1073741824:Int))) else k false else k false else k false else if ((v.1==v.1)&&((v.2.1.toList==(⟨#[]⟩:BA).toList)&&((v.2.2.1==v.2.2.1)&&(((v.2.2.2.1.1.toList==v.2.2.2.1.1.toList)&&((v.2.2.2.1.2.1.toList==v.2.2.2.1.2.1.toList)&&true))&&((v.2.2.2.2.1==v.2.2.2.2.1)&&true)))))=true then k false else k false else if ((v.1==v.1)&&((v.2.1.toList==(⟨#[]⟩:BA).toList)&&((v.2.2.1==v.2.2.1)&&(((v.2.2.2.1.1.toList==v.2.2.2.1.1.toList)&&((v.2.2.2.1.2.1.toList==v.2.2.2.1.2.1.toList)&&true))&&((v.2.2.2.2.1==v.2.2.2.2.1)&&true)))))=true then if (decide (v.2.2.2.2.1≥(-1:Int)))=true then k (decide (v.2.2.2.2.1≤(1073741824:Int))) else k false else k false else if (!v.2.2.1)=true then (ze n (v.2.2.2.1.1,(v.2.2.2.1.2.1,()))).bind fun v18=>if ((v.1==v.1)&&((v.2.1.toList==(⟨#[]⟩:BA).toList)&&((v.2.2.1==v.2.2.1)&&(((v.2.2.2.1.1.toList==v.2.2.2.1.1.toList)&&((v.2.2.2.1.2.1.toList==v.2.2.2.1.2.1.toList)&&true))&&((v.2.2.2.2.1==v.2.2.2.2.1)&&true)))))=true then
 if v18=true then if (decide (v.2.2.2.2.1≥(-1:Int)))=true then k (decide (v.2.2.2.2.1≤(1073741824:Int))) else k false else k false else k false else if ((v.1==v.1)&&((v.2.1.toList==(⟨#[]⟩:BA).toList)&&((v.2.2.1==v.2.2.1)&&(((v.2.2.2.1.1.toList==v.2.2.2.1.1.toList)&&((v.2.2.2.1.2.1.toList==v.2.2.2.1.2.1.toList)&&true))&&((v.2.2.2.2.1==v.2.2.2.2.1)&&true)))))=true then k false else k false))) else if (v.1==(4:Int))=true then if ((v.1==v.1)&&((v.2.1.toList==(⟨#[]⟩:BA).toList)&&((v.2.2.1==false)&&(((v.2.2.2.1.1.toList==v.2.2.2.1.1.toList)&&((v.2.2.2.1.2.1.toList==v.2.2.2.1.2.1.toList)&&true))&&((v.2.2.2.2.1==(0:Int))&&true)))))=true then (ze n (v.2.2.2.1.1,(v.2.2.2.1.2.1,()))).bind fun v19=>k v19 else k false else if (v.1==(7:Int))=true then if ((v.1==v.1)&&((v.2.1.toList==v.2.1.toList)&&((v.2.2.1==false)&&(((v.2.2.2.1.1.toList==(⟨#[]⟩:BA).toList)&&((v.2.2.2.1.2.1.toList==(⟨#[]⟩:BA).toList)&&true))&&((v.2.2.2.2.1==(0:Int))&&true)))))=true then if (v.2.1.toList==(⟨#[]⟩:BA).toList)=false then (sK n v.2.1).bind fun v20=>k v20 else k true else k false else if (v.1==(9:Int))=true then if ((v.1==v.1)&&((v.2.1.toList==v.2.1.toList)&&((v.2.2.1==false)&&(((v.2.2.2.1.1.toList==(⟨#[]⟩:BA).toList)&&((v.2.2.2.1.2.1.toList==(⟨#[]⟩:BA).toList)&&true))&&((v.2.2.2.2.1==(0:Int))&&true)))))=true then
 (sK n v.2.1).bind fun v21=>k v21 else k false else if (v.1==(5:Int))=true then k ((v.1==v.1)&&((v.2.1.toList==(⟨#[]⟩:BA).toList)&&((v.2.2.1==false)&&(((v.2.2.2.1.1.toList==(⟨#[]⟩:BA).toList)&&((v.2.2.2.1.2.1.toList==(⟨#[]⟩:BA).toList)&&true))&&((v.2.2.2.2.1==(0:Int))&&true))))) else if (v.1==(6:Int))=true then k ((v.1==v.1)&&((v.2.1.toList==(⟨#[]⟩:BA).toList)&&((v.2.2.1==false)&&(((v.2.2.2.1.1.toList==(⟨#[]⟩:BA).toList)&&((v.2.2.2.1.2.1.toList==(⟨#[]⟩:BA).toList)&&true))&&((v.2.2.2.2.1==(0:Int))&&true))))) else if (v.1==(8:Int))=true then k ((v.1==v.1)&&((v.2.1.toList==(⟨#[]⟩:BA).toList)&&((v.2.2.1==false)&&(((v.2.2.2.1.1.toList==(⟨#[]⟩:BA).toList)&&((v.2.2.2.1.2.1.toList==(⟨#[]⟩:BA).toList)&&true))&&((v.2.2.2.2.1==(0:Int))&&true))))) else k false
def XS (n:Nat) (v:T1):Option Bool:=YS n v some
theorem jfb (n:Nat) {S:Type}:∀ v (φ:_→Option S),(XS n v).bind φ=YS n v φ:=by
  intros;unfold XS YS;first | (simp only [ia,ba,iB,bB,oL,oX,nB,Option.bind_some]) | rfl
def tO (n:Nat):Hint Out:={ live:=fun c=>[],run:=fun c=>none,xm:=fun c q=>none,sch:=fun c=>(cond (Nat.beq c 8) (some [(0,0),(2,0),(4,0),(1,1),(6,0),(7,5),(3,7),(5,7),(8,6),(9,2),(10,6),(11,2)]) none) }
theorem Q4 (n:Nat):qa tys (ja Out (dH n)) (tO n) n (fa Tryz.f73) 0:=na (fun _=>rfl) _ _ (by kernel_rfl)
theorem W8 (n:Nat):Enters Tryz.prog 73:=enters_of (c:=fa Tryz.f73) Tryz.func73 (by kernel_rfl) (by kernel_rfl)
def LW (n:Nat):Entry:=⟨73,pcT K11 (.one .bool) (fun xs=>XS n xs.1),none,none⟩
theorem Fcb (n:Nat):EntryOk Tryz.prog gl (LW n):=ya (W8 n) fun xs y h=>ma tys_ok (TE n) mixed (hint:=tO n) (n:=n) Tryz.func73 (za (Q4 n)) (la (φ:=(fun y=>some (Out.ret (ib (.one .bool) y)))) (by kernel_rfl) (jfb n xs.1 _) h)
def Dv (n:Nat):List Entry:=LW n::dH n
theorem co (n:Nat):AllOk Tryz.prog gl (Dv n):=.cons (Fcb n) (TE n)
def Oi (n:Nat) {R:Type} (a:T0) (k:U2→Option R):Option R:=(ic n a.2.2.2.2.2.2.2.2.1).bind fun v=>(Tc n a.2.2.2.2.2.2.2.2.2.1).bind fun v1=>k (a.1,(a.2.1,(a.2.2.1,(a.2.2.2.1.1,(a.2.2.2.1.2.1,(a.2.2.2.2.1,(a.2.2.2.2.2.1,(a.2.2.2.2.2.2.1,(a.2.2.2.2.2.2.2.1.1,(a.2.2.2.2.2.2.2.1.2.1,(a.2.2.2.2.2.2.2.2.2.2.1,(a.2.2.2.2.2.2.2.2.2.2.2.1,(v.1,(v1.1,()))))))))))))))
def Kc (n:Nat) (a:T0):Option U2:=Oi n a some
theorem WI (n:Nat) {S:Type}:∀ a (φ:_→Option S),(Kc n a).bind φ=Oi n a φ:=by
  intros;unfold Kc Oi;first | (simp only [ia,ba,iB,bB,oL,oX,nB,Option.bind_some]) | rfl
def Nl (n:Nat):Hint OutS:={ live:=fun c=>[],run:=fun c=>none,xm:=fun c q=>none,pr:=[(0,10,25),(0,11,9)] }
theorem bA (n:Nat):qa tys (ja OutS (Dv n)).keep (Nl n) n (fa Tryz.f23) 0:=na (fun _=>rfl) _ _ (by kernel_rfl)
theorem gD (n:Nat):Enters Tryz.prog 23:=enters_of (c:=fa Tryz.f23) Tryz.func23 (by kernel_rfl) (by kernel_rfl)
def Ep:List RSp:=[.one (.dat K0)]
def Dp:List RS:=[]
def iD:List Sl:=[.top]
def jD:List RSp:=[.agg [.dat (.int .i64),.dat (.int .i64),.dat (.int .i64),.dat .str,.dat .bool,.dat (.int .i64),.dat .str,.dat .bool,.dat .str,.dat .str,.row 0,.row 1,.dat (.int .i64),.dat .bool]]
def Td:List RS:=[.row 25 2 (.pair .str (.pair .str .unit)) true false,.row 9 1 .str true false]
def Pi (y:U2):OutS:=⟨false,lp (Wc Td (y.2.2.2.2.2.2.2.2.2.2.2.2.1,(y.2.2.2.2.2.2.2.2.2.2.2.2.2.1,()))) iD (),tH (kE (Wc Td (y.2.2.2.2.2.2.2.2.2.2.2.2.1,(y.2.2.2.2.2.2.2.2.2.2.2.2.2.1,()))) jD ((y.1,(y.2.1,(y.2.2.1,(y.2.2.2.1,(y.2.2.2.2.1,(y.2.2.2.2.2.1,(y.2.2.2.2.2.2.1,(y.2.2.2.2.2.2.2.1,(y.2.2.2.2.2.2.2.2.1,(y.2.2.2.2.2.2.2.2.2.1,(y.2.2.2.2.2.2.2.2.2.2.1,(y.2.2.2.2.2.2.2.2.2.2.2.1,())))))))))))),())),dw (Wc Td (y.2.2.2.2.2.2.2.2.2.2.2.2.1,(y.2.2.2.2.2.2.2.2.2.2.2.2.2.1,()))) Td (y.2.2.2.2.2.2.2.2.2.2.2.2.1,(y.2.2.2.2.2.2.2.2.2.2.2.2.2.1,()))⟩
theorem FF (n:Nat):EntryOk Tryz.prog gl ⟨23,me,none,some (csT Ep Dp (fun σ ρ=>Kc n σ.1.1) Pi)⟩:=qe (gD n) fun σ ρ y h=>Tf tys_ok (co n) mixed (hint:=Nl n) (n:=n) Tryz.func23 (za (bA n)) (la (φ:=fun y=>some (Pi y)) (by kernel_rfl) (WI n σ.1.1 _) h)
def Qh (n:Nat):List Entry:=⟨23,me,none,some (csT Ep Dp (fun σ ρ=>Kc n σ.1.1) Pi)⟩::Dv n
theorem Mj (n:Nat):AllOk Tryz.prog gl (Qh n):=.cons (FF n) (co n)
def OY (n:Nat) {R:Type} (c:T0) (v:T1) (k:(T0×Int×Unit)→Option R):Option R:=(XS n v).bind fun v1=>if (!v1)=false then if (v.1 !=(3:Int))=true then if (v.1 !=(4:Int))=true then k (c,((1:Int),())) else (Kc n c).bind fun v2=>if (v.1==(3:Int))=true then if (c.2.2.2.2.1 !=(1:Int))=true then k (c,((6:Int),())) else DL (DL (k ((v2.1,(v2.2.1,(v2.2.2.1,((v2.2.2.2.1,(v2.2.2.2.2.1,())),((2:Int),(v2.2.2.2.2.2.2.1,(v.2.2.1,(v.2.2.2.1,(v2.2.2.2.2.2.2.2.2.2.2.2.2.1,(v2.2.2.2.2.2.2.2.2.2.2.2.2.2.1,(v2.2.2.2.2.2.2.2.2.2.2.1,(v2.2.2.2.2.2.2.2.2.2.2.2.1,())))))))))))),((0:Int),()))) (dup 1 (k ((v2.1,(v2.2.1,(v2.2.2.1,((v2.2.2.2.1,(v2.2.2.2.2.1,())),((2:Int),(v2.2.2.2.2.2.2.1,(v.2.2.1,(v.2.2.2.1,(v2.2.2.2.2.2.2.2.2.2.2.2.2.1,(v2.2.2.2.2.2.2.2.2.2.2.2.2.2.1,(v2.2.2.2.2.2.2.2.2.2.2.1,(v2.2.2.2.2.2.2.2.2.2.2.2.1,())))))))))))),((0:Int),()))))) (DL (dup 1 (k ((v2.1,(v2.2.1,(v2.2.2.1,((v2.2.2.2.1,(v2.2.2.2.2.1,())),((2:Int),(v2.2.2.2.2.2.2.1,(v.2.2.1,(v.2.2.2.1,(v2.2.2.2.2.2.2.2.2.2.2.2.2.1,(v2.2.2.2.2.2.2.2.2.2.2.2.2.2.1,(v2.2.2.2.2.2.2.2.2.2.2.1,(v2.2.2.2.2.2.2.2.2.2.2.2.1,())))))))))))),((0:Int),())))) (DL (dup 1 (k ((v2.1,(v2.2.1,(v2.2.2.1,((v2.2.2.2.1,(v2.2.2.2.2.1,())),((2:Int),(v2.2.2.2.2.2.2.1,(v.2.2.1,(v.2.2.2.1,(v2.2.2.2.2.2.2.2.2.2.2.2.2.1,(v2.2.2.2.2.2.2.2.2.2.2.2.2.2.1,(v2.2.2.2.2.2.2.2.2.2.2.1,(v2.2.2.2.2.2.2.2.2.2.2.2.1,())))))))))))),((0:Int),())))) (
 k ((v2.1,(v2.2.1,(v2.2.2.1,((v2.2.2.2.1,(v2.2.2.2.2.1,())),((2:Int),(v2.2.2.2.2.2.2.1,(v.2.2.1,(v.2.2.2.1,(v2.2.2.2.2.2.2.2.2.2.2.2.2.1,(v2.2.2.2.2.2.2.2.2.2.2.2.2.2.1,(v2.2.2.2.2.2.2.2.2.2.2.1,(v2.2.2.2.2.2.2.2.2.2.2.2.1,())))))))))))),((0:Int),()))))) else if (c.2.2.2.2.1 !=(2:Int))=true then if (c.2.2.2.2.1 !=(3:Int))=true then k (c,((6:Int),())) else (xd n c.2.2.2.2.2.2.2.2.1 v.2.2.2.1).bind fun v3=>if (decide (v3≥(0:Int)))=true then k (c,((4:Int),())) else if (decide ((c.2.2.2.2.2.2.2.2.1.n:Int)≥(8:Int)))=true then k (c,((5:Int),())) else if Gb (v2.2.2.2.2.2.2.2.2.2.2.2.2.1.n+1) 32=true then k ((v2.1,(v2.2.1,(v2.2.2.1,((v2.2.2.2.1,(v2.2.2.2.2.1,())),((3:Int),(v2.2.2.2.2.2.2.1,(v2.2.2.2.2.2.2.2.1,((v2.2.2.2.2.2.2.2.2.1,(v2.2.2.2.2.2.2.2.2.2.1,())),((⟨(v2.2.2.2.2.2.2.2.2.2.2.2.2.1.n+1),fun q=>if q<v2.2.2.2.2.2.2.2.2.2.2.2.2.1.n then v2.2.2.2.2.2.2.2.2.2.2.2.2.1.at' q else (fun q=>List.getD (α:=U0) [v.2.2.2.1] q (ua (.pair .str (.pair .str .unit)))) (q - v2.2.2.2.2.2.2.2.2.2.2.2.2.1.n)⟩:Sq U0),(v2.2.2.2.2.2.2.2.2.2.2.2.2.2.1,(v2.2.2.2.2.2.2.2.2.2.2.1,(v2.2.2.2.2.2.2.2.2.2.2.2.1,())))))))))))),((0:Int),())) else none else (xd n c.2.2.2.2.2.2.2.2.1 v.2.2.2.1).bind fun v4=>if (decide (v4≥(0:Int)))=true then k (c,((4:Int),())) else if (decide ((c.2.2.2.2.2.2.2.2.1.n:Int)≥(8:Int)))=true then
 k (c,((5:Int),())) else if Gb (v2.2.2.2.2.2.2.2.2.2.2.2.2.1.n+1) 32=true then k ((v2.1,(v2.2.1,(v2.2.2.1,((v2.2.2.2.1,(v2.2.2.2.2.1,())),((3:Int),(v2.2.2.2.2.2.2.1,(v2.2.2.2.2.2.2.2.1,((v2.2.2.2.2.2.2.2.2.1,(v2.2.2.2.2.2.2.2.2.2.1,())),((⟨(v2.2.2.2.2.2.2.2.2.2.2.2.2.1.n+1),fun q=>if q<v2.2.2.2.2.2.2.2.2.2.2.2.2.1.n then v2.2.2.2.2.2.2.2.2.2.2.2.2.1.at' q else (fun q=>List.getD (α:=U0) [v.2.2.2.1] q (ua (.pair .str (.pair .str .unit)))) (q - v2.2.2.2.2.2.2.2.2.2.2.2.2.1.n)⟩:Sq U0),(v2.2.2.2.2.2.2.2.2.2.2.2.2.2.1,(v2.2.2.2.2.2.2.2.2.2.2.1,(v2.2.2.2.2.2.2.2.2.2.2.2.1,())))))))))))),((0:Int),())) else none else (Kc n c).bind fun v5=>if (v.1==(3:Int))=true then if (c.2.2.2.2.1 !=(1:Int))=true then k (c,((6:Int),())) else DL (DL (k ((v5.1,(v5.2.1,(v5.2.2.1,((v5.2.2.2.1,(v5.2.2.2.2.1,())),((2:Int),(v5.2.2.2.2.2.2.1,(v.2.2.1,(v.2.2.2.1,(v5.2.2.2.2.2.2.2.2.2.2.2.2.1,(v5.2.2.2.2.2.2.2.2.2.2.2.2.2.1,(v5.2.2.2.2.2.2.2.2.2.2.1,(v5.2.2.2.2.2.2.2.2.2.2.2.1,())))))))))))),((0:Int),()))) (dup 1 (k ((v5.1,(v5.2.1,(v5.2.2.1,((v5.2.2.2.1,(v5.2.2.2.2.1,())),((2:Int),(v5.2.2.2.2.2.2.1,(v.2.2.1,(v.2.2.2.1,(v5.2.2.2.2.2.2.2.2.2.2.2.2.1,(v5.2.2.2.2.2.2.2.2.2.2.2.2.2.1,(v5.2.2.2.2.2.2.2.2.2.2.1,(v5.2.2.2.2.2.2.2.2.2.2.2.1,())))))))))))),((0:Int),()))))) (DL (dup 1 (k ((v5.1,(v5.2.1,(v5.2.2.1,((v5.2.2.2.1,(v5.2.2.2.2.1,())),((2:Int),(v5.2.2.2.2.2.2.1,(v.2.2.1,(v.2.2.2.1,(v5.2.2.2.2.2.2.2.2.2.2.2.2.1,(v5.2.2.2.2.2.2.2.2.2.2.2.2.2.1,(v5.2.2.2.2.2.2.2.2.2.2.1,(v5.2.2.2.2.2.2.2.2.2.2.2.1,())))))))))))),((0:Int),())))) (
 DL (dup 1 (k ((v5.1,(v5.2.1,(v5.2.2.1,((v5.2.2.2.1,(v5.2.2.2.2.1,())),((2:Int),(v5.2.2.2.2.2.2.1,(v.2.2.1,(v.2.2.2.1,(v5.2.2.2.2.2.2.2.2.2.2.2.2.1,(v5.2.2.2.2.2.2.2.2.2.2.2.2.2.1,(v5.2.2.2.2.2.2.2.2.2.2.1,(v5.2.2.2.2.2.2.2.2.2.2.2.1,())))))))))))),((0:Int),())))) (k ((v5.1,(v5.2.1,(v5.2.2.1,((v5.2.2.2.1,(v5.2.2.2.2.1,())),((2:Int),(v5.2.2.2.2.2.2.1,(v.2.2.1,(v.2.2.2.1,(v5.2.2.2.2.2.2.2.2.2.2.2.2.1,(v5.2.2.2.2.2.2.2.2.2.2.2.2.2.1,(v5.2.2.2.2.2.2.2.2.2.2.1,(v5.2.2.2.2.2.2.2.2.2.2.2.1,())))))))))))),((0:Int),()))))) else if (c.2.2.2.2.1 !=(2:Int))=true then if (c.2.2.2.2.1 !=(3:Int))=true then k (c,((6:Int),())) else (xd n c.2.2.2.2.2.2.2.2.1 v.2.2.2.1).bind fun v6=>if (decide (v6≥(0:Int)))=true then k (c,((4:Int),())) else if (decide ((c.2.2.2.2.2.2.2.2.1.n:Int)≥(8:Int)))=true then k (c,((5:Int),())) else if Gb (v5.2.2.2.2.2.2.2.2.2.2.2.2.1.n+1) 32=true then k ((v5.1,(v5.2.1,(v5.2.2.1,((v5.2.2.2.1,(v5.2.2.2.2.1,())),((3:Int),(v5.2.2.2.2.2.2.1,(v5.2.2.2.2.2.2.2.1,((v5.2.2.2.2.2.2.2.2.1,(v5.2.2.2.2.2.2.2.2.2.1,())),((⟨(v5.2.2.2.2.2.2.2.2.2.2.2.2.1.n+1),fun q=>if q<v5.2.2.2.2.2.2.2.2.2.2.2.2.1.n then v5.2.2.2.2.2.2.2.2.2.2.2.2.1.at' q else (fun q=>List.getD (α:=U0) [v.2.2.2.1] q (ua (.pair .str (.pair .str .unit)))) (q - v5.2.2.2.2.2.2.2.2.2.2.2.2.1.n)⟩:Sq U0),(v5.2.2.2.2.2.2.2.2.2.2.2.2.2.1,(v5.2.2.2.2.2.2.2.2.2.2.1,(v5.2.2.2.2.2.2.2.2.2.2.2.1,())))))))))))),((0:Int),()))
 else none else (xd n c.2.2.2.2.2.2.2.2.1 v.2.2.2.1).bind fun v7=>if (decide (v7≥(0:Int)))=true then k (c,((4:Int),())) else if (decide ((c.2.2.2.2.2.2.2.2.1.n:Int)≥(8:Int)))=true then k (c,((5:Int),())) else if Gb (v5.2.2.2.2.2.2.2.2.2.2.2.2.1.n+1) 32=true then k ((v5.1,(v5.2.1,(v5.2.2.1,((v5.2.2.2.1,(v5.2.2.2.2.1,())),((3:Int),(v5.2.2.2.2.2.2.1,(v5.2.2.2.2.2.2.2.1,((v5.2.2.2.2.2.2.2.2.1,(v5.2.2.2.2.2.2.2.2.2.1,())),((⟨(v5.2.2.2.2.2.2.2.2.2.2.2.2.1.n+1),fun q=>if q<v5.2.2.2.2.2.2.2.2.2.2.2.2.1.n then v5.2.2.2.2.2.2.2.2.2.2.2.2.1.at' q else (fun q=>List.getD (α:=U0) [v.2.2.2.1] q (ua (.pair .str (.pair .str .unit)))) (q - v5.2.2.2.2.2.2.2.2.2.2.2.2.1.n)⟩:Sq U0),(v5.2.2.2.2.2.2.2.2.2.2.2.2.2.1,(v5.2.2.2.2.2.2.2.2.2.2.1,(v5.2.2.2.2.2.2.2.2.2.2.2.1,())))))))))))),((0:Int),())) else none else k (c,((1:Int),()))
def G4 (n:Nat) (c:T0) (v:T1):Option (T0×Int×Unit):=OY n c v some
theorem ehb (n:Nat) {S:Type}:∀ c v (φ:_→Option S),(G4 n c v).bind φ=OY n c v φ:=by
  intros;unfold G4 OY;first | (simp only [ia,ba,iB,bB,oL,oX,nB,Option.bind_some]) | rfl
def LS (n:Nat):Hint Out:={ live:=fun c=>[],run:=fun c=>none,xm:=fun c q=>none,sch:=fun c=>(cond (Nat.beq c 7) (some [(0,0),(2,0),(4,0),(5,5),(1,7),(3,7),(6,6),(7,2),(8,6),(9,2)]) none) }
theorem P8 (n:Nat):qa tys (ja Out (Qh n)) (LS n) n (fa Tryz.f45) 0:=na (fun _=>rfl) _ _ (by kernel_rfl)
theorem Acb (n:Nat):Enters Tryz.prog 45:=enters_of (c:=fa Tryz.f45) Tryz.func45 (by kernel_rfl) (by kernel_rfl)
def CJ (n:Nat):Entry:=⟨45,pcT K13 (.many K19) (fun xs=>G4 n xs.1 xs.2.1),none,none⟩
theorem MS (n:Nat):EntryOk Tryz.prog gl (CJ n):=ya (Acb n) fun xs y h=>ma tys_ok (Mj n) mixed (hint:=LS n) (n:=n) Tryz.func45 (za (P8 n)) (la (φ:=(fun y=>some (Out.ret (ib (.many K19) y)))) (by kernel_rfl) (ehb n xs.1 xs.2.1 _) h)
def KS (n:Nat):List Entry:=CJ n::Qh n
theorem pO (n:Nat):AllOk Tryz.prog gl (KS n):=.cons (MS n) (Mj n)
def HL (n:Nat) {R:Type} (c:T0) (v:T1) (k:U3→Option R):Option R:=(RO n c).bind fun v1=>if (!v1)=false then (qh n v).bind fun v2=>if (!v2)=true then k ((0:Int),((0:Int),((0:Int),((⟨#[]⟩:BA),(false,((0:Int),((⟨#[]⟩:BA),(false,((⟨#[]⟩:BA),((⟨#[]⟩:BA),((0:Int),(false,((1:Int),((⟨0,fun _=>ua (.pair .str (.pair .str .unit))⟩:Sq U0),((⟨0,fun _=>ua .str⟩:Sq BA),()))))))))))))))) else (Ch n c).bind fun v3=>if (v.1==(3:Int))=true then if (v3.2.2.2.2.2.1 !=(1:Int))=true then k ((0:Int),((0:Int),((0:Int),((⟨#[]⟩:BA),(false,((0:Int),((⟨#[]⟩:BA),(false,((⟨#[]⟩:BA),((⟨#[]⟩:BA),((0:Int),(false,((6:Int),((⟨0,fun _=>ua (.pair .str (.pair .str .unit))⟩:Sq U0),((⟨0,fun _=>ua .str⟩:Sq BA),()))))))))))))))) else DL (DL (k (v3.1,(v3.2.1,(v3.2.2.1,(v3.2.2.2.1,(v3.2.2.2.2.1,((2:Int),(v3.2.2.2.2.2.2.1,(v.2.2.1,(v.2.2.2.1.1,(v.2.2.2.1.2.1,(v3.2.2.2.2.2.2.2.2.2.2.1,(v3.2.2.2.2.2.2.2.2.2.2.2.1,((0:Int),(v3.2.2.2.2.2.2.2.2.2.2.2.2.1,(v3.2.2.2.2.2.2.2.2.2.2.2.2.2.1,())))))))))))))))) (dup 1 (k (v3.1,(v3.2.1,(v3.2.2.1,(v3.2.2.2.1,(v3.2.2.2.2.1,((2:Int),(v3.2.2.2.2.2.2.1,(v.2.2.1,(v.2.2.2.1.1,(v.2.2.2.1.2.1,(v3.2.2.2.2.2.2.2.2.2.2.1,(v3.2.2.2.2.2.2.2.2.2.2.2.1,((0:Int),(v3.2.2.2.2.2.2.2.2.2.2.2.2.1,(v3.2.2.2.2.2.2.2.2.2.2.2.2.2.1,())))))))))))))))))) (
 DL (dup 1 (k (v3.1,(v3.2.1,(v3.2.2.1,(v3.2.2.2.1,(v3.2.2.2.2.1,((2:Int),(v3.2.2.2.2.2.2.1,(v.2.2.1,(v.2.2.2.1.1,(v.2.2.2.1.2.1,(v3.2.2.2.2.2.2.2.2.2.2.1,(v3.2.2.2.2.2.2.2.2.2.2.2.1,((0:Int),(v3.2.2.2.2.2.2.2.2.2.2.2.2.1,(v3.2.2.2.2.2.2.2.2.2.2.2.2.2.1,()))))))))))))))))) (DL (dup 1 (k (v3.1,(v3.2.1,(v3.2.2.1,(v3.2.2.2.1,(v3.2.2.2.2.1,((2:Int),(v3.2.2.2.2.2.2.1,(v.2.2.1,(v.2.2.2.1.1,(v.2.2.2.1.2.1,(v3.2.2.2.2.2.2.2.2.2.2.1,(v3.2.2.2.2.2.2.2.2.2.2.2.1,((0:Int),(v3.2.2.2.2.2.2.2.2.2.2.2.2.1,(v3.2.2.2.2.2.2.2.2.2.2.2.2.2.1,()))))))))))))))))) (k (v3.1,(v3.2.1,(v3.2.2.1,(v3.2.2.2.1,(v3.2.2.2.2.1,((2:Int),(v3.2.2.2.2.2.2.1,(v.2.2.1,(v.2.2.2.1.1,(v.2.2.2.1.2.1,(v3.2.2.2.2.2.2.2.2.2.2.1,(v3.2.2.2.2.2.2.2.2.2.2.2.1,((0:Int),(v3.2.2.2.2.2.2.2.2.2.2.2.2.1,(v3.2.2.2.2.2.2.2.2.2.2.2.2.2.1,())))))))))))))))))) else if (v.1==(4:Int))=true then if (v3.2.2.2.2.2.1 !=(2:Int))=true then if (v3.2.2.2.2.2.1 !=(3:Int))=true then k ((0:Int),((0:Int),((0:Int),((⟨#[]⟩:BA),(false,((0:Int),((⟨#[]⟩:BA),(false,((⟨#[]⟩:BA),((⟨#[]⟩:BA),((0:Int),(false,((6:Int),((⟨0,fun _=>ua (.pair .str (.pair .str .unit))⟩:Sq U0),((⟨0,fun _=>ua .str⟩:Sq BA),()))))))))))))))) else (sCn n v3.2.2.2.2.2.2.2.2.2.2.2.2.1 v.2.2.2.1).bind fun v4=>if v4=true then k ((0:Int),((0:Int),((0:Int),((⟨#[]⟩:BA),(false,((0:Int),((⟨#[]⟩:BA),(false,((⟨#[]⟩:BA),((⟨#[]⟩:BA),((0:Int),(false,((4:Int),((⟨0,fun _=>ua (.pair .str (.pair .str .unit))⟩:Sq U0),((⟨0,fun _=>ua .str⟩:Sq BA),())))))))))))))))
 else if ((v3.2.2.2.2.2.2.2.2.2.2.2.2.1.n:Int)==(8:Int))=true then k ((0:Int),((0:Int),((0:Int),((⟨#[]⟩:BA),(false,((0:Int),((⟨#[]⟩:BA),(false,((⟨#[]⟩:BA),((⟨#[]⟩:BA),((0:Int),(false,((5:Int),((⟨0,fun _=>ua (.pair .str (.pair .str .unit))⟩:Sq U0),((⟨0,fun _=>ua .str⟩:Sq BA),()))))))))))))))) else if Gb (v3.2.2.2.2.2.2.2.2.2.2.2.2.1.n+1) 32=true then k (v3.1,(v3.2.1,(v3.2.2.1,(v3.2.2.2.1,(v3.2.2.2.2.1,((3:Int),(v3.2.2.2.2.2.2.1,(v3.2.2.2.2.2.2.2.1,(v3.2.2.2.2.2.2.2.2.1,(v3.2.2.2.2.2.2.2.2.2.1,(v3.2.2.2.2.2.2.2.2.2.2.1,(v3.2.2.2.2.2.2.2.2.2.2.2.1,((0:Int),((⟨(v3.2.2.2.2.2.2.2.2.2.2.2.2.1.n+1),fun q=>if q<v3.2.2.2.2.2.2.2.2.2.2.2.2.1.n then v3.2.2.2.2.2.2.2.2.2.2.2.2.1.at' q else (fun q=>List.getD (α:=U0) [v.2.2.2.1] q (ua (.pair .str (.pair .str .unit)))) (q - v3.2.2.2.2.2.2.2.2.2.2.2.2.1.n)⟩:Sq U0),(v3.2.2.2.2.2.2.2.2.2.2.2.2.2.1,()))))))))))))))) else none else (sCn n v3.2.2.2.2.2.2.2.2.2.2.2.2.1 v.2.2.2.1).bind fun v5=>if v5=true then k ((0:Int),((0:Int),((0:Int),((⟨#[]⟩:BA),(false,((0:Int),((⟨#[]⟩:BA),(false,((⟨#[]⟩:BA),((⟨#[]⟩:BA),((0:Int),(false,((4:Int),((⟨0,fun _=>ua (.pair .str (.pair .str .unit))⟩:Sq U0),((⟨0,fun _=>ua .str⟩:Sq BA),())))))))))))))))
 else if ((v3.2.2.2.2.2.2.2.2.2.2.2.2.1.n:Int)==(8:Int))=true then k ((0:Int),((0:Int),((0:Int),((⟨#[]⟩:BA),(false,((0:Int),((⟨#[]⟩:BA),(false,((⟨#[]⟩:BA),((⟨#[]⟩:BA),((0:Int),(false,((5:Int),((⟨0,fun _=>ua (.pair .str (.pair .str .unit))⟩:Sq U0),((⟨0,fun _=>ua .str⟩:Sq BA),()))))))))))))))) else if Gb (v3.2.2.2.2.2.2.2.2.2.2.2.2.1.n+1) 32=true then k (v3.1,(v3.2.1,(v3.2.2.1,(v3.2.2.2.1,(v3.2.2.2.2.1,((3:Int),(v3.2.2.2.2.2.2.1,(v3.2.2.2.2.2.2.2.1,(v3.2.2.2.2.2.2.2.2.1,(v3.2.2.2.2.2.2.2.2.2.1,(v3.2.2.2.2.2.2.2.2.2.2.1,(v3.2.2.2.2.2.2.2.2.2.2.2.1,((0:Int),((⟨(v3.2.2.2.2.2.2.2.2.2.2.2.2.1.n+1),fun q=>if q<v3.2.2.2.2.2.2.2.2.2.2.2.2.1.n then v3.2.2.2.2.2.2.2.2.2.2.2.2.1.at' q else (fun q=>List.getD (α:=U0) [v.2.2.2.1] q (ua (.pair .str (.pair .str .unit)))) (q - v3.2.2.2.2.2.2.2.2.2.2.2.2.1.n)⟩:Sq U0),(v3.2.2.2.2.2.2.2.2.2.2.2.2.2.1,()))))))))))))))) else none else k ((0:Int),((0:Int),((0:Int),((⟨#[]⟩:BA),(false,((0:Int),((⟨#[]⟩:BA),(false,((⟨#[]⟩:BA),((⟨#[]⟩:BA),((0:Int),(false,((1:Int),((⟨0,fun _=>ua (.pair .str (.pair .str .unit))⟩:Sq U0),((⟨0,fun _=>ua .str⟩:Sq BA),()))))))))))))))) else k ((0:Int),((0:Int),((0:Int),((⟨#[]⟩:BA),(false,((0:Int),((⟨#[]⟩:BA),(false,((⟨#[]⟩:BA),((⟨#[]⟩:BA),((0:Int),(false,((1:Int),((⟨0,fun _=>ua (.pair .str (.pair .str .unit))⟩:Sq U0),((⟨0,fun _=>ua .str⟩:Sq BA),())))))))))))))))
def Uk (n:Nat) (c:T0) (v:T1):Option U3:=HL n c v some
theorem Wbb (n:Nat) {S:Type}:∀ c v (φ:_→Option S),(Uk n c v).bind φ=HL n c v φ:=by
  intros;unfold Uk HL;first | (simp only [ia,ba,iB,bB,oL,oX,nB,Option.bind_some]) | rfl
def tI (n:Nat):Hint OutS:={ live:=fun c=>[],run:=fun c=>none,xm:=fun c q=>none,sch:=fun c=>(cond (Nat.beq c 8) (some [(0,0),(2,0),(4,0),(5,5),(1,7),(3,7),(6,6),(7,2),(8,6),(9,2)]) none),pr:=[(0,10,25),(0,11,9)] }
theorem VX (n:Nat):qa tys (ja OutS (KS n)).keep (tI n) n (fa Tryz.f46) 0:=na (fun _=>rfl) _ _ (by kernel_rfl)
theorem P1 (n:Nat):Enters Tryz.prog 46:=enters_of (c:=fa Tryz.f46) Tryz.func46 (by kernel_rfl) (by kernel_rfl)
def vw:List RSp:=[.one (.dat K0),.one (.dat K2)]
def uw:List RS:=[]
def Q1:List Sl:=[.top,.top]
def R1:List RSp:=[.agg [.dat (.int .i64),.dat (.int .i64),.dat (.int .i64),.dat .str,.dat .bool,.dat (.int .i64),.dat .str,.dat .bool,.dat .str,.dat .str,.row 0,.row 1,.dat (.int .i64),.dat .bool],.one (.dat (.int .i64))]
def Tq:List RS:=[.row 25 2 (.pair .str (.pair .str .unit)) true true,.row 9 1 .str true true]
def Fu (y:U3):OutS:=⟨false,lp (Wc Tq (y.2.2.2.2.2.2.2.2.2.2.2.2.2.1,(y.2.2.2.2.2.2.2.2.2.2.2.2.2.2.1,()))) Q1 (),tH (kE (Wc Tq (y.2.2.2.2.2.2.2.2.2.2.2.2.2.1,(y.2.2.2.2.2.2.2.2.2.2.2.2.2.2.1,()))) R1 ((y.1,(y.2.1,(y.2.2.1,(y.2.2.2.1,(y.2.2.2.2.1,(y.2.2.2.2.2.1,(y.2.2.2.2.2.2.1,(y.2.2.2.2.2.2.2.1,(y.2.2.2.2.2.2.2.2.1,(y.2.2.2.2.2.2.2.2.2.1,(y.2.2.2.2.2.2.2.2.2.2.1,(y.2.2.2.2.2.2.2.2.2.2.2.1,())))))))))))),((y.2.2.2.2.2.2.2.2.2.2.2.2.1,()),()))),dw (Wc Tq (y.2.2.2.2.2.2.2.2.2.2.2.2.2.1,(y.2.2.2.2.2.2.2.2.2.2.2.2.2.2.1,()))) Tq (y.2.2.2.2.2.2.2.2.2.2.2.2.2.1,(y.2.2.2.2.2.2.2.2.2.2.2.2.2.2.1,()))⟩
theorem wF (n:Nat):EntryOk Tryz.prog gl ⟨46,me,none,some (csT vw uw (fun σ ρ=>Uk n σ.1.1 σ.2.1.1) Fu)⟩:=qe (P1 n) fun σ ρ y h=>Tf tys_ok (pO n) mixed (hint:=tI n) (n:=n) Tryz.func46 (za (VX n)) (la (φ:=fun y=>some (Fu y)) (by kernel_rfl) (Wbb n σ.1.1 σ.2.1.1 _) h)
def Yo (n:Nat):List Entry:=⟨46,me,none,some (csT vw uw (fun σ ρ=>Uk n σ.1.1 σ.2.1.1) Fu)⟩::KS n
theorem eE (n:Nat):AllOk Tryz.prog gl (Yo n):=.cons (wF n) (pO n)
def Lh (n:Nat) {R:Type} (i:Int) (l:(Sq BA)) (kn:Int→(Sq BA)→Option R) (ko:((Sq BA))→Option R) (kr:Unit→Option R) (kp:Int→Option R):Option R:=if (decide (i<(l.n:Int)))=true then if 0≤i∧i<(l.n:Int) then kn (IntKind.wrap .i64 (i+(1:Int))) (⟨l.n,fun q=>if q=(Int.toNat i)∧q<l.n then (⟨#[63]⟩:BA) else l.at' q⟩:Sq BA) else none else ko l
def Yb (n:Nat):Nat→Int→(Sq BA)→Option (Lx ((Sq BA)) Unit)
 | 0,_,_=>none
 | m+1,i,l=>Lh n i l (Yb n m) (fun a=>some (.out a)) (fun a=>some (.ret a)) (fun p=>some (.pan p))
theorem aL (n m:Nat) {S:Type}:∀ i l (φ:_→Option S),(Yb n (m+1) i l).bind φ=Lh n i l (fun i l=>(Yb n m i l).bind φ) (fun a=>φ (.out a)) (fun a=>φ (.ret a)) (fun p=>φ (.pan p)):=by
  intros;first | (simp only [Yb,Lh,ia,ba,iB,bB,oL,oX,nB,Option.bind_some]) | rfl
def bi:List Sl:=.row 0::.top::.dat (.int .i64)::tp 12 []
def ai:List RS:=[.row 9 1 .str true true,.ghost [.top]]
def Bx:List Sl:=.row 0::tp 14 []
def Ax:List RS:=[.row 9 1 .str true true,.ghost [.top]]
def Qb (K:XE→List AV→oa→Option OutS):Lx ((Sq BA)) Unit→Option OutS:=fun x=>onL x (fun a=>Zb Bx Ax () (a,((),())) (K (.exit 0))) (fun _=>none) (fun _=>none)
def sq (n:Nat) {R:Type} (r0:(Sq BA)) (k:Unit→Option R):Option R:=(Yb n n (0:Int) r0).bind fun x_1=>onL x_1 (fun a_2=>if Gb (a_2.n+1) 16=true then k () else none) (fun _=>none) (fun _=>none)
def kf (n:Nat) (r0:(Sq BA)):Option Unit:=sq n r0 some
theorem eU (n:Nat) {S:Type}:∀ r0 (φ:_→Option S),(kf n r0).bind φ=sq n r0 φ:=by
  intros;unfold kf sq;first | (simp only [ia,ba,iB,bB,oL,oX,nB,Option.bind_some]) | rfl
def Kf (n:Nat):Hint OutS:={ live:=fun c=>(cond (Nat.beq c 0) [(0,some (.sl .str)),(2,none)] []),run:=fun c=>(cond (Nat.beq c 0) (some (Qf bi ai fun σ ρ K=>(Yb n n σ.1 ρ.1).bind (Qb K))) none),xm:=fun c q=>(cond (Nat.beq c 0&&Nat.beq (q.getD 1000000) 0&&q.isSome) (some [(0,some (.sl .str))]) none) }
def Jf (n:Nat) (K:XE→List AV→oa→Option OutS) (m:Nat) (i:Int) (l:(Sq BA)):Option OutS:=Dc tys (ja OutS (Yo n)) (Kf n) n (ta [0,1,0,0] (fa Tryz.f79)) 0 bi ai K m (i,()) (l,((),()))
theorem Js (n:Nat) (K:XE→List AV→oa→Option OutS):∀ (m:Nat) i l,Jf n K m i l=(Yb n m i l).bind (Qb K)
  | 0,_,_=>by kernel_rfl
  | m+1,i,l=>by
    have h1:Jf n K (m+1) i l=Lh n i l (Jf n K m) (fun a=>Qb K (.out a)) (fun a=>Qb K (.ret a)) (fun p=>Qb K (.pan p)):=by kernel_rfl
    have h2:Jf n K m=fun i l=>(Yb n m i l).bind (Qb K):=by
      repeat (refine funext fun _=>?_)
      exact Js n K m _ _
    rw [h1,h2];exact (aL n m _ _ (Qb K)).symm
theorem zH (n:Nat):ec tys (ja OutS (Yo n)) (Kf n) n (ta [0,1,0,0] (fa Tryz.f79)) 0:=Ba (sp:=bi) (rp:=ai) (by kernel_rfl) fun K σ ρ=>Js n K n σ.1 ρ.1
theorem bL (n:Nat):qa tys (ja OutS (Yo n)) (Kf n) n (fa Tryz.f79) 0:=⟨⟨aa,⟨zH n,⟨⟨aa,⟨aa,aa⟩⟩,⟨aa,aa⟩⟩⟩⟩,aa⟩
theorem jN (n:Nat):Enters Tryz.prog 79:=enters_of (c:=fa Tryz.f79) Tryz.func79 (by kernel_rfl) (by kernel_rfl)
def Nh:List RSp:=[.one (.row 0)]
def Mh:List RS:=[.row 9 1 .str true true]
def kN:List Sl:=[.top]
def lN:List RSp:=[]
def Xg:List RS:=[]
def Eg (y:Unit):OutS:=⟨false,lp (Wc Xg ()) kN (),tH (kE (Wc Xg ()) lN ()),dw (Wc Xg ()) Xg ()⟩
theorem Cm (n:Nat):EntryOk Tryz.prog gl ⟨79,me,none,some (csT Nh Mh (fun σ ρ=>kf n ρ.1) Eg)⟩:=qe (jN n) fun σ ρ y h=>Bb tys_ok (eE n) mixed (hint:=Kf n) (n:=n) Tryz.func79 (za (bL n)) (la (φ:=fun y=>some (Eg y)) (by kernel_rfl) (eU n ρ.1 _) h)
def Af (n:Nat):List Entry:=⟨79,me,none,some (csT Nh Mh (fun σ ρ=>kf n ρ.1) Eg)⟩::Yo n
theorem tq (n:Nat):AllOk Tryz.prog gl (Af n):=.cons (Cm n) (eE n)
def uj (n:Nat) {R:Type} (i c12 c13 c14:Int) (c15:BA) (c16:Bool) (c17:Int) (c18:BA) (c19:Bool) (c20 c21:BA) (c22:Int) (c23:Bool) (r11:(Sq U0)) (r2:(Sq BA)) (kn:Int→Int→Int→Int→BA→Bool→Int→BA→Bool→BA→BA→Int→Bool→(Sq U0)→(Sq BA)→Option R) (ko:U14→Option R) (kr:Unit→Option R) (kp:Int→Option R):Option R:=if (decide (i<(r11.n:Int)))=true then if 0≤i∧i<(r11.n:Int) then kn (IntKind.wrap .i64 (i+(1:Int))) c12 c13 c14 c15 c16 c17 c18 c19 c20 c21 c22 c23 (⟨r11.n,fun q=>if q=(Int.toNat i)∧q<r11.n then ((⟨#[63]⟩:BA),((⟨#[]⟩:BA),())) else r11.at' q⟩:Sq U0) r2 else none else ko (c12,c13,c14,c15,c16,c17,c18,c19,c20,c21,c22,c23,r11,r2)
def Cc (n:Nat):Nat→Int→Int→Int→Int→BA→Bool→Int→BA→Bool→BA→BA→Int→Bool→(Sq U0)→(Sq BA)→Option (Lx U14 Unit)
 | 0,_,_,_,_,_,_,_,_,_,_,_,_,_,_,_=>none
 | m+1,i,c12,c13,c14,c15,c16,c17,c18,c19,c20,c21,c22,c23,r11,r2=>uj n i c12 c13 c14 c15 c16 c17 c18 c19 c20 c21 c22 c23 r11 r2 (Cc n m) (fun a=>some (.out a)) (fun a=>some (.ret a)) (fun p=>some (.pan p))
theorem gN (n m:Nat) {S:Type}:∀ i c12 c13 c14 c15 c16 c17 c18 c19 c20 c21 c22 c23 r11 r2 (φ:_→Option S),(Cc n (m+1) i c12 c13 c14 c15 c16 c17 c18 c19 c20 c21 c22 c23 r11 r2).bind φ=uj n i c12 c13 c14 c15 c16 c17 c18 c19 c20 c21 c22 c23 r11 r2 (fun i c12 c13 c14 c15 c16 c17 c18 c19 c20 c21 c22 c23 r11 r2=>(Cc n m i c12 c13 c14 c15 c16 c17 c18 c19 c20 c21 c22 c23 r11 r2).bind φ) (fun a=>φ (.out a)) (fun a=>φ (.ret a)) (fun p=>φ (.pan p)):=by
  intros;first | (simp only [Cc,uj,ia,ba,iB,bB,oL,oX,nB,Option.bind_some]) | rfl
def wj:List Sl:=.top::.ptr 0 0 0::.dat (.int .i64)::tp 15 []
def vj:List RS:=[.box 29 14 false [.dat (.int .i64),.dat (.int .i64),.dat (.int .i64),.dat .str,.dat .bool,.dat (.int .i64),.dat .str,.dat .bool,.dat .str,.dat .str,.row 1,.row 2,.dat (.int .i64),.dat .bool],.row 25 2 (.pair .str (.pair .str .unit)) true true,.row 9 1 .str true true,.ghost [.top]]
def Vy:List Sl:=.top::.ptr 0 0 0::tp 16 []
def Uy:List RS:=[.box 29 14 false [.dat (.int .i64),.dat (.int .i64),.dat (.int .i64),.dat .str,.dat .bool,.dat (.int .i64),.dat .str,.dat .bool,.dat .str,.dat .str,.row 1,.row 2,.dat (.int .i64),.dat .bool],.row 25 2 (.pair .str (.pair .str .unit)) true true,.row 9 1 .str true true,.ghost [.top]]
def rc (K:XE→List AV→oa→Option OutS):Lx U14 Unit→Option OutS:=fun x=>onL x (fun a=>Zb Vy Uy () ((a.1,(a.2.1,(a.2.2.1,(a.2.2.2.1,(a.2.2.2.2.1,(a.2.2.2.2.2.1,(a.2.2.2.2.2.2.1,(a.2.2.2.2.2.2.2.1,(a.2.2.2.2.2.2.2.2.1,(a.2.2.2.2.2.2.2.2.2.1,(a.2.2.2.2.2.2.2.2.2.2.1,(a.2.2.2.2.2.2.2.2.2.2.2.1,())))))))))))),(a.2.2.2.2.2.2.2.2.2.2.2.2.1,(a.2.2.2.2.2.2.2.2.2.2.2.2.2,((),())))) (K (.exit 0))) (fun _=>none) (fun _=>none)
def au (n:Nat) {R:Type} (c c1 c2:Int) (c3:BA) (c4:Bool) (c5:Int) (c6:BA) (c7:Bool) (c8 c9:BA) (c10:Int) (c11:Bool) (r0:(Sq U0)) (r1:(Sq BA)) (k:Unit→Option R):Option R:=(Cc n n (0:Int) c c1 c2 c3 c4 c5 c6 c7 c8 c9 c10 c11 r0 r1).bind fun x_1=>onL x_1 (fun a_2=>(kf n a_2.2.2.2.2.2.2.2.2.2.2.2.2.2).bind fun v=>k ()) (fun _=>none) (fun _=>none)
def Va (n:Nat) (c c1 c2:Int) (c3:BA) (c4:Bool) (c5:Int) (c6:BA) (c7:Bool) (c8 c9:BA) (c10:Int) (c11:Bool) (r0:(Sq U0)) (r1:(Sq BA)):Option Unit:=au n c c1 c2 c3 c4 c5 c6 c7 c8 c9 c10 c11 r0 r1 some
theorem bW (n:Nat) {S:Type}:∀ c c1 c2 c3 c4 c5 c6 c7 c8 c9 c10 c11 r0 r1 (φ:_→Option S),(Va n c c1 c2 c3 c4 c5 c6 c7 c8 c9 c10 c11 r0 r1).bind φ=au n c c1 c2 c3 c4 c5 c6 c7 c8 c9 c10 c11 r0 r1 φ:=by
  intros;unfold Va au;first | (simp only [ia,ba,iB,bB,oL,oX,nB,Option.bind_some]) | rfl
def Wg (n:Nat):Hint OutS:={ live:=fun c=>(cond (Nat.beq c 0) [(1,none),(2,none)] []),run:=fun c=>(cond (Nat.beq c 0) (some (Qf wj vj fun σ ρ K=>(Cc n n σ.1 ρ.1.1 ρ.1.2.1 ρ.1.2.2.1 ρ.1.2.2.2.1 ρ.1.2.2.2.2.1 ρ.1.2.2.2.2.2.1 ρ.1.2.2.2.2.2.2.1 ρ.1.2.2.2.2.2.2.2.1 ρ.1.2.2.2.2.2.2.2.2.1 ρ.1.2.2.2.2.2.2.2.2.2.1 ρ.1.2.2.2.2.2.2.2.2.2.2.1 ρ.1.2.2.2.2.2.2.2.2.2.2.2.1 ρ.2.1 ρ.2.2.1).bind (rc K))) none),xm:=fun c q=>(cond (Nat.beq c 0&&Nat.beq (q.getD 1000000) 0&&q.isSome) (some [(1,none)]) none) }
def Vg (n:Nat) (K:XE→List AV→oa→Option OutS) (m:Nat) (i:Int) (c12:Int) (c13:Int) (c14:Int) (c15:BA) (c16:Bool) (c17:Int) (c18:BA) (c19:Bool) (c20:BA) (c21:BA) (c22:Int) (c23:Bool) (r11:(Sq U0)) (r2:(Sq BA)):Option OutS:=Dc tys (ja OutS (Af n)) (Wg n) n (ta [1,0,1,0,0] (fa Tryz.f52)) 0 wj vj K m (i,()) ((c12,(c13,(c14,(c15,(c16,(c17,(c18,(c19,(c20,(c21,(c22,(c23,())))))))))))),(r11,(r2,((),()))))
theorem Vv (n:Nat) (K:XE→List AV→oa→Option OutS):∀ (m:Nat) i c12 c13 c14 c15 c16 c17 c18 c19 c20 c21 c22 c23 r11 r2,Vg n K m i c12 c13 c14 c15 c16 c17 c18 c19 c20 c21 c22 c23 r11 r2=(Cc n m i c12 c13 c14 c15 c16 c17 c18 c19 c20 c21 c22 c23 r11 r2).bind (rc K)
  | 0,_,_,_,_,_,_,_,_,_,_,_,_,_,_,_=>by kernel_rfl
  | m+1,i,c12,c13,c14,c15,c16,c17,c18,c19,c20,c21,c22,c23,r11,r2=>by
    have h1:Vg n K (m+1) i c12 c13 c14 c15 c16 c17 c18 c19 c20 c21 c22 c23 r11 r2=uj n i c12 c13 c14 c15 c16 c17 c18 c19 c20 c21 c22 c23 r11 r2 (Vg n K m) (fun a=>rc K (.out a)) (fun a=>rc K (.ret a)) (fun p=>rc K (.pan p)):=by kernel_rfl
    have h2:Vg n K m=fun i c12 c13 c14 c15 c16 c17 c18 c19 c20 c21 c22 c23 r11 r2=>(Cc n m i c12 c13 c14 c15 c16 c17 c18 c19 c20 c21 c22 c23 r11 r2).bind (rc K):=by
      repeat (refine funext fun _=>?_)
      exact Vv n K m _ _ _ _ _ _ _ _ _ _ _ _ _ _ _
    rw [h1,h2];exact (gN n m _ _ _ _ _ _ _ _ _ _ _ _ _ _ _ (rc K)).symm
theorem ZK (n:Nat):ec tys (ja OutS (Af n)) (Wg n) n (ta [1,0,1,0,0] (fa Tryz.f52)) 0:=Ba (sp:=wj) (rp:=vj) (by kernel_rfl) fun K σ ρ=>Vv n K n σ.1 ρ.1.1 ρ.1.2.1 ρ.1.2.2.1 ρ.1.2.2.2.1 ρ.1.2.2.2.2.1 ρ.1.2.2.2.2.2.1 ρ.1.2.2.2.2.2.2.1 ρ.1.2.2.2.2.2.2.2.1 ρ.1.2.2.2.2.2.2.2.2.1 ρ.1.2.2.2.2.2.2.2.2.2.1 ρ.1.2.2.2.2.2.2.2.2.2.2.1 ρ.1.2.2.2.2.2.2.2.2.2.2.2.1 ρ.2.1 ρ.2.2.1
theorem iN (n:Nat):qa tys (ja OutS (Af n)) (Wg n) n (fa Tryz.f52) 0:=⟨aa,⟨⟨aa,⟨ZK n,⟨⟨aa,⟨aa,aa⟩⟩,⟨aa,aa⟩⟩⟩⟩,aa⟩⟩
theorem bQ (n:Nat):Enters Tryz.prog 52:=enters_of (c:=fa Tryz.f52) Tryz.func52 (by kernel_rfl) (by kernel_rfl)
def yj:List RSp:=[.agg [.dat (.int .i64),.dat (.int .i64),.dat (.int .i64),.dat .str,.dat .bool,.dat (.int .i64),.dat .str,.dat .bool,.dat .str,.dat .str,.row 0,.row 1,.dat (.int .i64),.dat .bool]]
def xj:List RS:=[.row 25 2 (.pair .str (.pair .str .unit)) true true,.row 9 1 .str true true]
def cQ:List Sl:=[.top]
def dQ:List RSp:=[]
def Kh:List RS:=[]
def Bh (y:Unit):OutS:=⟨false,lp (Wc Kh ()) cQ (),tH (kE (Wc Kh ()) dQ ()),dw (Wc Kh ()) Kh ()⟩
theorem rq (n:Nat):EntryOk Tryz.prog gl ⟨52,me,none,some (csT yj xj (fun σ ρ=>Va n σ.1.1 σ.1.2.1 σ.1.2.2.1 σ.1.2.2.2.1 σ.1.2.2.2.2.1 σ.1.2.2.2.2.2.1 σ.1.2.2.2.2.2.2.1 σ.1.2.2.2.2.2.2.2.1 σ.1.2.2.2.2.2.2.2.2.1 σ.1.2.2.2.2.2.2.2.2.2.1 σ.1.2.2.2.2.2.2.2.2.2.2.1 σ.1.2.2.2.2.2.2.2.2.2.2.2.1 ρ.1 ρ.2.1) Bh)⟩:=qe (bQ n) fun σ ρ y h=>Bb tys_ok (tq n) mixed (hint:=Wg n) (n:=n) Tryz.func52 (za (iN n)) (la (φ:=fun y=>some (Bh y)) (by kernel_rfl) (bW n σ.1.1 σ.1.2.1 σ.1.2.2.1 σ.1.2.2.2.1 σ.1.2.2.2.2.1 σ.1.2.2.2.2.2.1 σ.1.2.2.2.2.2.2.1 σ.1.2.2.2.2.2.2.2.1 σ.1.2.2.2.2.2.2.2.2.1 σ.1.2.2.2.2.2.2.2.2.2.1 σ.1.2.2.2.2.2.2.2.2.2.2.1 σ.1.2.2.2.2.2.2.2.2.2.2.2.1 ρ.1 ρ.2.1 _) h)
def qq (n:Nat):List Entry:=⟨52,me,none,some (csT yj xj (fun σ ρ=>Va n σ.1.1 σ.1.2.1 σ.1.2.2.1 σ.1.2.2.2.1 σ.1.2.2.2.2.1 σ.1.2.2.2.2.2.1 σ.1.2.2.2.2.2.2.1 σ.1.2.2.2.2.2.2.2.1 σ.1.2.2.2.2.2.2.2.2.1 σ.1.2.2.2.2.2.2.2.2.2.1 σ.1.2.2.2.2.2.2.2.2.2.2.1 σ.1.2.2.2.2.2.2.2.2.2.2.2.1 ρ.1 ρ.2.1) Bh)⟩::Af n
theorem Hs (n:Nat):AllOk Tryz.prog gl (qq n):=.cons (rq n) (tq n)
def rM (n:Nat) {R:Type} (c:T0) (k:T0→Option R):Option R:=if (c.2.2.2.2.1 !=(0:Int))=true then if (c.2.2.2.2.1 !=(5:Int))=true then k (c.1,(c.2.1,(c.2.2.1,(c.2.2.2.1,((1:Int),(c.2.2.2.2.2.1,(false,(((⟨#[]⟩:BA),((⟨#[]⟩:BA),())),((⟨0,fun _=>ua (.pair .str (.pair .str .unit))⟩:Sq U0),((⟨0,fun _=>ua .str⟩:Sq BA),((0:Int),(false,())))))))))))) else k (c.1,(c.2.1,(c.2.2.1,(c.2.2.2.1,(c.2.2.2.2.1,(c.2.2.2.2.2.1,(false,(((⟨#[]⟩:BA),((⟨#[]⟩:BA),())),((⟨0,fun _=>ua (.pair .str (.pair .str .unit))⟩:Sq U0),((⟨0,fun _=>ua .str⟩:Sq BA),((0:Int),(false,())))))))))))) else k (c.1,(c.2.1,(c.2.2.1,(c.2.2.2.1,(c.2.2.2.2.1,(c.2.2.2.2.2.1,(false,(((⟨#[]⟩:BA),((⟨#[]⟩:BA),())),((⟨0,fun _=>ua (.pair .str (.pair .str .unit))⟩:Sq U0),((⟨0,fun _=>ua .str⟩:Sq BA),((0:Int),(false,()))))))))))))
def zQ (n:Nat) (c:T0):Option T0:=rM n c some
theorem zcb (n:Nat) {S:Type}:∀ c (φ:_→Option S),(zQ n c).bind φ=rM n c φ:=by
  intros;unfold zQ rM;first | (simp only [ia,ba,iB,bB,oL,oX,nB,Option.bind_some]) | rfl
def BJ (n:Nat):Hint Out:={ live:=fun c=>[],run:=fun c=>none,xm:=fun c q=>none }
theorem MY (n:Nat):qa tys (ja Out (qq n)) (BJ n) n (fa Tryz.f47) 0:=na (fun _=>rfl) _ _ (by kernel_rfl)
theorem F4 (n:Nat):Enters Tryz.prog 47:=enters_of (c:=fa Tryz.f47) Tryz.func47 (by kernel_rfl) (by kernel_rfl)
def Pw (n:Nat):Entry:=⟨47,pcT K1 (.one K0) (fun xs=>zQ n xs.1),none,none⟩
theorem GG (n:Nat):EntryOk Tryz.prog gl (Pw n):=ya (F4 n) fun xs y h=>ma tys_ok (Hs n) mixed (hint:=BJ n) (n:=n) Tryz.func47 (za (MY n)) (la (φ:=(fun y=>some (Out.ret (ib (.one K0) y)))) (by kernel_rfl) (zcb n xs.1 _) h)
def EG (n:Nat):List Entry:=Pw n::qq n
theorem HE (n:Nat):AllOk Tryz.prog gl (EG n):=.cons (GG n) (Hs n)
def zz (n:Nat) {R:Type} (c:T0) (k:U3→Option R):Option R:=(RO n c).bind fun v=>if (!v)=true then k ((0:Int),((0:Int),((0:Int),((⟨#[]⟩:BA),(false,((0:Int),((⟨#[]⟩:BA),(false,((⟨#[]⟩:BA),((⟨#[]⟩:BA),((0:Int),(false,((1:Int),((⟨0,fun _=>ua (.pair .str (.pair .str .unit))⟩:Sq U0),((⟨0,fun _=>ua .str⟩:Sq BA),()))))))))))))))) else (Ji n c).bind fun v1=>k (v1.1,(v1.2.1,(v1.2.2.1,(v1.2.2.2.1,(v1.2.2.2.2.1,(v1.2.2.2.2.2.1,(v1.2.2.2.2.2.2.1,(v1.2.2.2.2.2.2.2.1,(v1.2.2.2.2.2.2.2.2.1,(v1.2.2.2.2.2.2.2.2.2.1,(v1.2.2.2.2.2.2.2.2.2.2.1,(v1.2.2.2.2.2.2.2.2.2.2.2.1,((0:Int),(v1.2.2.2.2.2.2.2.2.2.2.2.2.1,(v1.2.2.2.2.2.2.2.2.2.2.2.2.2.1,())))))))))))))))
def mi (n:Nat) (c:T0):Option U3:=zz n c some
theorem O1 (n:Nat) {S:Type}:∀ c (φ:_→Option S),(mi n c).bind φ=zz n c φ:=by
  intros;unfold mi zz;first | (simp only [ia,ba,iB,bB,oL,oX,nB,Option.bind_some]) | rfl
def Az (n:Nat):Hint OutS:={ live:=fun c=>[],run:=fun c=>none,xm:=fun c q=>none,pr:=[(0,10,25),(0,11,9)] }
theorem sR (n:Nat):qa tys (ja OutS (EG n)).keep (Az n) n (fa Tryz.f48) 0:=na (fun _=>rfl) _ _ (by kernel_rfl)
theorem MU (n:Nat):Enters Tryz.prog 48:=enters_of (c:=fa Tryz.f48) Tryz.func48 (by kernel_rfl) (by kernel_rfl)
def Hn:List RSp:=[.one (.dat K0)]
def Gn:List RS:=[]
def NU:List Sl:=[.top]
def OU:List RSp:=[.agg [.dat (.int .i64),.dat (.int .i64),.dat (.int .i64),.dat .str,.dat .bool,.dat (.int .i64),.dat .str,.dat .bool,.dat .str,.dat .str,.row 0,.row 1,.dat (.int .i64),.dat .bool],.one (.dat (.int .i64))]
def Tk:List RS:=[.row 25 2 (.pair .str (.pair .str .unit)) true true,.row 9 1 .str true true]
def Jl (y:U3):OutS:=⟨false,lp (Wc Tk (y.2.2.2.2.2.2.2.2.2.2.2.2.2.1,(y.2.2.2.2.2.2.2.2.2.2.2.2.2.2.1,()))) NU (),tH (kE (Wc Tk (y.2.2.2.2.2.2.2.2.2.2.2.2.2.1,(y.2.2.2.2.2.2.2.2.2.2.2.2.2.2.1,()))) OU ((y.1,(y.2.1,(y.2.2.1,(y.2.2.2.1,(y.2.2.2.2.1,(y.2.2.2.2.2.1,(y.2.2.2.2.2.2.1,(y.2.2.2.2.2.2.2.1,(y.2.2.2.2.2.2.2.2.1,(y.2.2.2.2.2.2.2.2.2.1,(y.2.2.2.2.2.2.2.2.2.2.1,(y.2.2.2.2.2.2.2.2.2.2.2.1,())))))))))))),((y.2.2.2.2.2.2.2.2.2.2.2.2.1,()),()))),dw (Wc Tk (y.2.2.2.2.2.2.2.2.2.2.2.2.2.1,(y.2.2.2.2.2.2.2.2.2.2.2.2.2.2.1,()))) Tk (y.2.2.2.2.2.2.2.2.2.2.2.2.2.1,(y.2.2.2.2.2.2.2.2.2.2.2.2.2.2.1,()))⟩
theorem sw (n:Nat):EntryOk Tryz.prog gl ⟨48,me,none,some (csT Hn Gn (fun σ ρ=>mi n σ.1.1) Jl)⟩:=qe (MU n) fun σ ρ y h=>Tf tys_ok (HE n) mixed (hint:=Az n) (n:=n) Tryz.func48 (za (sR n)) (la (φ:=fun y=>some (Jl y)) (by kernel_rfl) (O1 n σ.1.1 _) h)
def qw (n:Nat):List Entry:=⟨48,me,none,some (csT Hn Gn (fun σ ρ=>mi n σ.1.1) Jl)⟩::EG n
theorem Kx (n:Nat):AllOk Tryz.prog gl (qw n):=.cons (sw n) (HE n)
def EA (n:Nat) {R:Type} (id tenant ip:Int) (k:Bool→Option R):Option R:=if (decide (id≥(1:Int)))=true then if (decide (id≤(1099511627776:Int)))=true then (dJ n tenant (3:Int)).bind fun v=>if v=true then (dJ n ip (1099511627776:Int)).bind fun v1=>k v1 else k false else k false else k false
def wC (n:Nat) (id tenant ip:Int):Option Bool:=EA n id tenant ip some
theorem D4 (n:Nat) {S:Type}:∀ id tenant ip (φ:_→Option S),(wC n id tenant ip).bind φ=EA n id tenant ip φ:=by
  intros;unfold wC EA;first | (simp only [ia,ba,iB,bB,oL,oX,nB,Option.bind_some]) | rfl
def FA (n:Nat):Hint Out:={ live:=fun c=>[],run:=fun c=>none,xm:=fun c q=>none }
theorem FS (n:Nat):qa tys (ja Out (qw n)) (FA n) n (fa Tryz.f49) 0:=na (fun _=>rfl) _ _ (by kernel_rfl)
theorem xV (n:Nat):Enters Tryz.prog 49:=enters_of (c:=fa Tryz.f49) Tryz.func49 (by kernel_rfl) (by kernel_rfl)
def Xn (n:Nat):Entry:=⟨49,pcT (.pair (.int .i64) (.pair (.int .i64) (.pair (.int .i64) .unit))) (.one .bool) (fun xs=>wC n xs.1 xs.2.1 xs.2.2.1),none,none⟩
theorem Ow (n:Nat):EntryOk Tryz.prog gl (Xn n):=ya (xV n) fun xs y h=>ma tys_ok (Kx n) mixed (hint:=FA n) (n:=n) Tryz.func49 (za (FS n)) (la (φ:=(fun y=>some (Out.ret (ib (.one .bool) y)))) (by kernel_rfl) (D4 n xs.1 xs.2.1 xs.2.2.1 _) h)
def Nw (n:Nat):List Entry:=Xn n::qw n
theorem Vx (n:Nat):AllOk Tryz.prog gl (Nw n):=.cons (Ow n) (Kx n)
def GS (n:Nat) {R:Type} (id tenant ip:Int) (k:T0→Option R):Option R:=k (id,(tenant,(ip,(((⟨#[]⟩:BA),(false,())),((0:Int),((⟨#[]⟩:BA),(false,(((⟨#[]⟩:BA),((⟨#[]⟩:BA),())),((⟨0,fun _=>ua (.pair .str (.pair .str .unit))⟩:Sq U0),((⟨0,fun _=>ua .str⟩:Sq BA),((0:Int),(false,()))))))))))))
def LY (n:Nat) (id tenant ip:Int):Option T0:=GS n id tenant ip some
theorem gfb (n:Nat) {S:Type}:∀ id tenant ip (φ:_→Option S),(LY n id tenant ip).bind φ=GS n id tenant ip φ:=by
  intros;unfold LY GS;first | (simp only [ia,ba,iB,bB,oL,oX,nB,Option.bind_some]) | rfl
def oO (n:Nat):Hint Out:={ live:=fun c=>[],run:=fun c=>none,xm:=fun c q=>none }
theorem E4 (n:Nat):qa tys (ja Out (Nw n)) (oO n) n (fa Tryz.f50) 0:=na (fun _=>rfl) _ _ (by kernel_rfl)
theorem O8 (n:Nat):Enters Tryz.prog 50:=enters_of (c:=fa Tryz.f50) Tryz.func50 (by kernel_rfl) (by kernel_rfl)
def xC (n:Nat):Entry:=⟨50,pcT (.pair (.int .i64) (.pair (.int .i64) (.pair (.int .i64) .unit))) (.one K0) (fun xs=>LY n xs.1 xs.2.1 xs.2.2.1),none,none⟩
theorem qM (n:Nat):EntryOk Tryz.prog gl (xC n):=ya (O8 n) fun xs y h=>ma tys_ok (Vx n) mixed (hint:=oO n) (n:=n) Tryz.func50 (za (E4 n)) (la (φ:=(fun y=>some (Out.ret (ib (.one K0) y)))) (by kernel_rfl) (gfb n xs.1 xs.2.1 xs.2.2.1 _) h)
def pM (n:Nat):List Entry:=xC n::Nw n
theorem AJ (n:Nat):AllOk Tryz.prog gl (pM n):=.cons (qM n) (Vx n)
def pw (n:Nat) {R:Type} (id tenant ip:Int) (k:U3→Option R):Option R:=(RO n (id,(tenant,(ip,(((⟨#[]⟩:BA),(false,())),((0:Int),((⟨#[]⟩:BA),(false,(((⟨#[]⟩:BA),((⟨#[]⟩:BA),())),((⟨0,fun _=>ua (.pair .str (.pair .str .unit))⟩:Sq U0),((⟨0,fun _=>ua .str⟩:Sq BA),((0:Int),(false,()))))))))))))).bind fun v=>if (!v)=true then k ((0:Int),((0:Int),((0:Int),((⟨#[]⟩:BA),(false,((0:Int),((⟨#[]⟩:BA),(false,((⟨#[]⟩:BA),((⟨#[]⟩:BA),((0:Int),(false,((1:Int),((⟨0,fun _=>ua (.pair .str (.pair .str .unit))⟩:Sq U0),((⟨0,fun _=>ua .str⟩:Sq BA),()))))))))))))))) else k (id,(tenant,(ip,((⟨#[]⟩:BA),(false,((0:Int),((⟨#[]⟩:BA),(false,((⟨#[]⟩:BA),((⟨#[]⟩:BA),((0:Int),(false,((0:Int),((⟨0,fun _=>ua (.pair .str (.pair .str .unit))⟩:Sq U0),((⟨0,fun _=>ua .str⟩:Sq BA),())))))))))))))))
def wh (n:Nat) (id tenant ip:Int):Option U3:=pw n id tenant ip some
theorem D7 (n:Nat) {S:Type}:∀ id tenant ip (φ:_→Option S),(wh n id tenant ip).bind φ=pw n id tenant ip φ:=by
  intros;unfold wh pw;first | (simp only [ia,ba,iB,bB,oL,oX,nB,Option.bind_some]) | rfl
def cE (n:Nat):Hint OutS:={ live:=fun c=>[],run:=fun c=>none,xm:=fun c q=>none,pr:=[(0,10,25),(0,11,9)] }
theorem LU (n:Nat):qa tys (ja OutS (pM n)).keep (cE n) n (fa Tryz.f41) 0:=na (fun _=>rfl) _ _ (by kernel_rfl)
theorem RX (n:Nat):Enters Tryz.prog 41:=enters_of (c:=fa Tryz.f41) Tryz.func41 (by kernel_rfl) (by kernel_rfl)
def Qq:List RSp:=[.one (.dat (.int .i64)),.one (.dat (.int .i64)),.one (.dat (.int .i64))]
def Pq:List RS:=[]
def SX:List Sl:=[.top,.top,.top]
def TX:List RSp:=[.agg [.dat (.int .i64),.dat (.int .i64),.dat (.int .i64),.dat .str,.dat .bool,.dat (.int .i64),.dat .str,.dat .bool,.dat .str,.dat .str,.row 0,.row 1,.dat (.int .i64),.dat .bool],.one (.dat (.int .i64))]
def Fn:List RS:=[.row 25 2 (.pair .str (.pair .str .unit)) true true,.row 9 1 .str true true]
def Xo (y:U3):OutS:=⟨false,lp (Wc Fn (y.2.2.2.2.2.2.2.2.2.2.2.2.2.1,(y.2.2.2.2.2.2.2.2.2.2.2.2.2.2.1,()))) SX (),tH (kE (Wc Fn (y.2.2.2.2.2.2.2.2.2.2.2.2.2.1,(y.2.2.2.2.2.2.2.2.2.2.2.2.2.2.1,()))) TX ((y.1,(y.2.1,(y.2.2.1,(y.2.2.2.1,(y.2.2.2.2.1,(y.2.2.2.2.2.1,(y.2.2.2.2.2.2.1,(y.2.2.2.2.2.2.2.1,(y.2.2.2.2.2.2.2.2.1,(y.2.2.2.2.2.2.2.2.2.1,(y.2.2.2.2.2.2.2.2.2.2.1,(y.2.2.2.2.2.2.2.2.2.2.2.1,())))))))))))),((y.2.2.2.2.2.2.2.2.2.2.2.2.1,()),()))),dw (Wc Fn (y.2.2.2.2.2.2.2.2.2.2.2.2.2.1,(y.2.2.2.2.2.2.2.2.2.2.2.2.2.2.1,()))) Fn (y.2.2.2.2.2.2.2.2.2.2.2.2.2.1,(y.2.2.2.2.2.2.2.2.2.2.2.2.2.2.1,()))⟩
theorem yz (n:Nat):EntryOk Tryz.prog gl ⟨41,me,none,some (csT Qq Pq (fun σ ρ=>wh n σ.1.1 σ.2.1.1 σ.2.2.1.1) Xo)⟩:=qe (RX n) fun σ ρ y h=>Tf tys_ok (AJ n) mixed (hint:=cE n) (n:=n) Tryz.func41 (za (LU n)) (la (φ:=fun y=>some (Xo y)) (by kernel_rfl) (D7 n σ.1.1 σ.2.1.1 σ.2.2.1.1 _) h)
def wz (n:Nat):List Entry:=⟨41,me,none,some (csT Qq Pq (fun σ ρ=>wh n σ.1.1 σ.2.1.1 σ.2.2.1.1) Xo)⟩::pM n
theorem xz (n:Nat):AllOk Tryz.prog gl (wz n):=.cons (yz n) (AJ n)
def tS (n:Nat) {R:Type} (line:BA) (k:(BA×Bool×Unit)→Option R):Option R:=if (line.toList==(⟨#[46]⟩:BA).toList)=true then k ((⟨#[]⟩:BA),(true,())) else if (decide ((line.size:Int)>(0:Int)))=true then if 0≤(0:Int)∧(0:Int)<(line.size:Int) then if ((bt line (0:Int))==(46:Int))=true then if 0≤(1:Int)∧(1:Int)≤(line.size:Int) then k ((line.extract (Int.toNat (1:Int)) (Int.toNat (line.size:Int))),(false,())) else none else k (line,(false,())) else none else k (line,(false,()))
def IY (n:Nat) (line:BA):Option (BA×Bool×Unit):=tS n line some
theorem dfb (n:Nat) {S:Type}:∀ line (φ:_→Option S),(IY n line).bind φ=tS n line φ:=by
  intros;unfold IY tS;first | (simp only [ia,ba,iB,bB,oL,oX,nB,Option.bind_some]) | rfl
def kO (n:Nat):Hint Out:={ live:=fun c=>[],run:=fun c=>none,xm:=fun c q=>none }
theorem y4 (n:Nat):qa tys (ja Out (wz n)) (kO n) n (fa Tryz.f104) 0:=na (fun _=>rfl) _ _ (by kernel_rfl)
theorem J8 (n:Nat):Enters Tryz.prog 104:=enters_of (c:=fa Tryz.f104) Tryz.func104 (by kernel_rfl) (by kernel_rfl)
def tC (n:Nat):Entry:=⟨104,pcT (.pair .str .unit) (.many (.pair .str (.pair .bool .unit))) (fun xs=>IY n xs.1),none,none⟩
theorem mM (n:Nat):EntryOk Tryz.prog gl (tC n):=ya (J8 n) fun xs y h=>ma tys_ok (xz n) mixed (hint:=kO n) (n:=n) Tryz.func104 (za (y4 n)) (la (φ:=(fun y=>some (Out.ret (ib (.many (.pair .str (.pair .bool .unit))) y)))) (by kernel_rfl) (dfb n xs.1 _) h)
def lM (n:Nat):List Entry:=tC n::wz n
theorem xJ (n:Nat):AllOk Tryz.prog gl (lM n):=.cons (mM n) (xz n)
def GA (n:Nat) {R:Type} (c c1 c2:Int) (c3:BA) (c4:Bool) (c5:Int) (c6:BA) (c7:Bool) (c8 c9:BA) (c10:Int) (c11:Bool) (l:U10) (r0:(Sq U0)) (r1:(Sq BA)) (k:U15→Option R):Option R:=(IY n l.1).bind fun v=>if (!l.2.1)=true then if v.2.1=true then k ((c,(c1,(c2,((c3,(c4,())),(c5,(c6,(c7,((c8,(c9,())),(r0,(r1,(c10,(c11,())))))))))))),((0:Int),((⟨#[115,101,110,100]⟩:BA),()))) else if c11=true then k ((c,(c1,(c2,((c3,(c4,())),(c5,(c6,(c7,((c8,(c9,())),(r0,(r1,(c10,(c11,())))))))))))),((0:Int),((⟨#[]⟩:BA),()))) else if l.2.1=false then (Un n v.1).bind fun v1=>if (!v1)=false then if (decide ((IntKind.wrap .i64 ((IntKind.wrap .i64 (c10+(v.1.size:Int)))+(2:Int)))>(8192:Int)))=true then k ((c,(c1,(c2,((c3,(c4,())),(c5,(c6,(c7,((c8,(c9,())),(r0,((⟨0,fun _=>ua .str⟩:Sq BA),((0:Int),(true,())))))))))))),((0:Int),((⟨#[]⟩:BA),()))) else if Gb (r1.n+1) 16=true then k ((c,(c1,(c2,((c3,(c4,())),(c5,(c6,(c7,((c8,(c9,())),(r0,((⟨(r1.n+1),fun q=>if q<r1.n then r1.at' q else (fun q=>List.getD (α:=BA) [v.1] q (ua .str)) (q - r1.n)⟩:Sq BA),((IntKind.wrap .i64 ((IntKind.wrap .i64 (c10+(v.1.size:Int)))+(2:Int))),(c11,())))))))))))),((0:Int),((⟨#[]⟩:BA),())))
 else none else k ((c,(c1,(c2,((c3,(c4,())),(c5,(c6,(c7,((c8,(c9,())),(r0,((⟨0,fun _=>ua .str⟩:Sq BA),((0:Int),(true,())))))))))))),((0:Int),((⟨#[]⟩:BA),()))) else k ((c,(c1,(c2,((c3,(c4,())),(c5,(c6,(c7,((c8,(c9,())),(r0,((⟨0,fun _=>ua .str⟩:Sq BA),((0:Int),(true,())))))))))))),((0:Int),((⟨#[]⟩:BA),()))) else if c11=true then k ((c,(c1,(c2,((c3,(c4,())),(c5,(c6,(c7,((c8,(c9,())),(r0,(r1,(c10,(c11,())))))))))))),((0:Int),((⟨#[]⟩:BA),()))) else if l.2.1=false then (Un n v.1).bind fun v2=>if (!v2)=false then if (decide ((IntKind.wrap .i64 ((IntKind.wrap .i64 (c10+(v.1.size:Int)))+(2:Int)))>(8192:Int)))=true then k ((c,(c1,(c2,((c3,(c4,())),(c5,(c6,(c7,((c8,(c9,())),(r0,((⟨0,fun _=>ua .str⟩:Sq BA),((0:Int),(true,())))))))))))),((0:Int),((⟨#[]⟩:BA),()))) else if Gb (r1.n+1) 16=true then k ((c,(c1,(c2,((c3,(c4,())),(c5,(c6,(c7,((c8,(c9,())),(r0,((⟨(r1.n+1),fun q=>if q<r1.n then r1.at' q else (fun q=>List.getD (α:=BA) [v.1] q (ua .str)) (q - r1.n)⟩:Sq BA),((IntKind.wrap .i64 ((IntKind.wrap .i64 (c10+(v.1.size:Int)))+(2:Int))),(c11,())))))))))))),((0:Int),((⟨#[]⟩:BA),()))) else none else k ((c,(c1,(c2,((c3,(c4,())),(c5,(c6,(c7,((c8,(c9,())),(r0,((⟨0,fun _=>ua .str⟩:Sq BA),((0:Int),(true,())))))))))))),((0:Int),((⟨#[]⟩:BA),())))
 else k ((c,(c1,(c2,((c3,(c4,())),(c5,(c6,(c7,((c8,(c9,())),(r0,((⟨0,fun _=>ua .str⟩:Sq BA),((0:Int),(true,())))))))))))),((0:Int),((⟨#[]⟩:BA),())))
def ak (n:Nat) (c c1 c2:Int) (c3:BA) (c4:Bool) (c5:Int) (c6:BA) (c7:Bool) (c8 c9:BA) (c10:Int) (c11:Bool) (l:U10) (r0:(Sq U0)) (r1:(Sq BA)):Option U15:=GA n c c1 c2 c3 c4 c5 c6 c7 c8 c9 c10 c11 l r0 r1 some
theorem I4 (n:Nat) {S:Type}:∀ c c1 c2 c3 c4 c5 c6 c7 c8 c9 c10 c11 l r0 r1 (φ:_→Option S),(ak n c c1 c2 c3 c4 c5 c6 c7 c8 c9 c10 c11 l r0 r1).bind φ=GA n c c1 c2 c3 c4 c5 c6 c7 c8 c9 c10 c11 l r0 r1 φ:=by
  intros;unfold ak GA;first | (simp only [ia,ba,iB,bB,oL,oX,nB,Option.bind_some]) | rfl
def HA (n:Nat):Hint OutS:={ live:=fun c=>[],run:=fun c=>none,xm:=fun c q=>none,fz:=true }
theorem OS (n:Nat):qa tys (ja OutS (lM n)) (HA n) n (fa Tryz.f77) 0:=na (fun _=>rfl) _ _ (by kernel_rfl)
theorem yV (n:Nat):Enters Tryz.prog 77:=enters_of (c:=fa Tryz.f77) Tryz.func77 (by kernel_rfl) (by kernel_rfl)
def Zn:List RSp:=[.agg [.dat (.int .i64),.dat (.int .i64),.dat (.int .i64),.dat .str,.dat .bool,.dat (.int .i64),.dat .str,.dat .bool,.dat .str,.dat .str,.row 0,.row 1,.dat (.int .i64),.dat .bool],.one (.dat (.pair .str (.pair .bool .unit)))]
def Yn:List RS:=[.row 25 2 (.pair .str (.pair .str .unit)) true false,.row 9 1 .str true false]
def zV:List Sl:=[.top,.top]
def BV:List RSp:=[.one (.dat K0),.one (.dat (.int .i64)),.one (.dat .str)]
def wl:List RS:=[]
def Ql (y:U15):OutS:=⟨false,lp (Wc wl ()) zV (),tH (kE (Wc wl ()) BV ((y.1,()),((y.2.1,()),((y.2.2.1,()),())))),dw (Wc wl ()) wl ()⟩
theorem Sw (n:Nat):EntryOk Tryz.prog gl ⟨77,me,none,some (csT Zn Yn (fun σ ρ=>ak n σ.1.1 σ.1.2.1 σ.1.2.2.1 σ.1.2.2.2.1 σ.1.2.2.2.2.1 σ.1.2.2.2.2.2.1 σ.1.2.2.2.2.2.2.1 σ.1.2.2.2.2.2.2.2.1 σ.1.2.2.2.2.2.2.2.2.1 σ.1.2.2.2.2.2.2.2.2.2.1 σ.1.2.2.2.2.2.2.2.2.2.2.1 σ.1.2.2.2.2.2.2.2.2.2.2.2.1 σ.2.1.1 ρ.1 ρ.2.1) Ql)⟩:=qe (yV n) fun σ ρ y h=>Bb tys_ok (xJ n) mixed (hint:=HA n) (n:=n) Tryz.func77 (za (OS n)) (la (φ:=fun y=>some (Ql y)) (by kernel_rfl) (I4 n σ.1.1 σ.1.2.1 σ.1.2.2.1 σ.1.2.2.2.1 σ.1.2.2.2.2.1 σ.1.2.2.2.2.2.1 σ.1.2.2.2.2.2.2.1 σ.1.2.2.2.2.2.2.2.1 σ.1.2.2.2.2.2.2.2.2.1 σ.1.2.2.2.2.2.2.2.2.2.1 σ.1.2.2.2.2.2.2.2.2.2.2.1 σ.1.2.2.2.2.2.2.2.2.2.2.2.1 σ.2.1.1 ρ.1 ρ.2.1 _) h)
def Rw (n:Nat):List Entry:=⟨77,me,none,some (csT Zn Yn (fun σ ρ=>ak n σ.1.1 σ.1.2.1 σ.1.2.2.1 σ.1.2.2.2.1 σ.1.2.2.2.2.1 σ.1.2.2.2.2.2.1 σ.1.2.2.2.2.2.2.1 σ.1.2.2.2.2.2.2.2.1 σ.1.2.2.2.2.2.2.2.2.1 σ.1.2.2.2.2.2.2.2.2.2.1 σ.1.2.2.2.2.2.2.2.2.2.2.1 σ.1.2.2.2.2.2.2.2.2.2.2.2.1 σ.2.1.1 ρ.1 ρ.2.1) Ql)⟩::lM n
theorem Xx (n:Nat):AllOk Tryz.prog gl (Rw n):=.cons (Sw n) (xJ n)
def bT (n:Nat) {R:Type} (kind:Int) (k:BA→Option R):Option R:=if (kind==(1:Int))=true then k (⟨#[72,69,76,79]⟩:BA) else if (kind==(2:Int))=true then k (⟨#[69,72,76,79]⟩:BA) else if (kind==(3:Int))=true then k (⟨#[77,65,73,76]⟩:BA) else if (kind==(4:Int))=true then k (⟨#[82,67,80,84]⟩:BA) else if (kind==(5:Int))=true then k (⟨#[68,65,84,65]⟩:BA) else if (kind==(6:Int))=true then k (⟨#[82,83,69,84]⟩:BA) else if (kind==(7:Int))=true then k (⟨#[78,79,79,80]⟩:BA) else if (kind==(8:Int))=true then k (⟨#[81,85,73,84]⟩:BA) else k (⟨#[86,82,70,89]⟩:BA)
def aZ (n:Nat) (kind:Int):Option BA:=bT n kind some
theorem kfb (n:Nat) {S:Type}:∀ kind (φ:_→Option S),(aZ n kind).bind φ=bT n kind φ:=by
  intros;unfold aZ bT;first | (simp only [ia,ba,iB,bB,oL,oX,nB,Option.bind_some]) | rfl
def vO (n:Nat):Hint Out:={ live:=fun c=>[],run:=fun c=>none,xm:=fun c q=>none }
theorem V4 (n:Nat):qa tys (ja Out (Rw n)) (vO n) n (fa Tryz.f106) 0:=na (fun _=>rfl) _ _ (by kernel_rfl)
theorem d9 (n:Nat):Enters Tryz.prog 106:=enters_of (c:=fa Tryz.f106) Tryz.func106 (by kernel_rfl) (by kernel_rfl)
def GC (n:Nat):Entry:=⟨106,pcT (.pair (.int .i64) .unit) (.one .str) (fun xs=>aZ n xs.1),none,none⟩
theorem vM (n:Nat):EntryOk Tryz.prog gl (GC n):=ya (d9 n) fun xs y h=>ma tys_ok (Xx n) mixed (hint:=vO n) (n:=n) Tryz.func106 (za (V4 n)) (la (φ:=(fun y=>some (Out.ret (ib (.one .str) y)))) (by kernel_rfl) (kfb n xs.1 _) h)
def Fv (n:Nat):List Entry:=GC n::Rw n
theorem aK (n:Nat):AllOk Tryz.prog gl (Fv n):=.cons (vM n) (Xx n)
def gg (n:Nat) {R:Type} (i:Int) (b:(Sq Int)) (kn:Int→(Sq Int)→Option R) (ko:((Sq Int))→Option R) (kr:Unit→Option R) (kp:Int→Option R):Option R:=if (decide (i<(b.n:Int)))=true then if 0≤i∧i<(b.n:Int) then if (decide ((b.at' (Int.toNat i))≥(65:Int)))=true then if 0≤i∧i<(b.n:Int) then if (decide ((b.at' (Int.toNat i))≤(90:Int)))=true then if 0≤i∧i<(b.n:Int) then if 0≤i∧i<(b.n:Int) then kn (IntKind.wrap .i64 (i+(1:Int))) (⟨b.n,fun q=>if q=(Int.toNat i)∧q<b.n then (IntKind.wrap .u8 ((b.at' (Int.toNat i))+(32:Int))) else b.at' q⟩:Sq Int) else none else none else kn (IntKind.wrap .i64 (i+(1:Int))) b else none else kn (IntKind.wrap .i64 (i+(1:Int))) b else none else ko b
def Nb (n:Nat):Nat→Int→(Sq Int)→Option (Lx ((Sq Int)) Unit)
 | 0,_,_=>none
 | m+1,i,b=>gg n i b (Nb n m) (fun a=>some (.out a)) (fun a=>some (.ret a)) (fun p=>some (.pan p))
theorem xY (n m:Nat) {S:Type}:∀ i b (φ:_→Option S),(Nb n (m+1) i b).bind φ=gg n i b (fun i b=>(Nb n m i b).bind φ) (fun a=>φ (.out a)) (fun a=>φ (.ret a)) (fun p=>φ (.pan p)):=by
  intros;first | (simp only [Nb,gg,ia,ba,iB,bB,oL,oX,nB,Option.bind_some]) | rfl
def ot:List Sl:=.top::.top::.top::.row 0::.dat (.int .i64)::tp 30 []
def nt:List RS:=[.row 5 1 (.int .u8) false true]
def cJ:List Sl:=.top::.top::.top::.row 0::tp 31 []
def bJ:List RS:=[.row 5 1 (.int .u8) false true]
def Re (K:XE→List AV→oa→Option Out):Lx ((Sq Int)) Unit→Option Out:=fun x=>onL x (fun a=>Zb cJ bJ () (a,()) (K (.exit 0))) (fun _=>none) (fun _=>none)
def nC (n:Nat) {R:Type} (s:BA) (k:BA→Option R):Option R:=(Nb n n (0:Int) (⟨s.size,fun q=>bt s q⟩:Sq Int)).bind fun x_1=>onL x_1 (fun a_2=>k (DD a_2.n a_2.at')) (fun _=>none) (fun _=>none)
def Qe (n:Nat) (s:BA):Option BA:=nC n s some
theorem scb (n:Nat) {S:Type}:∀ s (φ:_→Option S),(Qe n s).bind φ=nC n s φ:=by
  intros;unfold Qe nC;first | (simp only [ia,ba,iB,bB,oL,oX,nB,Option.bind_some]) | rfl
def Mn (n:Nat):Hint Out:={ live:=fun c=>(cond (Nat.beq c 0) [(3,some (.sl (.int .u8))),(4,none)] []),run:=fun c=>(cond (Nat.beq c 0) (some (Qf ot nt fun σ ρ K=>(Nb n n σ.1 ρ.1).bind (Re K))) none),xm:=fun c q=>(cond (Nat.beq c 0&&Nat.beq (q.getD 1000000) 0&&q.isSome) (some [(3,some (.sl (.int .u8)))]) none) }
def Ln (n:Nat) (K:XE→List AV→oa→Option Out) (m:Nat) (i:Int) (b:(Sq Int)):Option Out:=Dc tys (ja Out (Fv n)) (Mn n) n (ta [1,1,0,1,0,0] (fa Tryz.f107)) 0 ot nt K m (i,()) (b,())
theorem aJ (n:Nat) (K:XE→List AV→oa→Option Out):∀ (m:Nat) i b,Ln n K m i b=(Nb n m i b).bind (Re K)
  | 0,_,_=>by kernel_rfl
  | m+1,i,b=>by
    have h1:Ln n K (m+1) i b=gg n i b (Ln n K m) (fun a=>Re K (.out a)) (fun a=>Re K (.ret a)) (fun p=>Re K (.pan p)):=by kernel_rfl
    have h2:Ln n K m=fun i b=>(Nb n m i b).bind (Re K):=by
      repeat (refine funext fun _=>?_)
      exact aJ n K m _ _
    rw [h1,h2];exact (xY n m _ _ (Re K)).symm
theorem nV (n:Nat):ec tys (ja Out (Fv n)) (Mn n) n (ta [1,1,0,1,0,0] (fa Tryz.f107)) 0:=Ba (sp:=ot) (rp:=nt) (by kernel_rfl) fun K σ ρ=>aJ n K n σ.1 ρ.1
theorem yY (n:Nat):qa tys (ja Out (Fv n)) (Mn n) n (fa Tryz.f107) 0:=⟨aa,⟨aa,⟨⟨aa,⟨nV n,⟨⟨aa,⟨aa,aa⟩⟩,⟨⟨aa,⟨aa,aa⟩⟩,aa⟩⟩⟩⟩,⟨aa,aa⟩⟩⟩⟩
theorem X3 (n:Nat):Enters Tryz.prog 107:=enters_of (c:=fa Tryz.f107) Tryz.func107 (by kernel_rfl) (by kernel_rfl)
def Iw (n:Nat):Entry:=⟨107,pcT (.pair .str .unit) (.one .str) (fun xs=>Qe n xs.1),none,none⟩
theorem KF (n:Nat):EntryOk Tryz.prog gl (Iw n):=ya (X3 n) fun xs y h=>ma tys_ok (aK n) mixed (hint:=Mn n) (n:=n) Tryz.func107 (za (yY n)) (la (φ:=(fun y=>some (Out.ret (ib (.one .str) y)))) (by kernel_rfl) (scb n xs.1 _) h)
def JF (n:Nat):List Entry:=Iw n::Fv n
theorem pE (n:Nat):AllOk Tryz.prog gl (JF n):=.cons (KF n) (aK n)
def bH (n:Nat) {R:Type} (s with0:BA) (k:Bool→Option R):Option R:=if (decide ((s.size:Int)≥(with0.size:Int)))=true then if 0≤(with0.size:Int)∧(with0.size:Int)≤(s.size:Int) then (Qe n (s.extract (Int.toNat (0:Int)) (Int.toNat (with0.size:Int)))).bind fun v=>(Qe n with0).bind fun v1=>k (v.toList==v1.toList) else none else k false
def Zp (n:Nat) (s with0:BA):Option Bool:=bH n s with0 some
theorem X8 (n:Nat) {S:Type}:∀ s with0 (φ:_→Option S),(Zp n s with0).bind φ=bH n s with0 φ:=by
  intros;unfold Zp bH;first | (simp only [ia,ba,iB,bB,oL,oX,nB,Option.bind_some]) | rfl
def NE (n:Nat):Hint Out:={ live:=fun c=>[],run:=fun c=>none,xm:=fun c q=>none }
theorem IV (n:Nat):qa tys (ja Out (JF n)) (NE n) n (fa Tryz.f105) 0:=na (fun _=>rfl) _ _ (by kernel_rfl)
theorem VY (n:Nat):Enters Tryz.prog 105:=enters_of (c:=fa Tryz.f105) Tryz.func105 (by kernel_rfl) (by kernel_rfl)
def Ir (n:Nat):Entry:=⟨105,pcT (.pair .str (.pair .str .unit)) (.one .bool) (fun xs=>Zp n xs.1 xs.2.1),none,none⟩
theorem OA (n:Nat):EntryOk Tryz.prog gl (Ir n):=ya (VY n) fun xs y h=>ma tys_ok (pE n) mixed (hint:=NE n) (n:=n) Tryz.func105 (za (IV n)) (la (φ:=(fun y=>some (Out.ret (ib (.one .bool) y)))) (by kernel_rfl) (X8 n xs.1 xs.2.1 _) h)
def Rl (n:Nat):List Entry:=Ir n::JF n
theorem NA (n:Nat):AllOk Tryz.prog gl (Rl n):=.cons (OA n) (pE n)
def mo (n:Nat) {R:Type} (s1:BA) (quoted:Bool) (i:Int) (kn:BA→Bool→Int→Option R) (ko:(BA)→Option R) (kr:(Int)→Option R) (kp:Int→Option R):Option R:=if (decide (i<(s1.size:Int)))=true then if quoted=true then if 0≤i∧i<(s1.size:Int) then if ((bt s1 i)==(92:Int))=true then kn s1 quoted (IntKind.wrap .i64 ((IntKind.wrap .i64 (i+(1:Int)))+(1:Int))) else if 0≤i∧i<(s1.size:Int) then if ((bt s1 i)==(34:Int))=true then if 0≤i∧i<(s1.size:Int) then if ((bt s1 i)==(62:Int))=true then if (!(!quoted))=true then kr (IntKind.wrap .i64 (i+(1:Int))) else kn s1 (!quoted) (IntKind.wrap .i64 (i+(1:Int))) else kn s1 (!quoted) (IntKind.wrap .i64 (i+(1:Int))) else none else if 0≤i∧i<(s1.size:Int) then if ((bt s1 i)==(62:Int))=true then if (!quoted)=true then kr (IntKind.wrap .i64 (i+(1:Int))) else kn s1 quoted (IntKind.wrap .i64 (i+(1:Int))) else kn s1 quoted (IntKind.wrap .i64 (i+(1:Int))) else none else none else none else if 0≤i∧i<(s1.size:Int) then if ((bt s1 i)==(34:Int))=true then if 0≤i∧i<(s1.size:Int) then if ((bt s1 i)==(62:Int))=true then if (!(!quoted))=true then kr (IntKind.wrap .i64 (i+(1:Int))) else kn s1 (!quoted) (IntKind.wrap .i64 (i+(1:Int))) else kn s1 (!quoted) (IntKind.wrap .i64 (i+(1:Int))) else none else if 0≤i∧i<(s1.size:Int) then if ((bt s1 i)==(62:Int))=true then
 if (!quoted)=true then kr (IntKind.wrap .i64 (i+(1:Int))) else kn s1 quoted (IntKind.wrap .i64 (i+(1:Int))) else kn s1 quoted (IntKind.wrap .i64 (i+(1:Int))) else none else none else ko s1
def Bd (n:Nat):Nat→BA→Bool→Int→Option (Lx (BA) (Int))
 | 0,_,_,_=>none
 | m+1,s1,quoted,i=>mo n s1 quoted i (Bd n m) (fun a=>some (.out a)) (fun a=>some (.ret a)) (fun p=>some (.pan p))
theorem cT (n m:Nat) {S:Type}:∀ s1 quoted i (φ:_→Option S),(Bd n (m+1) s1 quoted i).bind φ=mo n s1 quoted i (fun s1 quoted i=>(Bd n m s1 quoted i).bind φ) (fun a=>φ (.out a)) (fun a=>φ (.ret a)) (fun p=>φ (.pan p)):=by
  intros;first | (simp only [Bd,mo,ia,ba,iB,bB,oL,oX,nB,Option.bind_some]) | rfl
def ym:List Sl:=.dat .str::.top::.top::.dat .bool::.dat (.int .i64)::tp 33 []
def wm:List RS:=[]
def vD:List Sl:=.dat .str::tp 37 []
def uD:List RS:=[]
def xD:List Sl:=.top::.top::.dat (.int .i64)::tp 35 []
def wD:List RS:=[]
def od (K:XE→List AV→oa→Option Out):Lx (BA) (Int)→Option Out:=fun x=>onL x (fun a=>Zb vD uD (a,()) () (K (.exit 0))) (fun a=>Zb xD wD (a,()) () (K .ret)) (fun _=>none)
def QA (n:Nat) {R:Type} (s:BA) (k:Int→Option R):Option R:=(Bd n n s false (0:Int)).bind fun x_1=>onL x_1 (fun a_2=>k (a_2.size:Int)) (fun a_3=>k a_3) (fun _=>none)
def HC (n:Nat) (s:BA):Option Int:=QA n s some
theorem W4 (n:Nat) {S:Type}:∀ s (φ:_→Option S),(HC n s).bind φ=QA n s φ:=by
  intros;unfold HC QA;first | (simp only [ia,ba,iB,bB,oL,oX,nB,Option.bind_some]) | rfl
def nj (n:Nat):Hint Out:={ live:=fun c=>(cond (Nat.beq c 0) (lv [0,3,4]) []),run:=fun c=>(cond (Nat.beq c 0) (some (Qf ym wm fun σ ρ K=>(Bd n n σ.1 σ.2.1 σ.2.2.1).bind (od K))) none),xm:=fun c q=>(cond (Nat.beq c 0&&Nat.beq (q.getD 1000000) 0&&q.isSome) (some [(0,none)]) (cond (Nat.beq c 1&&q.isNone) (some [(2,none)]) none)) }
def lj (n:Nat) (K:XE→List AV→oa→Option Out) (m:Nat) (s1:BA) (quoted:Bool) (i:Int):Option Out:=Dc tys (ja Out (Rl n)) (nj n) n (ta [1,1,0,1,0,0] (fa Tryz.f108)) 0 ym wm K m (s1,(quoted,(i,()))) ()
theorem RA (n:Nat) (K:XE→List AV→oa→Option Out):∀ (m:Nat) s1 quoted i,lj n K m s1 quoted i=(Bd n m s1 quoted i).bind (od K)
  | 0,_,_,_=>by kernel_rfl
  | m+1,s1,quoted,i=>by
    have h1:lj n K (m+1) s1 quoted i=mo n s1 quoted i (lj n K m) (fun a=>od K (.out a)) (fun a=>od K (.ret a)) (fun p=>od K (.pan p)):=by kernel_rfl
    have h2:lj n K m=fun s1 quoted i=>(Bd n m s1 quoted i).bind (od K):=by
      repeat (refine funext fun _=>?_)
      exact RA n K m _ _ _
    rw [h1,h2];exact (cT n m _ _ _ (od K)).symm
theorem xP (n:Nat):ec tys (ja Out (Rl n)) (nj n) n (ta [1,1,0,1,0,0] (fa Tryz.f108)) 0:=Ba (sp:=ym) (rp:=wm) (by kernel_rfl) fun K σ ρ=>RA n K n σ.1 σ.2.1 σ.2.2.1
theorem dT (n:Nat):qa tys (ja Out (Rl n)) (nj n) n (fa Tryz.f108) 0:=⟨aa,⟨aa,⟨⟨aa,⟨xP n,⟨⟨aa,⟨aa,aa⟩⟩,⟨⟨⟨aa,⟨⟨aa,aa⟩,aa⟩⟩,⟨⟨aa,⟨aa,aa⟩⟩,⟨aa,⟨⟨aa,aa⟩,aa⟩⟩⟩⟩,aa⟩⟩⟩⟩,⟨aa,aa⟩⟩⟩⟩
theorem LV (n:Nat):Enters Tryz.prog 108:=enters_of (c:=fa Tryz.f108) Tryz.func108 (by kernel_rfl) (by kernel_rfl)
def oo (n:Nat):Entry:=⟨108,pcT (.pair .str .unit) (.one (.int .i64)) (fun xs=>HC n xs.1),none,none⟩
theorem Xw (n:Nat):EntryOk Tryz.prog gl (oo n):=ya (LV n) fun xs y h=>ma tys_ok (NA n) mixed (hint:=nj n) (n:=n) Tryz.func108 (za (dT n)) (la (φ:=(fun y=>some (Out.ret (ib (.one (.int .i64)) y)))) (by kernel_rfl) (W4 n xs.1 _) h)
def mj (n:Nat):List Entry:=oo n::Rl n
theorem Zx (n:Nat):AllOk Tryz.prog gl (mj n):=.cons (Xw n) (NA n)
end
end Go.Proofs.YtdohilmgblkppaaGreatDoor.AM
