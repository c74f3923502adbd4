/- Typed functions that tell what the Go functions of this seat answer, and proofs of it, by program (gen.py). -/
import Derived.Test.YtdohilmgblkppaaGreatDoorZF1
set_option linter.all false
set_option linter.unusedVariables false
set_option linter.unusedSimpArgs false
set_option maxRecDepth 1000000
set_option maxHeartbeats 0
namespace Go.Proofs.YtdohilmgblkppaaGreatDoor.AM
open Go Go.RowKit
noncomputable section
def aw (n:Nat) {R:Type} (s:BA) (k:(BA×Int×Unit)→Option R):Option R:=(ln n s).bind fun v=>(cd n v).bind fun v1=>if (!v1)=true then k ((⟨#[]⟩:BA),((8:Int),())) else k (v,((0:Int),()))
def Nc (n:Nat) (s:BA):Option (BA×Int×Unit):=aw n s some
theorem C6 (n:Nat) {S:Type}:∀ s (φ:_→Option S),(Nc n s).bind φ=aw n s φ:=by
  intros;unfold Nc aw;first | (simp only [la,fa,iB,bB,oL,oX,nB,Option.bind_some]) | rfl
def RD (n:Nat):Hint Out:={ live:=fun c=>[],run:=fun c=>none,xm:=fun c q=>none }
theorem gU (n:Nat):ra tys (ja Out (sZ n)) (RD n) n (ia Tryz.f133) 0:=na (fun _=>rfl) _ _ (by kernel_rfl)
theorem cX (n:Nat):Enters Tryz.prog 133:=enters_of (c:=ia Tryz.f133) Tryz.func133 (by kernel_rfl) (by kernel_rfl)
def tN (n:Nat):Entry:=⟨133,pcT (.pair .str .unit) (.many (.pair .str (.pair (.int .i64) .unit))) (fun xs=>Nc n xs.1),none,none⟩
theorem TZ (n:Nat):EntryOk Tryz.prog gl (tN n):=Aa (cX n) fun xs y h=>oa tys_ok (yT n) mixed (hint:=RD n) (n:=n) Tryz.func133 (Ba (gU n)) (ma (φ:=(fun y=>some (Out.ret (rb (.many (.pair .str (.pair (.int .i64) .unit))) y)))) (by kernel_rfl) (C6 n xs.1 _) h)
def Yy (n:Nat):List Entry:=tN n::sZ n
theorem Co (n:Nat):AllOk Tryz.prog gl (Yy n):=.cons (TZ n) (yT n)
def EQ (n:Nat) {R:Type} (s:BA) (k:T1→Option R) (kp:Int→Option R):Option R:=if (decide ((s.size:Int)≥(4:Int)))=true then if 0≤(4:Int)∧(4:Int)≤(s.size:Int) then (ZE n (s.extract (Int.toNat (0:Int)) (Int.toNat (4:Int)))).bind fun v=>if (decide (v>(0:Int)))=true then if ((s.size:Int)==(4:Int))=false then if 0≤(4:Int)∧(4:Int)<(s.size:Int) then (Ja n ((bt s (4:Int))==(32:Int)) (3:Int)).bind fun x_1=>onX x_1 (fun p=>kp p) (fun v1=>if 0≤(4:Int)∧(4:Int)≤(s.size:Int) then (ZE n (s.extract (Int.toNat (0:Int)) (Int.toNat (4:Int)))).bind fun v2=>if 0≤(4:Int)∧(4:Int)≤(s.size:Int) then if (v2==(3:Int))=true then (zh n (s.extract (Int.toNat (4:Int)) (Int.toNat (s.size:Int))) (⟨#[32,70,82,79,77,58]⟩:BA)).bind fun x_2=>onX x_2 (fun p1=>kp p1) (fun v3=>(Om n v3).bind fun x_3=>onX x_3 (fun p2=>kp p2) (fun v4=>(aF n v4.2.2.1).bind fun x_4=>onX x_4 (fun p3=>kp p3) (fun v5=>(yh n (v2,((⟨#[]⟩:BA),(v4.2.1,((v4.1.1,(v4.1.2.1,())),(v5,())))))).bind fun v6=>(Ja n v6 (8:Int)).bind fun x_5=>onX x_5 (fun p4=>kp p4) (fun v7=>k (v2,((⟨#[]⟩:BA),(v4.2.1,((v4.1.1,(v4.1.2.1,())),(v5,()))))))))) else if (v2==(4:Int))=true then (zh n (s.extract (Int.toNat (4:Int)) (Int.toNat (s.size:Int))) (⟨#[32,84,79,58]⟩:BA)).bind fun x_6=>onX x_6 (fun p5=>
 kp p5) (fun v8=>(Om n v8).bind fun x_7=>onX x_7 (fun p6=>kp p6) (fun v9=>(Ja n (v9.2.2.1.toList==(⟨#[]⟩:BA).toList) (8:Int)).bind fun x_8=>onX x_8 (fun p7=>kp p7) (fun v10=>(yh n (v2,((⟨#[]⟩:BA),(v9.2.1,((v9.1.1,(v9.1.2.1,())),((0:Int),())))))).bind fun v11=>(Ja n v11 (8:Int)).bind fun x_9=>onX x_9 (fun p8=>kp p8) (fun v12=>k (v2,((⟨#[]⟩:BA),(v9.2.1,((v9.1.1,(v9.1.2.1,())),((0:Int),()))))))))) else if (v2==(1:Int))=true then (Ga n (s.extract (Int.toNat (4:Int)) (Int.toNat (s.size:Int))) (⟨#[32]⟩:BA)).bind fun v13=>(Nc n v13).bind fun v14=>(Ja n (v14.2.1==(0:Int)) (8:Int)).bind fun x_10=>onX x_10 (fun p9=>kp p9) (fun v15=>(yh n (v2,(v14.1,(false,(((⟨#[]⟩:BA),((⟨#[]⟩:BA),())),((0:Int),())))))).bind fun v16=>(Ja n v16 (8:Int)).bind fun x_11=>onX x_11 (fun p10=>kp p10) (fun v17=>k (v2,(v14.1,(false,(((⟨#[]⟩:BA),((⟨#[]⟩:BA),())),((0:Int),()))))))) else if (v2==(2:Int))=true then (Ga n (s.extract (Int.toNat (4:Int)) (Int.toNat (s.size:Int))) (⟨#[32]⟩:BA)).bind fun v18=>(Nc n v18).bind fun v19=>(Ja n (v19.2.1==(0:Int)) (8:Int)).bind fun x_12=>onX x_12 (fun p11=>kp p11) (fun v20=>(yh n (v2,(v19.1,(false,(((⟨#[]⟩:BA),((⟨#[]⟩:BA),())),((0:Int),())))))).bind fun v21=>
 (Ja n v21 (8:Int)).bind fun x_13=>onX x_13 (fun p12=>kp p12) (fun v22=>k (v2,(v19.1,(false,(((⟨#[]⟩:BA),((⟨#[]⟩:BA),())),((0:Int),()))))))) else (Ja n (!((s.extract (Int.toNat (4:Int)) (Int.toNat (s.size:Int))).toList==(⟨#[32]⟩:BA).toList)) (8:Int)).bind fun x_14=>onX x_14 (fun p13=>kp p13) (fun v23=>(Ga n (s.extract (Int.toNat (4:Int)) (Int.toNat (s.size:Int))) (⟨#[32]⟩:BA)).bind fun v24=>(yh n (v2,(v24,(false,(((⟨#[]⟩:BA),((⟨#[]⟩:BA),())),((0:Int),())))))).bind fun v25=>(Ja n v25 (8:Int)).bind fun x_15=>onX x_15 (fun p14=>kp p14) (fun v26=>k (v2,(v24,(false,(((⟨#[]⟩:BA),((⟨#[]⟩:BA),())),((0:Int),()))))))) else none else none) else none else (Ja n true (3:Int)).bind fun x_16=>onX x_16 (fun p15=>kp p15) (fun v27=>if 0≤(4:Int)∧(4:Int)≤(s.size:Int) then (ZE n (s.extract (Int.toNat (0:Int)) (Int.toNat (4:Int)))).bind fun v28=>if 0≤(4:Int)∧(4:Int)≤(s.size:Int) then if (v28==(3:Int))=true then (zh n (s.extract (Int.toNat (4:Int)) (Int.toNat (s.size:Int))) (⟨#[32,70,82,79,77,58]⟩:BA)).bind fun x_17=>onX x_17 (fun p16=>kp p16) (fun v29=>(Om n v29).bind fun x_18=>onX x_18 (fun p17=>kp p17) (fun v30=>(aF n v30.2.2.1).bind fun x_19=>onX x_19 (fun p18=>kp p18) (fun v31=>(yh n (v28,((⟨#[]⟩:BA),(v30.2.1,((v30.1.1,(v30.1.2.1,())),(v31,())))))).bind fun v32=>
 (Ja n v32 (8:Int)).bind fun x_20=>onX x_20 (fun p19=>kp p19) (fun v33=>k (v28,((⟨#[]⟩:BA),(v30.2.1,((v30.1.1,(v30.1.2.1,())),(v31,()))))))))) else if (v28==(4:Int))=true then (zh n (s.extract (Int.toNat (4:Int)) (Int.toNat (s.size:Int))) (⟨#[32,84,79,58]⟩:BA)).bind fun x_21=>onX x_21 (fun p20=>kp p20) (fun v34=>(Om n v34).bind fun x_22=>onX x_22 (fun p21=>kp p21) (fun v35=>(Ja n (v35.2.2.1.toList==(⟨#[]⟩:BA).toList) (8:Int)).bind fun x_23=>onX x_23 (fun p22=>kp p22) (fun v36=>(yh n (v28,((⟨#[]⟩:BA),(v35.2.1,((v35.1.1,(v35.1.2.1,())),((0:Int),())))))).bind fun v37=>(Ja n v37 (8:Int)).bind fun x_24=>onX x_24 (fun p23=>kp p23) (fun v38=>k (v28,((⟨#[]⟩:BA),(v35.2.1,((v35.1.1,(v35.1.2.1,())),((0:Int),()))))))))) else if (v28==(1:Int))=true then (Ga n (s.extract (Int.toNat (4:Int)) (Int.toNat (s.size:Int))) (⟨#[32]⟩:BA)).bind fun v39=>(Nc n v39).bind fun v40=>(Ja n (v40.2.1==(0:Int)) (8:Int)).bind fun x_25=>onX x_25 (fun p24=>kp p24) (fun v41=>(yh n (v28,(v40.1,(false,(((⟨#[]⟩:BA),((⟨#[]⟩:BA),())),((0:Int),())))))).bind fun v42=>(Ja n v42 (8:Int)).bind fun x_26=>onX x_26 (fun p25=>kp p25) (fun v43=>k (v28,(v40.1,(false,(((⟨#[]⟩:BA),((⟨#[]⟩:BA),())),((0:Int),()))))))) else if (v28==(2:Int))=true then
 (Ga n (s.extract (Int.toNat (4:Int)) (Int.toNat (s.size:Int))) (⟨#[32]⟩:BA)).bind fun v44=>(Nc n v44).bind fun v45=>(Ja n (v45.2.1==(0:Int)) (8:Int)).bind fun x_27=>onX x_27 (fun p26=>kp p26) (fun v46=>(yh n (v28,(v45.1,(false,(((⟨#[]⟩:BA),((⟨#[]⟩:BA),())),((0:Int),())))))).bind fun v47=>(Ja n v47 (8:Int)).bind fun x_28=>onX x_28 (fun p27=>kp p27) (fun v48=>k (v28,(v45.1,(false,(((⟨#[]⟩:BA),((⟨#[]⟩:BA),())),((0:Int),()))))))) else (Ja n (!((s.extract (Int.toNat (4:Int)) (Int.toNat (s.size:Int))).toList==(⟨#[32]⟩:BA).toList)) (8:Int)).bind fun x_29=>onX x_29 (fun p28=>kp p28) (fun v49=>(Ga n (s.extract (Int.toNat (4:Int)) (Int.toNat (s.size:Int))) (⟨#[32]⟩:BA)).bind fun v50=>(yh n (v28,(v50,(false,(((⟨#[]⟩:BA),((⟨#[]⟩:BA),())),((0:Int),())))))).bind fun v51=>(Ja n v51 (8:Int)).bind fun x_30=>onX x_30 (fun p29=>kp p29) (fun v52=>k (v28,(v50,(false,(((⟨#[]⟩:BA),((⟨#[]⟩:BA),())),((0:Int),()))))))) else none else none) else (Ja n false (3:Int)).bind fun x_31=>onX x_31 (fun p30=>kp p30) (fun v53=>if 0≤(4:Int)∧(4:Int)≤(s.size:Int) then (ZE n (s.extract (Int.toNat (0:Int)) (Int.toNat (4:Int)))).bind fun v54=>if 0≤(4:Int)∧(4:Int)≤(s.size:Int) then if (v54==(3:Int))=true then
 (zh n (s.extract (Int.toNat (4:Int)) (Int.toNat (s.size:Int))) (⟨#[32,70,82,79,77,58]⟩:BA)).bind fun x_32=>onX x_32 (fun p31=>kp p31) (fun v55=>(Om n v55).bind fun x_33=>onX x_33 (fun p32=>kp p32) (fun v56=>(aF n v56.2.2.1).bind fun x_34=>onX x_34 (fun p33=>kp p33) (fun v57=>(yh n (v54,((⟨#[]⟩:BA),(v56.2.1,((v56.1.1,(v56.1.2.1,())),(v57,())))))).bind fun v58=>(Ja n v58 (8:Int)).bind fun x_35=>onX x_35 (fun p34=>kp p34) (fun v59=>k (v54,((⟨#[]⟩:BA),(v56.2.1,((v56.1.1,(v56.1.2.1,())),(v57,()))))))))) else if (v54==(4:Int))=true then (zh n (s.extract (Int.toNat (4:Int)) (Int.toNat (s.size:Int))) (⟨#[32,84,79,58]⟩:BA)).bind fun x_36=>onX x_36 (fun p35=>kp p35) (fun v60=>(Om n v60).bind fun x_37=>onX x_37 (fun p36=>kp p36) (fun v61=>(Ja n (v61.2.2.1.toList==(⟨#[]⟩:BA).toList) (8:Int)).bind fun x_38=>onX x_38 (fun p37=>kp p37) (fun v62=>(yh n (v54,((⟨#[]⟩:BA),(v61.2.1,((v61.1.1,(v61.1.2.1,())),((0:Int),())))))).bind fun v63=>(Ja n v63 (8:Int)).bind fun x_39=>onX x_39 (fun p38=>kp p38) (fun v64=>k (v54,((⟨#[]⟩:BA),(v61.2.1,((v61.1.1,(v61.1.2.1,())),((0:Int),()))))))))) else if (v54==(1:Int))=true then (Ga n (s.extract (Int.toNat (4:Int)) (Int.toNat (s.size:Int))) (⟨#[32]⟩:BA)).bind fun v65=>(Nc n v65).bind fun v66=>
 (Ja n (v66.2.1==(0:Int)) (8:Int)).bind fun x_40=>onX x_40 (fun p39=>kp p39) (fun v67=>(yh n (v54,(v66.1,(false,(((⟨#[]⟩:BA),((⟨#[]⟩:BA),())),((0:Int),())))))).bind fun v68=>(Ja n v68 (8:Int)).bind fun x_41=>onX x_41 (fun p40=>kp p40) (fun v69=>k (v54,(v66.1,(false,(((⟨#[]⟩:BA),((⟨#[]⟩:BA),())),((0:Int),()))))))) else if (v54==(2:Int))=true then (Ga n (s.extract (Int.toNat (4:Int)) (Int.toNat (s.size:Int))) (⟨#[32]⟩:BA)).bind fun v70=>(Nc n v70).bind fun v71=>(Ja n (v71.2.1==(0:Int)) (8:Int)).bind fun x_42=>onX x_42 (fun p41=>kp p41) (fun v72=>(yh n (v54,(v71.1,(false,(((⟨#[]⟩:BA),((⟨#[]⟩:BA),())),((0:Int),())))))).bind fun v73=>(Ja n v73 (8:Int)).bind fun x_43=>onX x_43 (fun p42=>kp p42) (fun v74=>k (v54,(v71.1,(false,(((⟨#[]⟩:BA),((⟨#[]⟩:BA),())),((0:Int),()))))))) else (Ja n (!((s.extract (Int.toNat (4:Int)) (Int.toNat (s.size:Int))).toList==(⟨#[32]⟩:BA).toList)) (8:Int)).bind fun x_44=>onX x_44 (fun p43=>kp p43) (fun v75=>(Ga n (s.extract (Int.toNat (4:Int)) (Int.toNat (s.size:Int))) (⟨#[32]⟩:BA)).bind fun v76=>(yh n (v54,(v76,(false,(((⟨#[]⟩:BA),((⟨#[]⟩:BA),())),((0:Int),())))))).bind fun v77=>(Ja n v77 (8:Int)).bind fun x_45=>onX x_45 (fun p44=>
 kp p44) (fun v78=>k (v54,(v76,(false,(((⟨#[]⟩:BA),((⟨#[]⟩:BA),())),((0:Int),()))))))) else none else none) else none else (Ja n false (3:Int)).bind fun x_46=>onX x_46 (fun p45=>kp p45) (fun v79=>if 0≤(4:Int)∧(4:Int)≤(s.size:Int) then (ZE n (s.extract (Int.toNat (0:Int)) (Int.toNat (4:Int)))).bind fun v80=>if 0≤(4:Int)∧(4:Int)≤(s.size:Int) then if (v80==(3:Int))=true then (zh n (s.extract (Int.toNat (4:Int)) (Int.toNat (s.size:Int))) (⟨#[32,70,82,79,77,58]⟩:BA)).bind fun x_47=>onX x_47 (fun p46=>kp p46) (fun v81=>(Om n v81).bind fun x_48=>onX x_48 (fun p47=>kp p47) (fun v82=>(aF n v82.2.2.1).bind fun x_49=>onX x_49 (fun p48=>kp p48) (fun v83=>(yh n (v80,((⟨#[]⟩:BA),(v82.2.1,((v82.1.1,(v82.1.2.1,())),(v83,())))))).bind fun v84=>(Ja n v84 (8:Int)).bind fun x_50=>onX x_50 (fun p49=>kp p49) (fun v85=>k (v80,((⟨#[]⟩:BA),(v82.2.1,((v82.1.1,(v82.1.2.1,())),(v83,()))))))))) else if (v80==(4:Int))=true then (zh n (s.extract (Int.toNat (4:Int)) (Int.toNat (s.size:Int))) (⟨#[32,84,79,58]⟩:BA)).bind fun x_51=>onX x_51 (fun p50=>kp p50) (fun v86=>(Om n v86).bind fun x_52=>onX x_52 (fun p51=>kp p51) (fun v87=>(Ja n (v87.2.2.1.toList==(⟨#[]⟩:BA).toList) (8:Int)).bind fun x_53=>onX x_53 (fun p52=>kp p52) (fun v88=>(yh n (v80,((⟨#[]⟩:BA),(v87.2.1,((v87.1.1,(v87.1.2.1,())),((0:Int),())))))).bind fun v89=>
 (Ja n v89 (8:Int)).bind fun x_54=>onX x_54 (fun p53=>kp p53) (fun v90=>k (v80,((⟨#[]⟩:BA),(v87.2.1,((v87.1.1,(v87.1.2.1,())),((0:Int),()))))))))) else if (v80==(1:Int))=true then (Ga n (s.extract (Int.toNat (4:Int)) (Int.toNat (s.size:Int))) (⟨#[32]⟩:BA)).bind fun v91=>(Nc n v91).bind fun v92=>(Ja n (v92.2.1==(0:Int)) (8:Int)).bind fun x_55=>onX x_55 (fun p54=>kp p54) (fun v93=>(yh n (v80,(v92.1,(false,(((⟨#[]⟩:BA),((⟨#[]⟩:BA),())),((0:Int),())))))).bind fun v94=>(Ja n v94 (8:Int)).bind fun x_56=>onX x_56 (fun p55=>kp p55) (fun v95=>k (v80,(v92.1,(false,(((⟨#[]⟩:BA),((⟨#[]⟩:BA),())),((0:Int),()))))))) else if (v80==(2:Int))=true then (Ga n (s.extract (Int.toNat (4:Int)) (Int.toNat (s.size:Int))) (⟨#[32]⟩:BA)).bind fun v96=>(Nc n v96).bind fun v97=>(Ja n (v97.2.1==(0:Int)) (8:Int)).bind fun x_57=>onX x_57 (fun p56=>kp p56) (fun v98=>(yh n (v80,(v97.1,(false,(((⟨#[]⟩:BA),((⟨#[]⟩:BA),())),((0:Int),())))))).bind fun v99=>(Ja n v99 (8:Int)).bind fun x_58=>onX x_58 (fun p57=>kp p57) (fun v100=>k (v80,(v97.1,(false,(((⟨#[]⟩:BA),((⟨#[]⟩:BA),())),((0:Int),()))))))) else (Ja n (!((s.extract (Int.toNat (4:Int)) (Int.toNat (s.size:Int))).toList==(⟨#[32]⟩:BA).toList)) (8:Int)).bind fun x_59=>onX x_59 (fun p58=>
 kp p58) (fun v101=>(Ga n (s.extract (Int.toNat (4:Int)) (Int.toNat (s.size:Int))) (⟨#[32]⟩:BA)).bind fun v102=>(yh n (v80,(v102,(false,(((⟨#[]⟩:BA),((⟨#[]⟩:BA),())),((0:Int),())))))).bind fun v103=>(Ja n v103 (8:Int)).bind fun x_60=>onX x_60 (fun p59=>kp p59) (fun v104=>k (v80,(v102,(false,(((⟨#[]⟩:BA),((⟨#[]⟩:BA),())),((0:Int),()))))))) else none else none)
def OW (n:Nat) (s:BA):Option (Except Int T1):=EQ n s (fun y=>some (.ok y)) (fun p=>some (.error p))
theorem lbb (n:Nat) {S:Type}:∀ s (φ:_→Option S),(OW n s).bind φ=EQ n s (fun y=>φ (.ok y)) (fun p=>φ (.error p)):=by
  intros;unfold OW EQ;first | (simp only [la,fa,iB,bB,oL,oX,nB,Option.bind_some]) | rfl
def qH (n:Nat):Hint Out:={ live:=fun c=>[],run:=fun c=>none,xm:=fun c q=>none }
theorem NT (n:Nat):ra tys (ja Out (Yy n)) (qH n) n (ia Tryz.f99) 0:=na (fun _=>rfl) _ _ (by kernel_rfl)
theorem mdb (n:Nat):Enters Tryz.prog 99:=enters_of (c:=ia Tryz.f99) Tryz.func99 (by kernel_rfl) (by kernel_rfl)
def Q5 (n:Nat):Entry:=⟨99,pcX 144 (.pair .str .unit) (.one K2) (fun xs=>OW n xs.1),none,none⟩
theorem dgb (n:Nat):EntryOk Tryz.prog gl (Q5 n):=KI (mdb n) (fun xs y h=>oa tys_ok (Co n) mixed (hint:=qH n) (n:=n) Tryz.func99 (Ba (NT n)) (ma (φ:=(fun r=>onX r (fun p=>some (Out.pan (th 144 p))) fun y=>some (Out.ret (rb (.one K2) y)))) (by kernel_rfl) (lbb n xs.1 _) h)) (fun xs p h=>oa tys_ok (Co n) mixed (hint:=qH n) (n:=n) Tryz.func99 (Ba (NT n)) (ma (φ:=(fun r=>onX r (fun p=>some (Out.pan (th 144 p))) fun y=>some (Out.ret (rb (.one K2) y)))) (by kernel_rfl) (lbb n xs.1 _) h))
def Iv (n:Nat):List Entry:=Q5 n::Yy n
theorem xO (n:Nat):AllOk Tryz.prog gl (Iv n):=.cons (dgb n) (Co n)
def sB (n:Nat) {R:Type} (s:BA) (k:(T1×Int×Unit)→Option R):Option R:=(OW n s).bind fun x_1=>onX x_1 (fun p=>k (((0:Int),((⟨#[]⟩:BA),(false,(((⟨#[]⟩:BA),((⟨#[]⟩:BA),())),((0:Int),()))))),(p,()))) (fun v=>k ((v.1,(v.2.1,(v.2.2.1,((v.2.2.2.1.1,(v.2.2.2.1.2.1,())),(v.2.2.2.2.1,()))))),((0:Int),())))
def rB (n:Nat) (s:BA):Option (T1×Int×Unit):=sB n s some
theorem Wfb (n:Nat) {S:Type}:∀ s (φ:_→Option S),(rB n s).bind φ=sB n s φ:=by
  intros;unfold rB sB;first | (simp only [la,fa,iB,bB,oL,oX,nB,Option.bind_some]) | rfl
def js (n:Nat):Hint Out:={ live:=fun c=>[],run:=fun c=>none,xm:=fun c q=>none,pm:=some [(2,none),(3,none)] }
theorem E5 (n:Nat):ra tys (ja Out (Iv n)) (js n) n (ya [0] (ia Tryz.f69)) 0∧ra tys (ja Out (Iv n)) (js n) n (ya [1,1] (ia Tryz.f69)) 0:=⟨aa,⟨aa,aa⟩⟩
theorem l9 (n:Nat):Enters Tryz.prog 69:=enters_of (c:=ia Tryz.f69) Tryz.func69 (by kernel_rfl) (by kernel_rfl)
theorem zT:Tryz.prog.funcs[98]?=some Tryz.f98:=by kernel_rfl
theorem D5:Enters Tryz.prog 98:=enters_of (c:=ia Tryz.f98) zT (by kernel_rfl) (by kernel_rfl)
theorem tZ (n:Nat):ra tys (ja Out (Iv n)) YX n (ya [1] (ia Tryz.f98)) 0:=⟨⟨aa,⟨aa,aa⟩⟩,⟨aa,⟨⟨aa,⟨aa,aa⟩⟩,aa⟩⟩⟩
theorem Vfb (n:Nat) (s:BA):fnD tys (ja Out (Iv n)) (js n) n 98 Tryz.f98 Tryz.f69 (fcb (.pair .str .unit) (s,())) (V8 fun v=>some (.ret v))=sB n s (fun y=>some (.ret (rb (.many K12) y))):=by kernel_rfl
def LW (n:Nat):Entry:=⟨69,pcT (.pair .str .unit) (.many K12) (fun xs=>rB n xs.1),none,none⟩
theorem edb (n:Nat):EntryOk Tryz.prog gl (LW n):=Aa (l9 n) fun xs y h=>gW tys_ok (xO n) mixed (hint:=js n) (n:=n) (fn:=Tryz.f69) (f2:=Tryz.f98) Tryz.func69 zT D5 (vlb (E5 n)) (Jib (tZ n)) (ma (φ:=(fun y=>some (Out.ret (rb (.many K12) y)))) (Vfb n xs.1) (Wfb n xs.1 _) h)
def RM (n:Nat):List Entry:=LW n::Iv n
theorem MK (n:Nat):AllOk Tryz.prog gl (RM n):=.cons (edb n) (xO n)
def fw (n:Nat) {R:Type} (c:T0) (k:U2→Option R):Option R:=if (c.2.2.2.2.1 !=(0:Int))=true then if (c.2.2.2.2.1 !=(5:Int))=true then k (c.1,(c.2.1,(c.2.2.1,(c.2.2.2.1.1,(c.2.2.2.1.2.1,((1:Int),(c.2.2.2.2.2.1,(false,((⟨#[]⟩:BA),((⟨#[]⟩:BA),((0:Int),(false,((⟨0,fun _=>ua (.pair .str (.pair .str .unit))⟩:Sq U0),((⟨0,fun _=>ua .str⟩:Sq BA),())))))))))))))) else k (c.1,(c.2.1,(c.2.2.1,(c.2.2.2.1.1,(c.2.2.2.1.2.1,(c.2.2.2.2.1,(c.2.2.2.2.2.1,(false,((⟨#[]⟩:BA),((⟨#[]⟩:BA),((0:Int),(false,((⟨0,fun _=>ua (.pair .str (.pair .str .unit))⟩:Sq U0),((⟨0,fun _=>ua .str⟩:Sq BA),())))))))))))))) else k (c.1,(c.2.1,(c.2.2.1,(c.2.2.2.1.1,(c.2.2.2.1.2.1,(c.2.2.2.2.1,(c.2.2.2.2.2.1,(false,((⟨#[]⟩:BA),((⟨#[]⟩:BA),((0:Int),(false,((⟨0,fun _=>ua (.pair .str (.pair .str .unit))⟩:Sq U0),((⟨0,fun _=>ua .str⟩:Sq BA),()))))))))))))))
def cg (n:Nat) (c:T0):Option U2:=fw n c some
theorem S6 (n:Nat) {S:Type}:∀ c (φ:_→Option S),(cg n c).bind φ=fw n c φ:=by
  intros;unfold cg fw;first | (simp only [la,fa,iB,bB,oL,oX,nB,Option.bind_some]) | rfl
def XD (n:Nat):Hint OutS:={ live:=fun c=>[],run:=fun c=>none,xm:=fun c q=>none,pr:=[(0,10,25),(0,11,9)] }
theorem vU (n:Nat):ra tys (ja OutS (RM n)).keep (XD n) n (ia Tryz.f76) 0:=na (fun _=>rfl) _ _ (by kernel_rfl)
theorem sX (n:Nat):Enters Tryz.prog 76:=enters_of (c:=ia Tryz.f76) Tryz.func76 (by kernel_rfl) (by kernel_rfl)
def DN:List RSp:=[.one (.dat K0)]
def CN:List RS:=[]
def tX:List Sl:=[.top]
def uX:List RSp:=[.agg [.dat (.int .i64),.dat (.int .i64),.dat (.int .i64),.dat .str,.dat .bool,.dat (.int .i64),.dat .str,.dat .bool,.dat .str,.dat .str,.row 0,.row 1,.dat (.int .i64),.dat .bool]]
def sn:List RS:=[.row 25 2 (.pair .str (.pair .str .unit)) true true,.row 9 1 .str true true]
def nF (y:U2):OutS:=⟨false,Yo (Zc sn (y.2.2.2.2.2.2.2.2.2.2.2.2.1,(y.2.2.2.2.2.2.2.2.2.2.2.2.2.1,()))) tX (),nH (iE (Zc sn (y.2.2.2.2.2.2.2.2.2.2.2.2.1,(y.2.2.2.2.2.2.2.2.2.2.2.2.2.1,()))) uX ((y.1,(y.2.1,(y.2.2.1,(y.2.2.2.1,(y.2.2.2.2.1,(y.2.2.2.2.2.1,(y.2.2.2.2.2.2.1,(y.2.2.2.2.2.2.2.1,(y.2.2.2.2.2.2.2.2.1,(y.2.2.2.2.2.2.2.2.2.1,(y.2.2.2.2.2.2.2.2.2.2.1,(y.2.2.2.2.2.2.2.2.2.2.2.1,())))))))))))),())),Vv (Zc sn (y.2.2.2.2.2.2.2.2.2.2.2.2.1,(y.2.2.2.2.2.2.2.2.2.2.2.2.2.1,()))) sn (y.2.2.2.2.2.2.2.2.2.2.2.2.1,(y.2.2.2.2.2.2.2.2.2.2.2.2.2.1,()))⟩
theorem N0 (n:Nat):EntryOk Tryz.prog gl ⟨76,Ee,none,some (csT DN CN (fun σ ρ=>cg n σ.1.1) nF)⟩:=Ge (sX n) fun σ ρ y h=>Zf tys_ok (MK n) mixed (hint:=XD n) (n:=n) Tryz.func76 (Ba (vU n)) (ma (φ:=fun y=>some (nF y)) (by kernel_rfl) (S6 n σ.1.1 _) h)
def qz (n:Nat):List Entry:=⟨76,Ee,none,some (csT DN CN (fun σ ρ=>cg n σ.1.1) nF)⟩::RM n
theorem rz (n:Nat):AllOk Tryz.prog gl (qz n):=.cons (N0 n) (MK n)
def aC (n:Nat) {R:Type} (c:T0) (v:T1) (k:(Int×BA×Unit)→Option R):Option R:=if (c.2.2.2.2.1 !=(2:Int))=true then if (c.2.2.2.2.1 !=(3:Int))=true then k ((503:Int),((⟨#[]⟩:BA),())) else if ((c.2.2.2.2.2.2.2.2.1.n:Int)==(8:Int))=true then k ((452:Int),((⟨#[]⟩:BA),())) else (sCn n c.2.2.2.2.2.2.2.2.1 v.2.2.2.1).bind fun v1=>if v1=true then k ((250:Int),((⟨#[]⟩:BA),())) else k ((0:Int),((⟨#[114,99,112,116]⟩:BA),())) else if ((c.2.2.2.2.2.2.2.2.1.n:Int)==(8:Int))=true then k ((452:Int),((⟨#[]⟩:BA),())) else (sCn n c.2.2.2.2.2.2.2.2.1 v.2.2.2.1).bind fun v2=>if v2=true then k ((250:Int),((⟨#[]⟩:BA),())) else k ((0:Int),((⟨#[114,99,112,116]⟩:BA),()))
def pw (n:Nat) (c:T0) (v:T1):Option (Int×BA×Unit):=aC n c v some
theorem Vbb (n:Nat) {S:Type}:∀ c v (φ:_→Option S),(pw n c v).bind φ=aC n c v φ:=by
  intros;unfold pw aC;first | (simp only [la,fa,iB,bB,oL,oX,nB,Option.bind_some]) | rfl
def sI (n:Nat):Hint Out:={ live:=fun c=>[],run:=fun c=>none,xm:=fun c q=>none }
theorem MX (n:Nat):ra tys (ja Out (qz n)) (sI n) n (ia Tryz.f100) 0:=na (fun _=>rfl) _ _ (by kernel_rfl)
theorem I1 (n:Nat):Enters Tryz.prog 100:=enters_of (c:=ia Tryz.f100) Tryz.func100 (by kernel_rfl) (by kernel_rfl)
def qR (n:Nat):Entry:=⟨100,pcT K13 (.many (.pair (.int .i64) (.pair .str .unit))) (fun xs=>pw n xs.1 xs.2.1),none,none⟩
theorem j7 (n:Nat):EntryOk Tryz.prog gl (qR n):=Aa (I1 n) fun xs y h=>oa tys_ok (rz n) mixed (hint:=sI n) (n:=n) Tryz.func100 (Ba (MX n)) (ma (φ:=(fun y=>some (Out.ret (rb (.many (.pair (.int .i64) (.pair .str .unit))) y)))) (by kernel_rfl) (Vbb n xs.1 xs.2.1 _) h)
def rF (n:Nat):List Entry:=qR n::qz n
theorem dE (n:Nat):AllOk Tryz.prog gl (rF n):=.cons (j7 n) (rz n)
def Dz (n:Nat) {R:Type} (c:T0) (v:T1) (k:U14→Option R):Option R:=if (v.1==(1:Int))=true then (ke n v.2.1).bind fun v1=>if (!v1)=true then k (c,((501:Int),((⟨#[]⟩:BA),()))) else (cg n (c.1,(c.2.1,(c.2.2.1,(c.2.2.2.1,((1:Int),(v.2.1,c.2.2.2.2.2.2))))))).bind fun v2=>k ((v2.1,(v2.2.1,(v2.2.2.1,((v2.2.2.2.1,(v2.2.2.2.2.1,())),(v2.2.2.2.2.2.1,(v2.2.2.2.2.2.2.1,(v2.2.2.2.2.2.2.2.1,((v2.2.2.2.2.2.2.2.2.1,(v2.2.2.2.2.2.2.2.2.2.1,())),(v2.2.2.2.2.2.2.2.2.2.2.2.2.1,(v2.2.2.2.2.2.2.2.2.2.2.2.2.2.1,(v2.2.2.2.2.2.2.2.2.2.2.1,(v2.2.2.2.2.2.2.2.2.2.2.2.1,())))))))))))),((250:Int),((⟨#[]⟩:BA),()))) else if (v.1==(2:Int))=true then (ke n v.2.1).bind fun v3=>if (!v3)=true then k (c,((501:Int),((⟨#[]⟩:BA),()))) else (cg n (c.1,(c.2.1,(c.2.2.1,(c.2.2.2.1,((1:Int),(v.2.1,c.2.2.2.2.2.2))))))).bind fun v4=>k ((v4.1,(v4.2.1,(v4.2.2.1,((v4.2.2.2.1,(v4.2.2.2.2.1,())),(v4.2.2.2.2.2.1,(v4.2.2.2.2.2.2.1,(v4.2.2.2.2.2.2.2.1,((v4.2.2.2.2.2.2.2.2.1,(v4.2.2.2.2.2.2.2.2.2.1,())),(v4.2.2.2.2.2.2.2.2.2.2.2.2.1,(v4.2.2.2.2.2.2.2.2.2.2.2.2.2.1,(v4.2.2.2.2.2.2.2.2.2.2.1,(v4.2.2.2.2.2.2.2.2.2.2.2.1,())))))))))))),((250:Int),((⟨#[]⟩:BA),()))) else if (v.1==(6:Int))=true then (cg n c).bind fun v5=>k ((v5.1,(v5.2.1,(v5.2.2.1,((v5.2.2.2.1,(v5.2.2.2.2.1,())),(v5.2.2.2.2.2.1,(v5.2.2.2.2.2.2.1,(v5.2.2.2.2.2.2.2.1,((v5.2.2.2.2.2.2.2.2.1,(v5.2.2.2.2.2.2.2.2.2.1,())),(v5.2.2.2.2.2.2.2.2.2.2.2.2.1,(v5.2.2.2.2.2.2.2.2.2.2.2.2.2.1,(v5.2.2.2.2.2.2.2.2.2.2.1,(v5.2.2.2.2.2.2.2.2.2.2.2.1,())))))))))))),((250:Int),((⟨#[]⟩:BA),())))
 else if (v.1==(7:Int))=true then k (c,((250:Int),((⟨#[]⟩:BA),()))) else if (v.1==(9:Int))=true then k (c,((252:Int),((⟨#[]⟩:BA),()))) else if (v.1==(8:Int))=true then (cg n c).bind fun v6=>k ((v6.1,(v6.2.1,(v6.2.2.1,((v6.2.2.2.1,(v6.2.2.2.2.1,())),((5:Int),(v6.2.2.2.2.2.2.1,(v6.2.2.2.2.2.2.2.1,((v6.2.2.2.2.2.2.2.2.1,(v6.2.2.2.2.2.2.2.2.2.1,())),(v6.2.2.2.2.2.2.2.2.2.2.2.2.1,(v6.2.2.2.2.2.2.2.2.2.2.2.2.2.1,(v6.2.2.2.2.2.2.2.2.2.2.1,(v6.2.2.2.2.2.2.2.2.2.2.2.1,())))))))))))),((221:Int),((⟨#[]⟩:BA),()))) else if (v.1==(4:Int))=true then (pw n c v).bind fun v7=>k (c,(v7.1,(v7.2.1,()))) else if (v.1==(5:Int))=true then if (c.2.2.2.2.1 !=(3:Int))=true then k (c,((503:Int),((⟨#[]⟩:BA),()))) else k ((c.1,(c.2.1,(c.2.2.1,(c.2.2.2.1,((4:Int),c.2.2.2.2.2))))),((354:Int),((⟨#[]⟩:BA),()))) else if (c.2.2.2.2.1 !=(1:Int))=true then k (c,((503:Int),((⟨#[]⟩:BA),()))) else if (decide (v.2.2.2.2.1>(8192:Int)))=true then k (c,((552:Int),((⟨#[]⟩:BA),()))) else k (c,((0:Int),((⟨#[109,97,105,108]⟩:BA),())))
def AL (n:Nat) (c:T0) (v:T1):Option U14:=Dz n c v some
theorem F1 (n:Nat) {S:Type}:∀ c v (φ:_→Option S),(AL n c v).bind φ=Dz n c v φ:=by
  intros;unfold AL Dz;first | (simp only [la,fa,iB,bB,oL,oX,nB,Option.bind_some]) | rfl
def Ez (n:Nat):Hint Out:={ live:=fun c=>[],run:=fun c=>none,xm:=fun c q=>none }
theorem nR (n:Nat):ra tys (ja Out (rF n)) (Ez n) n (ia Tryz.f70) 0:=na (fun _=>rfl) _ _ (by kernel_rfl)
theorem FU (n:Nat):Enters Tryz.prog 70:=enters_of (c:=ia Tryz.f70) Tryz.func70 (by kernel_rfl) (by kernel_rfl)
def nI (n:Nat):Entry:=⟨70,pcT K13 (.many K14) (fun xs=>AL n xs.1 xs.2.1),none,none⟩
theorem KX (n:Nat):EntryOk Tryz.prog gl (nI n):=Aa (FU n) fun xs y h=>oa tys_ok (dE n) mixed (hint:=Ez n) (n:=n) Tryz.func70 (Ba (nR n)) (ma (φ:=(fun y=>some (Out.ret (rb (.many K14) y)))) (by kernel_rfl) (F1 n xs.1 xs.2.1 _) h)
def ow (n:Nat):List Entry:=nI n::rF n
theorem Ix (n:Nat):AllOk Tryz.prog gl (ow n):=.cons (KX n) (dE n)
def gw (n:Nat) {R:Type} (c c1 c2:Int) (c3:BA) (c4:Bool) (c5:Int) (c6:BA) (c7:Bool) (c8 c9:BA) (c10:Int) (c11:Bool) (r0:(Sq U0)) (r1:(Sq BA)) (k:U2→Option R):Option R:=if (c5 !=(0:Int))=true then if (c5 !=(5:Int))=true then k (c,(c1,(c2,(c3,(c4,((1:Int),(c6,(false,((⟨#[]⟩:BA),((⟨#[]⟩:BA),((0:Int),(false,((⟨0,fun _=>ua (.pair .str (.pair .str .unit))⟩:Sq U0),((⟨0,fun _=>ua .str⟩:Sq BA),())))))))))))))) else k (c,(c1,(c2,(c3,(c4,(c5,(c6,(false,((⟨#[]⟩:BA),((⟨#[]⟩:BA),((0:Int),(false,((⟨0,fun _=>ua (.pair .str (.pair .str .unit))⟩:Sq U0),((⟨0,fun _=>ua .str⟩:Sq BA),())))))))))))))) else k (c,(c1,(c2,(c3,(c4,(c5,(c6,(false,((⟨#[]⟩:BA),((⟨#[]⟩:BA),((0:Int),(false,((⟨0,fun _=>ua (.pair .str (.pair .str .unit))⟩:Sq U0),((⟨0,fun _=>ua .str⟩:Sq BA),()))))))))))))))
def Dh (n:Nat) (c c1 c2:Int) (c3:BA) (c4:Bool) (c5:Int) (c6:BA) (c7:Bool) (c8 c9:BA) (c10:Int) (c11:Bool) (r0:(Sq U0)) (r1:(Sq BA)):Option U2:=gw n c c1 c2 c3 c4 c5 c6 c7 c8 c9 c10 c11 r0 r1 some
theorem T6 (n:Nat) {S:Type}:∀ c c1 c2 c3 c4 c5 c6 c7 c8 c9 c10 c11 r0 r1 (φ:_→Option S),(Dh n c c1 c2 c3 c4 c5 c6 c7 c8 c9 c10 c11 r0 r1).bind φ=gw n c c1 c2 c3 c4 c5 c6 c7 c8 c9 c10 c11 r0 r1 φ:=by
  intros;unfold Dh gw;first | (simp only [la,fa,iB,bB,oL,oX,nB,Option.bind_some]) | rfl
def YD (n:Nat):Hint OutS:={ live:=fun c=>[],run:=fun c=>none,xm:=fun c q=>none,pr:=[(0,10,25),(0,11,9)] }
theorem wU (n:Nat):ra tys (ja OutS (ow n)).keep (YD n) n (ia Tryz.f76) 0:=na (fun _=>rfl) _ _ (by kernel_rfl)
theorem vX (n:Nat):Enters Tryz.prog 76:=enters_of (c:=ia Tryz.f76) Tryz.func76 (by kernel_rfl) (by kernel_rfl)
def FN:List RSp:=[.agg [.dat (.int .i64),.dat (.int .i64),.dat (.int .i64),.dat .str,.dat .bool,.dat (.int .i64),.dat .str,.dat .bool,.dat .str,.dat .str,.row 0,.row 1,.dat (.int .i64),.dat .bool]]
def EN:List RS:=[.row 25 2 (.pair .str (.pair .str .unit)) true true,.row 9 1 .str true true]
def xX:List Sl:=[.top]
def yX:List RSp:=[.agg [.dat (.int .i64),.dat (.int .i64),.dat (.int .i64),.dat .str,.dat .bool,.dat (.int .i64),.dat .str,.dat .bool,.dat .str,.dat .str,.row 0,.row 1,.dat (.int .i64),.dat .bool]]
def tn:List RS:=[.row 25 2 (.pair .str (.pair .str .unit)) true true,.row 9 1 .str true true]
def oF (y:U2):OutS:=⟨false,Yo (Zc tn (y.2.2.2.2.2.2.2.2.2.2.2.2.1,(y.2.2.2.2.2.2.2.2.2.2.2.2.2.1,()))) xX (),nH (iE (Zc tn (y.2.2.2.2.2.2.2.2.2.2.2.2.1,(y.2.2.2.2.2.2.2.2.2.2.2.2.2.1,()))) yX ((y.1,(y.2.1,(y.2.2.1,(y.2.2.2.1,(y.2.2.2.2.1,(y.2.2.2.2.2.1,(y.2.2.2.2.2.2.1,(y.2.2.2.2.2.2.2.1,(y.2.2.2.2.2.2.2.2.1,(y.2.2.2.2.2.2.2.2.2.1,(y.2.2.2.2.2.2.2.2.2.2.1,(y.2.2.2.2.2.2.2.2.2.2.2.1,())))))))))))),())),Vv (Zc tn (y.2.2.2.2.2.2.2.2.2.2.2.2.1,(y.2.2.2.2.2.2.2.2.2.2.2.2.2.1,()))) tn (y.2.2.2.2.2.2.2.2.2.2.2.2.1,(y.2.2.2.2.2.2.2.2.2.2.2.2.2.1,()))⟩
theorem O0 (n:Nat):EntryOk Tryz.prog gl ⟨76,Ee,none,some (csT FN EN (fun σ ρ=>Dh n σ.1.1 σ.1.2.1 σ.1.2.2.1 σ.1.2.2.2.1 σ.1.2.2.2.2.1 σ.1.2.2.2.2.2.1 σ.1.2.2.2.2.2.2.1 σ.1.2.2.2.2.2.2.2.1 σ.1.2.2.2.2.2.2.2.2.1 σ.1.2.2.2.2.2.2.2.2.2.1 σ.1.2.2.2.2.2.2.2.2.2.2.1 σ.1.2.2.2.2.2.2.2.2.2.2.2.1 ρ.1 ρ.2.1) oF)⟩:=Ge (vX n) fun σ ρ y h=>Zf tys_ok (Ix n) mixed (hint:=YD n) (n:=n) Tryz.func76 (Ba (wU n)) (ma (φ:=fun y=>some (oF y)) (by kernel_rfl) (T6 n σ.1.1 σ.1.2.1 σ.1.2.2.1 σ.1.2.2.2.1 σ.1.2.2.2.2.1 σ.1.2.2.2.2.2.1 σ.1.2.2.2.2.2.2.1 σ.1.2.2.2.2.2.2.2.1 σ.1.2.2.2.2.2.2.2.2.1 σ.1.2.2.2.2.2.2.2.2.2.1 σ.1.2.2.2.2.2.2.2.2.2.2.1 σ.1.2.2.2.2.2.2.2.2.2.2.2.1 ρ.1 ρ.2.1 _) h)
def tz (n:Nat):List Entry:=⟨76,Ee,none,some (csT FN EN (fun σ ρ=>Dh n σ.1.1 σ.1.2.1 σ.1.2.2.1 σ.1.2.2.2.1 σ.1.2.2.2.2.1 σ.1.2.2.2.2.2.1 σ.1.2.2.2.2.2.2.1 σ.1.2.2.2.2.2.2.2.1 σ.1.2.2.2.2.2.2.2.2.1 σ.1.2.2.2.2.2.2.2.2.2.1 σ.1.2.2.2.2.2.2.2.2.2.2.1 σ.1.2.2.2.2.2.2.2.2.2.2.2.1 ρ.1 ρ.2.1) oF)⟩::ow n
theorem uz (n:Nat):AllOk Tryz.prog gl (tz n):=.cons (O0 n) (Ix n)
def dg (n:Nat) {R:Type} (c c1 c2:Int) (c3:BA) (c4:Bool) (c5:Int) (c6:BA) (c7:Bool) (c8 c9:BA) (c10:Int) (c11:Bool) (v:T1) (r0:(Sq U0)) (r1:(Sq BA)) (k:U14→Option R):Option R:=if (v.1==(1:Int))=true then (ke n v.2.1).bind fun v1=>if (!v1)=true then k ((c,(c1,(c2,((c3,(c4,())),(c5,(c6,(c7,((c8,(c9,())),(r0,(r1,(c10,(c11,())))))))))))),((501:Int),((⟨#[]⟩:BA),()))) else (Dh n c c1 c2 c3 c4 (1:Int) v.2.1 c7 c8 c9 c10 c11 r0 r1).bind fun v2=>k ((v2.1,(v2.2.1,(v2.2.2.1,((v2.2.2.2.1,(v2.2.2.2.2.1,())),(v2.2.2.2.2.2.1,(v2.2.2.2.2.2.2.1,(v2.2.2.2.2.2.2.2.1,((v2.2.2.2.2.2.2.2.2.1,(v2.2.2.2.2.2.2.2.2.2.1,())),(v2.2.2.2.2.2.2.2.2.2.2.2.2.1,(v2.2.2.2.2.2.2.2.2.2.2.2.2.2.1,(v2.2.2.2.2.2.2.2.2.2.2.1,(v2.2.2.2.2.2.2.2.2.2.2.2.1,())))))))))))),((250:Int),((⟨#[]⟩:BA),()))) else if (v.1==(2:Int))=true then (ke n v.2.1).bind fun v3=>if (!v3)=true then k ((c,(c1,(c2,((c3,(c4,())),(c5,(c6,(c7,((c8,(c9,())),(r0,(r1,(c10,(c11,())))))))))))),((501:Int),((⟨#[]⟩:BA),()))) else (Dh n c c1 c2 c3 c4 (1:Int) v.2.1 c7 c8 c9 c10 c11 r0 r1).bind fun v4=>k ((v4.1,(v4.2.1,(v4.2.2.1,((v4.2.2.2.1,(v4.2.2.2.2.1,())),(v4.2.2.2.2.2.1,(v4.2.2.2.2.2.2.1,(v4.2.2.2.2.2.2.2.1,((v4.2.2.2.2.2.2.2.2.1,(v4.2.2.2.2.2.2.2.2.2.1,())),(v4.2.2.2.2.2.2.2.2.2.2.2.2.1,(v4.2.2.2.2.2.2.2.2.2.2.2.2.2.1,(v4.2.2.2.2.2.2.2.2.2.2.1,(v4.2.2.2.2.2.2.2.2.2.2.2.1,())))))))))))),((250:Int),((⟨#[]⟩:BA),())))
 else if (v.1==(6:Int))=true then (Dh n c c1 c2 c3 c4 c5 c6 c7 c8 c9 c10 c11 r0 r1).bind fun v5=>k ((v5.1,(v5.2.1,(v5.2.2.1,((v5.2.2.2.1,(v5.2.2.2.2.1,())),(v5.2.2.2.2.2.1,(v5.2.2.2.2.2.2.1,(v5.2.2.2.2.2.2.2.1,((v5.2.2.2.2.2.2.2.2.1,(v5.2.2.2.2.2.2.2.2.2.1,())),(v5.2.2.2.2.2.2.2.2.2.2.2.2.1,(v5.2.2.2.2.2.2.2.2.2.2.2.2.2.1,(v5.2.2.2.2.2.2.2.2.2.2.1,(v5.2.2.2.2.2.2.2.2.2.2.2.1,())))))))))))),((250:Int),((⟨#[]⟩:BA),()))) else if (v.1==(7:Int))=true then k ((c,(c1,(c2,((c3,(c4,())),(c5,(c6,(c7,((c8,(c9,())),(r0,(r1,(c10,(c11,())))))))))))),((250:Int),((⟨#[]⟩:BA),()))) else if (v.1==(9:Int))=true then k ((c,(c1,(c2,((c3,(c4,())),(c5,(c6,(c7,((c8,(c9,())),(r0,(r1,(c10,(c11,())))))))))))),((252:Int),((⟨#[]⟩:BA),()))) else if (v.1==(8:Int))=true then (Dh n c c1 c2 c3 c4 c5 c6 c7 c8 c9 c10 c11 r0 r1).bind fun v6=>k ((v6.1,(v6.2.1,(v6.2.2.1,((v6.2.2.2.1,(v6.2.2.2.2.1,())),((5:Int),(v6.2.2.2.2.2.2.1,(v6.2.2.2.2.2.2.2.1,((v6.2.2.2.2.2.2.2.2.1,(v6.2.2.2.2.2.2.2.2.2.1,())),(v6.2.2.2.2.2.2.2.2.2.2.2.2.1,(v6.2.2.2.2.2.2.2.2.2.2.2.2.2.1,(v6.2.2.2.2.2.2.2.2.2.2.1,(v6.2.2.2.2.2.2.2.2.2.2.2.1,())))))))))))),((221:Int),((⟨#[]⟩:BA),()))) else if (v.1==(4:Int))=true then (pw n (c,(c1,(c2,((c3,(c4,())),(c5,(c6,(c7,((c8,(c9,())),(r0,(r1,(c10,(c11,())))))))))))) v).bind fun v7=>k ((c,(c1,(c2,((c3,(c4,())),(c5,(c6,(c7,((c8,(c9,())),(r0,(r1,(c10,(c11,())))))))))))),(v7.1,(v7.2.1,())))
 else if (v.1==(5:Int))=true then if (c5 !=(3:Int))=true then k ((c,(c1,(c2,((c3,(c4,())),(c5,(c6,(c7,((c8,(c9,())),(r0,(r1,(c10,(c11,())))))))))))),((503:Int),((⟨#[]⟩:BA),()))) else k ((c,(c1,(c2,((c3,(c4,())),((4:Int),(c6,(c7,((c8,(c9,())),(r0,(r1,(c10,(c11,())))))))))))),((354:Int),((⟨#[]⟩:BA),()))) else if (c5 !=(1:Int))=true then k ((c,(c1,(c2,((c3,(c4,())),(c5,(c6,(c7,((c8,(c9,())),(r0,(r1,(c10,(c11,())))))))))))),((503:Int),((⟨#[]⟩:BA),()))) else if (decide (v.2.2.2.2.1>(8192:Int)))=true then k ((c,(c1,(c2,((c3,(c4,())),(c5,(c6,(c7,((c8,(c9,())),(r0,(r1,(c10,(c11,())))))))))))),((552:Int),((⟨#[]⟩:BA),()))) else k ((c,(c1,(c2,((c3,(c4,())),(c5,(c6,(c7,((c8,(c9,())),(r0,(r1,(c10,(c11,())))))))))))),((0:Int),((⟨#[109,97,105,108]⟩:BA),())))
def Qc (n:Nat) (c c1 c2:Int) (c3:BA) (c4:Bool) (c5:Int) (c6:BA) (c7:Bool) (c8 c9:BA) (c10:Int) (c11:Bool) (v:T1) (r0:(Sq U0)) (r1:(Sq BA)):Option U14:=dg n c c1 c2 c3 c4 c5 c6 c7 c8 c9 c10 c11 v r0 r1 some
theorem oR (n:Nat) {S:Type}:∀ c c1 c2 c3 c4 c5 c6 c7 c8 c9 c10 c11 v r0 r1 (φ:_→Option S),(Qc n c c1 c2 c3 c4 c5 c6 c7 c8 c9 c10 c11 v r0 r1).bind φ=dg n c c1 c2 c3 c4 c5 c6 c7 c8 c9 c10 c11 v r0 r1 φ:=by
  intros;unfold Qc dg;first | (simp only [la,fa,iB,bB,oL,oX,nB,Option.bind_some]) | rfl
def Kq (n:Nat):Hint OutS:={ live:=fun c=>[],run:=fun c=>none,xm:=fun c q=>none,fz:=true }
theorem oI (n:Nat):ra tys (ja OutS (tz n)) (Kq n) n (ia Tryz.f70) 0:=na (fun _=>rfl) _ _ (by kernel_rfl)
theorem BL (n:Nat):Enters Tryz.prog 70:=enters_of (c:=ia Tryz.f70) Tryz.func70 (by kernel_rfl) (by kernel_rfl)
def Mx:List RSp:=[.agg [.dat (.int .i64),.dat (.int .i64),.dat (.int .i64),.dat .str,.dat .bool,.dat (.int .i64),.dat .str,.dat .bool,.dat .str,.dat .str,.row 0,.row 1,.dat (.int .i64),.dat .bool],.one (.dat K2)]
def Kx:List RS:=[.row 25 2 (.pair .str (.pair .str .unit)) true true,.row 9 1 .str true true]
def CL:List Sl:=[.top,.top]
def DL:List RSp:=[.one (.dat K0),.one (.dat (.int .i64)),.one (.dat .str)]
def Qg:List RS:=[]
def Po (y:U14):OutS:=⟨false,Yo (Zc Qg ()) CL (),nH (iE (Zc Qg ()) DL ((y.1,()),((y.2.1,()),((y.2.2.1,()),())))),Vv (Zc Qg ()) Qg ()⟩
theorem JO (n:Nat):EntryOk Tryz.prog gl ⟨70,Ee,none,some (csT Mx Kx (fun σ ρ=>Qc n σ.1.1 σ.1.2.1 σ.1.2.2.1 σ.1.2.2.2.1 σ.1.2.2.2.2.1 σ.1.2.2.2.2.2.1 σ.1.2.2.2.2.2.2.1 σ.1.2.2.2.2.2.2.2.1 σ.1.2.2.2.2.2.2.2.2.1 σ.1.2.2.2.2.2.2.2.2.2.1 σ.1.2.2.2.2.2.2.2.2.2.2.1 σ.1.2.2.2.2.2.2.2.2.2.2.2.1 σ.2.1.1 ρ.1 ρ.2.1) Po)⟩:=Ge (BL n) fun σ ρ y h=>Kb tys_ok (uz n) mixed (hint:=Kq n) (n:=n) Tryz.func70 (Ba (oI n)) (ma (φ:=fun y=>some (Po y)) (by kernel_rfl) (oR n σ.1.1 σ.1.2.1 σ.1.2.2.1 σ.1.2.2.2.1 σ.1.2.2.2.2.1 σ.1.2.2.2.2.2.1 σ.1.2.2.2.2.2.2.1 σ.1.2.2.2.2.2.2.2.1 σ.1.2.2.2.2.2.2.2.2.1 σ.1.2.2.2.2.2.2.2.2.2.1 σ.1.2.2.2.2.2.2.2.2.2.2.1 σ.1.2.2.2.2.2.2.2.2.2.2.2.1 σ.2.1.1 ρ.1 ρ.2.1 _) h)
def dm (n:Nat):List Entry:=⟨70,Ee,none,some (csT Mx Kx (fun σ ρ=>Qc n σ.1.1 σ.1.2.1 σ.1.2.2.1 σ.1.2.2.2.1 σ.1.2.2.2.2.1 σ.1.2.2.2.2.2.1 σ.1.2.2.2.2.2.2.1 σ.1.2.2.2.2.2.2.2.1 σ.1.2.2.2.2.2.2.2.2.1 σ.1.2.2.2.2.2.2.2.2.2.1 σ.1.2.2.2.2.2.2.2.2.2.2.1 σ.1.2.2.2.2.2.2.2.2.2.2.2.1 σ.2.1.1 ρ.1 ρ.2.1) Po)⟩::tz n
theorem Qo (n:Nat):AllOk Tryz.prog gl (dm n):=.cons (JO n) (uz n)
def Bl (n:Nat) {R:Type} (c c1 c2:Int) (c3:BA) (c4:Bool) (c5:Int) (c6:BA) (c7:Bool) (c8 c9:BA) (c10:Int) (c11:Bool) (l:U9) (r0:(Sq U0)) (r1:(Sq BA)) (k:(T0×Int×BA×T1×Unit)→Option R):Option R:=if (c5==(4:Int))=true then (gg n c c1 c2 c3 c4 c5 c6 c7 c8 c9 c10 c11 l r0 r1).bind fun v=>dup 1 (k (v.1,((0:Int),(v.2.1,(((0:Int),((⟨#[]⟩:BA),(false,(((⟨#[]⟩:BA),((⟨#[]⟩:BA),())),((0:Int),()))))),()))))) else if l.2.1=true then dup 1 (k ((c,(c1,(c2,((c3,(c4,())),(c5,(c6,(c7,((c8,(c9,())),(r0,(r1,(c10,(c11,())))))))))))),((500:Int),((⟨#[]⟩:BA),(((0:Int),((⟨#[]⟩:BA),(false,(((⟨#[]⟩:BA),((⟨#[]⟩:BA),())),((0:Int),()))))),()))))) else (rB n l.1).bind fun v1=>if (v1.2.1==(0:Int))=true then (Qc n c c1 c2 c3 c4 c5 c6 c7 c8 c9 c10 c11 v1.1 r0 r1).bind fun v2=>dup 1 (k (v2.1,(v2.2.1,(v2.2.2.1,(v1.1,()))))) else if (v1.2.1==(3:Int))=true then dup 1 (k ((c,(c1,(c2,((c3,(c4,())),(c5,(c6,(c7,((c8,(c9,())),(r0,(r1,(c10,(c11,())))))))))))),((500:Int),((⟨#[]⟩:BA),(v1.1,()))))) else dup 1 (k ((c,(c1,(c2,((c3,(c4,())),(c5,(c6,(c7,((c8,(c9,())),(r0,(r1,(c10,(c11,())))))))))))),((501:Int),((⟨#[]⟩:BA),(v1.1,())))))
def ie (n:Nat) (c c1 c2:Int) (c3:BA) (c4:Bool) (c5:Int) (c6:BA) (c7:Bool) (c8 c9:BA) (c10:Int) (c11:Bool) (l:U9) (r0:(Sq U0)) (r1:(Sq BA)):Option (T0×Int×BA×T1×Unit):=Bl n c c1 c2 c3 c4 c5 c6 c7 c8 c9 c10 c11 l r0 r1 some
theorem Q0 (n:Nat) {S:Type}:∀ c c1 c2 c3 c4 c5 c6 c7 c8 c9 c10 c11 l r0 r1 (φ:_→Option S),(ie n c c1 c2 c3 c4 c5 c6 c7 c8 c9 c10 c11 l r0 r1).bind φ=Bl n c c1 c2 c3 c4 c5 c6 c7 c8 c9 c10 c11 l r0 r1 φ:=by
  intros;unfold ie Bl;first | (simp only [la,fa,iB,bB,oL,oX,nB,Option.bind_some]) | rfl
def wz (n:Nat):Hint OutS:={ live:=fun c=>[],run:=fun c=>none,xm:=fun c q=>none,sch:=fun c=>(cond (Nat.beq c 8) (some [(0,1),(2,5),(1,7),(3,6),(4,6),(5,2)]) (cond (Nat.beq c 11) (some [(0,1),(2,5),(1,7),(3,6),(4,6),(5,2)]) (cond (Nat.beq c 13) (some [(1,0),(2,0),(0,1),(4,5),(3,7),(5,6),(6,6),(7,2)]) (cond (Nat.beq c 5) (some [(0,1),(2,5),(1,7),(3,6),(4,6),(5,2)]) (cond (Nat.beq c 3) (some [(1,0),(0,1),(3,5),(2,7),(4,6),(5,6),(6,2)]) none))))),fz:=true }
theorem dR (n:Nat):ra tys (ja OutS (dm n)) (wz n) n (ia Tryz.f37) 0:=na (fun _=>rfl) _ _ (by kernel_rfl)
theorem xU (n:Nat):Enters Tryz.prog 37:=enters_of (c:=ia Tryz.f37) Tryz.func37 (by kernel_rfl) (by kernel_rfl)
def kI:List RSp:=[.agg [.dat (.int .i64),.dat (.int .i64),.dat (.int .i64),.dat .str,.dat .bool,.dat (.int .i64),.dat .str,.dat .bool,.dat .str,.dat .str,.row 0,.row 1,.dat (.int .i64),.dat .bool],.one (.dat (.pair .str (.pair .bool .unit)))]
def jI:List RS:=[.row 25 2 (.pair .str (.pair .str .unit)) true true,.row 9 1 .str true true]
def yU:List Sl:=[.top,.top]
def zU:List RSp:=[.one (.dat K0),.one (.dat (.int .i64)),.one (.dat .str),.one (.dat K2)]
def Hk:List RS:=[]
def vz (y:(T0×Int×BA×T1×Unit)):OutS:=⟨false,Yo (Zc Hk ()) yU (),nH (iE (Zc Hk ()) zU ((y.1,()),((y.2.1,()),((y.2.2.1,()),((y.2.2.2.1,()),()))))),Vv (Zc Hk ()) Hk ()⟩
theorem zX (n:Nat):EntryOk Tryz.prog gl ⟨37,Ee,none,some (csT kI jI (fun σ ρ=>ie n σ.1.1 σ.1.2.1 σ.1.2.2.1 σ.1.2.2.2.1 σ.1.2.2.2.2.1 σ.1.2.2.2.2.2.1 σ.1.2.2.2.2.2.2.1 σ.1.2.2.2.2.2.2.2.1 σ.1.2.2.2.2.2.2.2.2.1 σ.1.2.2.2.2.2.2.2.2.2.1 σ.1.2.2.2.2.2.2.2.2.2.2.1 σ.1.2.2.2.2.2.2.2.2.2.2.2.1 σ.2.1.1 ρ.1 ρ.2.1) vz)⟩:=Ge (xU n) fun σ ρ y h=>Kb tys_ok (Qo n) mixed (hint:=wz n) (n:=n) Tryz.func37 (Ba (dR n)) (ma (φ:=fun y=>some (vz y)) (by kernel_rfl) (Q0 n σ.1.1 σ.1.2.1 σ.1.2.2.1 σ.1.2.2.2.1 σ.1.2.2.2.2.1 σ.1.2.2.2.2.2.1 σ.1.2.2.2.2.2.2.1 σ.1.2.2.2.2.2.2.2.1 σ.1.2.2.2.2.2.2.2.2.1 σ.1.2.2.2.2.2.2.2.2.2.1 σ.1.2.2.2.2.2.2.2.2.2.2.1 σ.1.2.2.2.2.2.2.2.2.2.2.2.1 σ.2.1.1 ρ.1 ρ.2.1 _) h)
def iw (n:Nat):List Entry:=⟨37,Ee,none,some (csT kI jI (fun σ ρ=>ie n σ.1.1 σ.1.2.1 σ.1.2.2.1 σ.1.2.2.2.1 σ.1.2.2.2.2.1 σ.1.2.2.2.2.2.1 σ.1.2.2.2.2.2.2.1 σ.1.2.2.2.2.2.2.2.1 σ.1.2.2.2.2.2.2.2.2.1 σ.1.2.2.2.2.2.2.2.2.2.1 σ.1.2.2.2.2.2.2.2.2.2.2.1 σ.1.2.2.2.2.2.2.2.2.2.2.2.1 σ.2.1.1 ρ.1 ρ.2.1) vz)⟩::dm n
theorem Fx (n:Nat):AllOk Tryz.prog gl (iw n):=.cons (zX n) (Qo n)
def YB (n:Nat) {R:Type} (c:T0) (l:U9) (k:(T0×Int×BA×Int×Unit)→Option R):Option R:=(HO n c).bind fun v=>if (!v)=true then k (((0:Int),((0:Int),((0:Int),(((⟨#[]⟩:BA),(false,())),((0:Int),((⟨#[]⟩:BA),(false,(((⟨#[]⟩:BA),((⟨#[]⟩:BA),())),((⟨0,fun _=>ua (.pair .str (.pair .str .unit))⟩:Sq U0),((⟨0,fun _=>ua .str⟩:Sq BA),((0:Int),(false,())))))))))))),((0:Int),((⟨#[]⟩:BA),((1:Int),())))) else if (c.2.2.2.2.1==(5:Int))=true then k (((0:Int),((0:Int),((0:Int),(((⟨#[]⟩:BA),(false,())),((0:Int),((⟨#[]⟩:BA),(false,(((⟨#[]⟩:BA),((⟨#[]⟩:BA),())),((⟨0,fun _=>ua (.pair .str (.pair .str .unit))⟩:Sq U0),((⟨0,fun _=>ua .str⟩:Sq BA),((0:Int),(false,())))))))))))),((0:Int),((⟨#[]⟩:BA),((6:Int),())))) else dup 1 ((Kh n c).bind fun v1=>(ie n v1.1 v1.2.1 v1.2.2.1 v1.2.2.2.1 v1.2.2.2.2.1 v1.2.2.2.2.2.1 v1.2.2.2.2.2.2.1 v1.2.2.2.2.2.2.2.1 v1.2.2.2.2.2.2.2.2.1 v1.2.2.2.2.2.2.2.2.2.1 v1.2.2.2.2.2.2.2.2.2.2.1 v1.2.2.2.2.2.2.2.2.2.2.2.1 l v1.2.2.2.2.2.2.2.2.2.2.2.2.1 v1.2.2.2.2.2.2.2.2.2.2.2.2.2.1).bind fun v2=>(Kh n v2.1).bind fun v3=>k ((v3.1,(v3.2.1,(v3.2.2.1,((v3.2.2.2.1,(v3.2.2.2.2.1,())),(v3.2.2.2.2.2.1,(v3.2.2.2.2.2.2.1,(v3.2.2.2.2.2.2.2.1,((v3.2.2.2.2.2.2.2.2.1,(v3.2.2.2.2.2.2.2.2.2.1,())),(v3.2.2.2.2.2.2.2.2.2.2.2.2.1,(v3.2.2.2.2.2.2.2.2.2.2.2.2.2.1,(v3.2.2.2.2.2.2.2.2.2.2.1,(v3.2.2.2.2.2.2.2.2.2.2.2.1,())))))))))))),(v2.2.1,(v2.2.2.1,((0:Int),())))))
def xz (n:Nat) (c:T0) (l:U9):Option (T0×Int×BA×Int×Unit):=YB n c l some
theorem Ngb (n:Nat) {S:Type}:∀ c l (φ:_→Option S),(xz n c l).bind φ=YB n c l φ:=by
  intros;unfold xz YB;first | (simp only [la,fa,iB,bB,oL,oX,nB,Option.bind_some]) | rfl
def fR (n:Nat):Hint Out:={ live:=fun c=>[],run:=fun c=>none,xm:=fun c q=>none,sch:=fun c=>(cond (Nat.beq c 5) (some [(0,1),(1,5),(2,7),(3,2),(4,6),(5,6),(6,6),(7,6),(8,6),(9,2),(10,6),(11,6)]) none) }
theorem W6 (n:Nat):ra tys (ja Out (iw n)) (fR n) n (ia Tryz.f17) 0:=na (fun _=>rfl) _ _ (by kernel_rfl)
theorem Pbb (n:Nat):Enters Tryz.prog 17:=enters_of (c:=ia Tryz.f17) Tryz.func17 (by kernel_rfl) (by kernel_rfl)
def R0 (n:Nat):Entry:=⟨17,pcT K16 (.many K15) (fun xs=>xz n xs.1 xs.2.1),none,none⟩
theorem Sdb (n:Nat):EntryOk Tryz.prog gl (R0 n):=Aa (Pbb n) fun xs y h=>oa tys_ok (Fx n) mixed (hint:=fR n) (n:=n) Tryz.func17 (Ba (W6 n)) (ma (φ:=(fun y=>some (Out.ret (rb (.many K15) y)))) (by kernel_rfl) (Ngb n xs.1 xs.2.1 _) h)
def eR (n:Nat):List Entry:=R0 n::iw n
theorem JN (n:Nat):AllOk Tryz.prog gl (eR n):=.cons (Sdb n) (Fx n)
def AZ (n:Nat) {R:Type} (e:Int) (k:Int→Option R):Option R:=k e
def Ii (n:Nat) (e:Int):Option Int:=AZ n e some
theorem kib (n:Nat) {S:Type}:∀ e (φ:_→Option S),(Ii n e).bind φ=AZ n e φ:=by
  intros;unfold Ii AZ;first | (simp only [la,fa,iB,bB,oL,oX,nB,Option.bind_some]) | rfl
def YT (n:Nat):Hint Out:={ live:=fun c=>[],run:=fun c=>none,xm:=fun c q=>none }
theorem F9 (n:Nat):ra tys (ja Out (eR n)) (YT n) n (ia Tryz.f18) 0:=na (fun _=>rfl) _ _ (by kernel_rfl)
theorem sdb (n:Nat):Enters Tryz.prog 18:=enters_of (c:=ia Tryz.f18) Tryz.func18 (by kernel_rfl) (by kernel_rfl)
def d6 (n:Nat):Entry:=⟨18,pcT (.pair (.int .i64) .unit) (.one (.int .i64)) (fun xs=>Ii n xs.1),none,none⟩
theorem mgb (n:Nat):EntryOk Tryz.prog gl (d6 n):=Aa (sdb n) fun xs y h=>oa tys_ok (JN n) mixed (hint:=YT n) (n:=n) Tryz.func18 (Ba (F9 n)) (ma (φ:=(fun y=>some (Out.ret (rb (.one (.int .i64)) y)))) (by kernel_rfl) (kib n xs.1 _) h)
def PB (n:Nat):List Entry:=d6 n::eR n
theorem BO (n:Nat):AllOk Tryz.prog gl (PB n):=.cons (mgb n) (JN n)
def Xc (n:Nat) {R:Type} (a1 b1:(Sq U0)) (i:Int) (kn:(Sq U0)→(Sq U0)→Int→Option R) (ko:(Unit)→Option R) (kr:(Bool)→Option R) (kp:Int→Option R):Option R:=if (decide (i<(a1.n:Int)))=true then if 0≤i∧i<(a1.n:Int) then if 0≤i∧i<(b1.n:Int) then if (!(((((a1.at' (Int.toNat i))).1).toList==(((b1.at' (Int.toNat i))).1).toList)&&((((((a1.at' (Int.toNat i))).2).1).toList==((((b1.at' (Int.toNat i))).2).1).toList)&&true)))=true then kr false else kn a1 b1 (IntKind.wrap .i64 (i+(1:Int))) else none else none else ko ()
def Za (n:Nat):Nat→(Sq U0)→(Sq U0)→Int→Option (Lx (Unit) (Bool))
 | 0,_,_,_=>none
 | m+1,a1,b1,i=>Xc n a1 b1 i (Za n m) (fun a=>some (.out a)) (fun a=>some (.ret a)) (fun p=>some (.pan p))
theorem AF (n m:Nat) {S:Type}:∀ a1 b1 i (φ:_→Option S),(Za n (m+1) a1 b1 i).bind φ=Xc n a1 b1 i (fun a1 b1 i=>(Za n m a1 b1 i).bind φ) (fun a=>φ (.out a)) (fun a=>φ (.ret a)) (fun p=>φ (.pan p)):=by
  intros;first | (simp only [Za,Xc,la,fa,iB,bB,oL,oX,nB,Option.bind_some]) | rfl
def xh:List Sl:=.dat (.sl (.pair .str (.pair .str .unit)))::.dat (.sl (.pair .str (.pair .str .unit)))::.top::.top::.top::.dat (.int .i64)::tp 20 []
def wh:List RS:=[]
def Mu:List Sl:=tp 26 []
def Lu:List RS:=[]
def Ou:List Sl:=tp 4 (.dat .bool::tp 21 [])
def Nu:List RS:=[]
def Fb (K:XE→List AV→pa→Option Out):Lx (Unit) (Bool)→Option Out:=fun x=>onL x (fun a=>vc Mu Lu () () (K (.exit 0))) (fun a=>vc Ou Nu (a,()) () (K .ret)) (fun _=>none)
def Mh (n:Nat) {R:Type} (a b:(Sq U0)) (k:Bool→Option R):Option R:=if ((a.n:Int) !=(b.n:Int))=true then k false else (Za n n a b (0:Int)).bind fun x_1=>onL x_1 (fun a_2=>k true) (fun a_3=>k a_3) (fun _=>none)
def Kf (n:Nat) (a b:(Sq U0)):Option Bool:=Mh n a b some
theorem ZO (n:Nat) {S:Type}:∀ a b (φ:_→Option S),(Kf n a b).bind φ=Mh n a b φ:=by
  intros;unfold Kf Mh;first | (simp only [la,fa,iB,bB,oL,oX,nB,Option.bind_some]) | rfl
def Ze (n:Nat):Hint Out:={ live:=fun c=>(cond (Nat.beq c 0) [(0,some (.sl (.pair .str (.pair .str .unit)))),(1,some (.sl (.pair .str (.pair .str .unit)))),(5,none)] []),run:=fun c=>(cond (Nat.beq c 0) (some (Ng xh wh fun σ ρ K=>(Za n n σ.1 σ.2.1 σ.2.2.1).bind (Fb K))) none),xm:=fun c q=>(cond (Nat.beq c 0&&Nat.beq (q.getD 1000000) 0&&q.isSome) (some []) (cond (Nat.beq c 1&&q.isNone) (some [(4,none)]) none)) }
def Ye (n:Nat) (K:XE→List AV→pa→Option Out) (m:Nat) (a1:(Sq U0)) (b1:(Sq U0)) (i:Int):Option Out:=Oc tys (ja Out (PB n)) (Ze n) n (ya [1,1,0,1,0,0] (ia Tryz.f39)) 0 xh wh K m (a1,(b1,(i,()))) ()
theorem xp (n:Nat) (K:XE→List AV→pa→Option Out):∀ (m:Nat) a1 b1 i,Ye n K m a1 b1 i=(Za n m a1 b1 i).bind (Fb K)
  | 0,_,_,_=>by kernel_rfl
  | m+1,a1,b1,i=>by
    have h1:Ye n K (m+1) a1 b1 i=Xc n a1 b1 i (Ye n K m) (fun a=>Fb K (.out a)) (fun a=>Fb K (.ret a)) (fun p=>Fb K (.pan p)):=by kernel_rfl
    have h2:Ye n K m=fun a1 b1 i=>(Za n m a1 b1 i).bind (Fb K):=by
      repeat (refine funext fun _=>?_)
      exact xp n K m _ _ _
    rw [h1,h2];exact (AF n m _ _ _ (Fb K)).symm
theorem kD (n:Nat):yc tys (ja Out (PB n)) (Ze n) n (ya [1,1,0,1,0,0] (ia Tryz.f39)) 0:=Fa (sp:=xh) (rp:=wh) (by kernel_rfl) fun K σ ρ=>xp n K n σ.1 σ.2.1 σ.2.2.1
theorem BF (n:Nat):ra tys (ja Out (PB n)) (Ze n) n (ia Tryz.f39) 0:=⟨aa,⟨⟨aa,⟨⟨aa,aa⟩,aa⟩⟩,⟨⟨aa,⟨kD n,⟨⟨aa,⟨aa,aa⟩⟩,⟨⟨aa,⟨⟨aa,aa⟩,aa⟩⟩,aa⟩⟩⟩⟩,⟨aa,aa⟩⟩⟩⟩
theorem OI (n:Nat):Enters Tryz.prog 39:=enters_of (c:=ia Tryz.f39) Tryz.func39 (by kernel_rfl) (by kernel_rfl)
def Pu (n:Nat):Entry:=⟨39,pcT K17 (.one .bool) (fun xs=>Kf n xs.1 xs.2.1),none,none⟩
theorem YL (n:Nat):EntryOk Tryz.prog gl (Pu n):=Aa (OI n) fun xs y h=>oa tys_ok (BO n) mixed (hint:=Ze n) (n:=n) Tryz.func39 (Ba (BF n)) (ma (φ:=(fun y=>some (Out.ret (rb (.one .bool) y)))) (by kernel_rfl) (ZO n xs.1 xs.2.1 _) h)
def qe (n:Nat):List Entry:=Pu n::PB n
theorem Im (n:Nat):AllOk Tryz.prog gl (qe n):=.cons (YL n) (BO n)
def se (n:Nat) {R:Type} (a1 b1:(Sq BA)) (i:Int) (kn:(Sq BA)→(Sq BA)→Int→Option R) (ko:(Unit)→Option R) (kr:(Bool)→Option R) (kp:Int→Option R):Option R:=if (decide (i<(a1.n:Int)))=true then if 0≤i∧i<(a1.n:Int) then if 0≤i∧i<(b1.n:Int) then if (!((a1.at' (Int.toNat i)).toList==(b1.at' (Int.toNat i)).toList))=true then kr false else kn a1 b1 (IntKind.wrap .i64 (i+(1:Int))) else none else none else ko ()
def ob (n:Nat):Nat→(Sq BA)→(Sq BA)→Int→Option (Lx (Unit) (Bool))
 | 0,_,_,_=>none
 | m+1,a1,b1,i=>se n a1 b1 i (ob n m) (fun a=>some (.out a)) (fun a=>some (.ret a)) (fun p=>some (.pan p))
theorem ZL (n m:Nat) {S:Type}:∀ a1 b1 i (φ:_→Option S),(ob n (m+1) a1 b1 i).bind φ=se n a1 b1 i (fun a1 b1 i=>(ob n m a1 b1 i).bind φ) (fun a=>φ (.out a)) (fun a=>φ (.ret a)) (fun p=>φ (.pan p)):=by
  intros;first | (simp only [ob,se,la,fa,iB,bB,oL,oX,nB,Option.bind_some]) | rfl
def Ui:List Sl:=.dat (.sl .str)::.dat (.sl .str)::.top::.top::.top::.dat (.int .i64)::tp 20 []
def Ti:List RS:=[]
def ky:List Sl:=tp 26 []
def jy:List RS:=[]
def my:List Sl:=tp 4 (.dat .bool::tp 21 [])
def ly:List RS:=[]
def mc (K:XE→List AV→pa→Option Out):Lx (Unit) (Bool)→Option Out:=fun x=>onL x (fun a=>vc ky jy () () (K (.exit 0))) (fun a=>vc my ly (a,()) () (K .ret)) (fun _=>none)
def Nk (n:Nat) {R:Type} (a b:(Sq BA)) (k:Bool→Option R):Option R:=if ((a.n:Int) !=(b.n:Int))=true then k false else (ob n n a b (0:Int)).bind fun x_1=>onL x_1 (fun a_2=>k true) (fun a_3=>k a_3) (fun _=>none)
def xi (n:Nat) (a b:(Sq BA)):Option Bool:=Nk n a b some
theorem aV (n:Nat) {S:Type}:∀ a b (φ:_→Option S),(xi n a b).bind φ=Nk n a b φ:=by
  intros;unfold xi Nk;first | (simp only [la,fa,iB,bB,oL,oX,nB,Option.bind_some]) | rfl
def Tg (n:Nat):Hint Out:={ live:=fun c=>(cond (Nat.beq c 0) [(0,some (.sl .str)),(1,some (.sl .str)),(5,none)] []),run:=fun c=>(cond (Nat.beq c 0) (some (Ng Ui Ti fun σ ρ K=>(ob n n σ.1 σ.2.1 σ.2.2.1).bind (mc K))) none),xm:=fun c q=>(cond (Nat.beq c 0&&Nat.beq (q.getD 1000000) 0&&q.isSome) (some []) (cond (Nat.beq c 1&&q.isNone) (some [(4,none)]) none)) }
def Sg (n:Nat) (K:XE→List AV→pa→Option Out) (m:Nat) (a1:(Sq BA)) (b1:(Sq BA)) (i:Int):Option Out:=Oc tys (ja Out (qe n)) (Tg n) n (ya [1,1,0,1,0,0] (ia Tryz.f40)) 0 Ui Ti K m (a1,(b1,(i,()))) ()
theorem Qu (n:Nat) (K:XE→List AV→pa→Option Out):∀ (m:Nat) a1 b1 i,Sg n K m a1 b1 i=(ob n m a1 b1 i).bind (mc K)
  | 0,_,_,_=>by kernel_rfl
  | m+1,a1,b1,i=>by
    have h1:Sg n K (m+1) a1 b1 i=se n a1 b1 i (Sg n K m) (fun a=>mc K (.out a)) (fun a=>mc K (.ret a)) (fun p=>mc K (.pan p)):=by kernel_rfl
    have h2:Sg n K m=fun a1 b1 i=>(ob n m a1 b1 i).bind (mc K):=by
      repeat (refine funext fun _=>?_)
      exact Qu n K m _ _ _
    rw [h1,h2];exact (ZL n m _ _ _ (mc K)).symm
theorem PI (n:Nat):yc tys (ja Out (qe n)) (Tg n) n (ya [1,1,0,1,0,0] (ia Tryz.f40)) 0:=Fa (sp:=Ui) (rp:=Ti) (by kernel_rfl) fun K σ ρ=>Qu n K n σ.1 σ.2.1 σ.2.2.1
theorem aM (n:Nat):ra tys (ja Out (qe n)) (Tg n) n (ia Tryz.f40) 0:=⟨aa,⟨⟨aa,⟨⟨aa,aa⟩,aa⟩⟩,⟨⟨aa,⟨PI n,⟨⟨aa,⟨aa,aa⟩⟩,⟨⟨aa,⟨⟨aa,aa⟩,aa⟩⟩,aa⟩⟩⟩⟩,⟨aa,aa⟩⟩⟩⟩
theorem aP (n:Nat):Enters Tryz.prog 40:=enters_of (c:=ia Tryz.f40) Tryz.func40 (by kernel_rfl) (by kernel_rfl)
def kA (n:Nat):Entry:=⟨40,pcT (.pair (.sl .str) (.pair (.sl .str) .unit)) (.one .bool) (fun xs=>xi n xs.1 xs.2.1),none,none⟩
theorem aS (n:Nat):EntryOk Tryz.prog gl (kA n):=Aa (aP n) fun xs y h=>oa tys_ok (Im n) mixed (hint:=Tg n) (n:=n) Tryz.func40 (Ba (aM n)) (ma (φ:=(fun y=>some (Out.ret (rb (.one .bool) y)))) (by kernel_rfl) (aV n xs.1 xs.2.1 _) h)
def yp (n:Nat):List Entry:=kA n::qe n
theorem Xq (n:Nat):AllOk Tryz.prog gl (yp n):=.cons (aS n) (Im n)
def An (n:Nat) {R:Type} (a b:T0) (k:Bool→Option R):Option R:=if (a.1==b.1)=true then if (a.2.1==b.2.1)=true then if (a.2.2.1==b.2.2.1)=true then if ((a.2.2.2.1.1.toList==b.2.2.2.1.1.toList)&&((a.2.2.2.1.2.1==b.2.2.2.1.2.1)&&true))=true then if (a.2.2.2.2.1==b.2.2.2.2.1)=true then if (a.2.2.2.2.2.1.toList==b.2.2.2.2.2.1.toList)=true then if (a.2.2.2.2.2.2.1==b.2.2.2.2.2.2.1)=true then if ((a.2.2.2.2.2.2.2.1.1.toList==b.2.2.2.2.2.2.2.1.1.toList)&&((a.2.2.2.2.2.2.2.1.2.1.toList==b.2.2.2.2.2.2.2.1.2.1.toList)&&true))=true then (Kf n a.2.2.2.2.2.2.2.2.1 b.2.2.2.2.2.2.2.2.1).bind fun v=>if v=true then (xi n a.2.2.2.2.2.2.2.2.2.1 b.2.2.2.2.2.2.2.2.2.1).bind fun v1=>if v1=true then if (a.2.2.2.2.2.2.2.2.2.2.1==b.2.2.2.2.2.2.2.2.2.2.1)=true then k (a.2.2.2.2.2.2.2.2.2.2.2.1==b.2.2.2.2.2.2.2.2.2.2.2.1) else k false else k false else k false else k false else k false else k false else k false else k false else k false else k false else k false
def za (n:Nat) (a b:T0):Option Bool:=An n a b some
theorem nY (n:Nat) {S:Type}:∀ a b (φ:_→Option S),(za n a b).bind φ=An n a b φ:=by
  intros;unfold za An;first | (simp only [la,fa,iB,bB,oL,oX,nB,Option.bind_some]) | rfl
def Rx (n:Nat):Hint Out:={ live:=fun c=>[],run:=fun c=>none,xm:=fun c q=>none }
theorem YO (n:Nat):ra tys (ja Out (yp n)) (Rx n) n (ia Tryz.f19) 0:=na (fun _=>rfl) _ _ (by kernel_rfl)
theorem ZR (n:Nat):Enters Tryz.prog 19:=enters_of (c:=ia Tryz.f19) Tryz.func19 (by kernel_rfl) (by kernel_rfl)
def mE (n:Nat):Entry:=⟨19,pcT K18 (.one .bool) (fun xs=>za n xs.1 xs.2.1),none,none⟩
theorem ZU (n:Nat):EntryOk Tryz.prog gl (mE n):=Aa (ZR n) fun xs y h=>oa tys_ok (Xq n) mixed (hint:=Rx n) (n:=n) Tryz.func19 (Ba (YO n)) (ma (φ:=(fun y=>some (Out.ret (rb (.one .bool) y)))) (by kernel_rfl) (nY n xs.1 xs.2.1 _) h)
def ft (n:Nat):List Entry:=mE n::yp n
theorem Ku (n:Nat):AllOk Tryz.prog gl (ft n):=.cons (ZU n) (Xq n)
def kQ (n:Nat) {R:Type} (id tenant ip:Int) (k:(T0×Int×Unit)→Option R):Option R:=(HO n (id,(tenant,(ip,(((⟨#[]⟩:BA),(false,())),((0:Int),((⟨#[]⟩:BA),(false,(((⟨#[]⟩:BA),((⟨#[]⟩:BA),())),((⟨0,fun _=>ua (.pair .str (.pair .str .unit))⟩:Sq U0),((⟨0,fun _=>ua .str⟩:Sq BA),((0:Int),(false,()))))))))))))).bind fun v=>if (!v)=true then k (((0:Int),((0:Int),((0:Int),(((⟨#[]⟩:BA),(false,())),((0:Int),((⟨#[]⟩:BA),(false,(((⟨#[]⟩:BA),((⟨#[]⟩:BA),())),((⟨0,fun _=>ua (.pair .str (.pair .str .unit))⟩:Sq U0),((⟨0,fun _=>ua .str⟩:Sq BA),((0:Int),(false,())))))))))))),((1:Int),())) else k ((id,(tenant,(ip,(((⟨#[]⟩:BA),(false,())),((0:Int),((⟨#[]⟩:BA),(false,(((⟨#[]⟩:BA),((⟨#[]⟩:BA),())),((⟨0,fun _=>ua (.pair .str (.pair .str .unit))⟩:Sq U0),((⟨0,fun _=>ua .str⟩:Sq BA),((0:Int),(false,())))))))))))),((0:Int),()))
def mW (n:Nat) (id tenant ip:Int):Option (T0×Int×Unit):=kQ n id tenant ip some
theorem Pgb (n:Nat) {S:Type}:∀ id tenant ip (φ:_→Option S),(mW n id tenant ip).bind φ=kQ n id tenant ip φ:=by
  intros;unfold mW kQ;first | (simp only [la,fa,iB,bB,oL,oX,nB,Option.bind_some]) | rfl
def jR (n:Nat):Hint Out:={ live:=fun c=>[],run:=fun c=>none,xm:=fun c q=>none }
theorem Z6 (n:Nat):ra tys (ja Out (ft n)) (jR n) n (ia Tryz.f41) 0:=na (fun _=>rfl) _ _ (by kernel_rfl)
theorem Rbb (n:Nat):Enters Tryz.prog 41:=enters_of (c:=ia Tryz.f41) Tryz.func41 (by kernel_rfl) (by kernel_rfl)
def S0 (n:Nat):Entry:=⟨41,pcT (.pair (.int .i64) (.pair (.int .i64) (.pair (.int .i64) .unit))) (.many K19) (fun xs=>mW n xs.1 xs.2.1 xs.2.2.1),none,none⟩
theorem Udb (n:Nat):EntryOk Tryz.prog gl (S0 n):=Aa (Rbb n) fun xs y h=>oa tys_ok (Ku n) mixed (hint:=jR n) (n:=n) Tryz.func41 (Ba (Z6 n)) (ma (φ:=(fun y=>some (Out.ret (rb (.many K19) y)))) (by kernel_rfl) (Pgb n xs.1 xs.2.1 xs.2.2.1 _) h)
def iR (n:Nat):List Entry:=S0 n::ft n
theorem LN (n:Nat):AllOk Tryz.prog gl (iR n):=.cons (Udb n) (Ku n)
def WC (n:Nat) {R:Type} (k:Bool→Option R):Option R:=(mW n (1:Int) (0:Int) (5:Int)).bind fun v=>(xz n v.1 ((⟨#[69,72,76,79,32,120]⟩:BA),(false,()))).bind fun v1=>(Ii n v.2.1).bind fun v2=>if (v2==(0:Int))=true then (Ii n v1.2.2.2.1).bind fun v3=>if (v3==(0:Int))=true then if (v1.2.1==(250:Int))=true then if (v1.2.2.1.toList==(⟨#[]⟩:BA).toList)=true then if (v1.1.2.2.2.2.1==(1:Int))=true then k (v1.1.2.2.2.2.2.1.toList==(⟨#[120]⟩:BA).toList) else k false else k false else k false else k false else k false
def Ks (n:Nat):Option Bool:=WC n some
theorem tdb (n:Nat) {S:Type}:∀ (φ:_→Option S),(Ks n).bind φ=WC n φ:=by
  intros;unfold Ks WC;first | (simp only [la,fa,iB,bB,oL,oX,nB,Option.bind_some]) | rfl
def mL (n:Nat):Hint Out:={ live:=fun c=>[],run:=fun c=>none,xm:=fun c q=>none }
theorem DZ (n:Nat):ra tys (ja Out (iR n)) (mL n) n (ia Tryz.f20) 0:=na (fun _=>rfl) _ _ (by kernel_rfl)
theorem l6 (n:Nat):Enters Tryz.prog 20:=enters_of (c:=ia Tryz.f20) Tryz.func20 (by kernel_rfl) (by kernel_rfl)
def aU (n:Nat):Entry:=⟨20,pcT .unit (.one .bool) (fun xs=>Ks n),none,none⟩
theorem I9 (n:Nat):EntryOk Tryz.prog gl (aU n):=Aa (l6 n) fun xs y h=>oa tys_ok (LN n) mixed (hint:=mL n) (n:=n) Tryz.func20 (Ba (DZ n)) (ma (φ:=(fun y=>some (Out.ret (rb (.one .bool) y)))) (by kernel_rfl) (tdb n  _) h)
def wq (n:Nat):List Entry:=aU n::iR n
theorem dF (n:Nat):AllOk Tryz.prog gl (wq n):=.cons (I9 n) (LN n)
def yb (n:Nat) {R:Type} (l1:(Sq U0)) (i:Int) (m0:(Sq U0)) (kn:(Sq U0)→Int→(Sq U0)→Option R) (ko:((Sq U0))→Option R) (kr:Unit→Option R) (kp:Int→Option R):Option R:=if (decide (i<(l1.n:Int)))=true then if 0≤i∧i<(l1.n:Int) then if zb (m0.n+1) 32=true then kn l1 (IntKind.wrap .i64 (i+(1:Int))) (⟨(m0.n+1),fun q=>if q<m0.n then m0.at' q else (fun q=>List.getD (α:=U0) [(((l1.at' (Int.toNat i))).1,((((l1.at' (Int.toNat i))).2).1,()))] q (ua (.pair .str (.pair .str .unit)))) (q - m0.n)⟩:Sq U0) else none else none else ko m0
def Ha (n:Nat):Nat→(Sq U0)→Int→(Sq U0)→Option (Lx ((Sq U0)) Unit)
 | 0,_,_,_=>none
 | m+1,l1,i,m0=>yb n l1 i m0 (Ha n m) (fun a=>some (.out a)) (fun a=>some (.ret a)) (fun p=>some (.pan p))
theorem Iu (n m:Nat) {S:Type}:∀ l1 i m0 (φ:_→Option S),(Ha n (m+1) l1 i m0).bind φ=yb n l1 i m0 (fun l1 i m0=>(Ha n m l1 i m0).bind φ) (fun a=>φ (.out a)) (fun a=>φ (.ret a)) (fun p=>φ (.pan p)):=by
  intros;first | (simp only [Ha,yb,la,fa,iB,bB,oL,oX,nB,Option.bind_some]) | rfl
def Xd:List Sl:=.dat (.sl (.pair .str (.pair .str .unit)))::.top::.top::.row 0::.dat (.int .i64)::tp 14 []
def Wd:List RS:=[.row 25 2 (.pair .str (.pair .str .unit)) true false,.ghost [.top]]
def jm:List Sl:=.top::.top::.top::.row 0::tp 15 []
def im:List RS:=[.row 25 2 (.pair .str (.pair .str .unit)) true false,.ghost [.top]]
def Ya (K:XE→List AV→pa→Option OutS):Lx ((Sq U0)) Unit→Option OutS:=fun x=>onL x (fun a=>vc jm im () (a,((),())) (K (.exit 0))) (fun _=>none) (fun _=>none)
def Nd (n:Nat) {R:Type} (l:(Sq U0)) (k:((Sq U0)×Unit)→Option R):Option R:=(Ha n n l (0:Int) (⟨0,fun _=>ua (.pair .str (.pair .str .unit))⟩:Sq U0)).bind fun x_1=>onL x_1 (fun a_2=>k (a_2,())) (fun _=>none) (fun _=>none)
def nb (n:Nat) (l:(Sq U0)):Option ((Sq U0)×Unit):=Nd n l some
theorem fA (n:Nat) {S:Type}:∀ l (φ:_→Option S),(nb n l).bind φ=Nd n l φ:=by
  intros;unfold nb Nd;first | (simp only [la,fa,iB,bB,oL,oX,nB,Option.bind_some]) | rfl
def Ic (n:Nat):Hint OutS:={ live:=fun c=>(cond (Nat.beq c 0) [(0,some (.sl (.pair .str (.pair .str .unit)))),(3,some (.sl (.pair .str (.pair .str .unit)))),(4,none)] []),run:=fun c=>(cond (Nat.beq c 0) (some (Ng Xd Wd fun σ ρ K=>(Ha n n σ.1 σ.2.1 ρ.1).bind (Ya K))) none),xm:=fun c q=>(cond (Nat.beq c 0&&Nat.beq (q.getD 1000000) 0&&q.isSome) (some [(3,some (.sl (.pair .str (.pair .str .unit))))]) none) }
def Hc (n:Nat) (K:XE→List AV→pa→Option OutS) (m:Nat) (l1:(Sq U0)) (i:Int) (m0:(Sq U0)):Option OutS:=Oc tys (ja OutS (wq n)) (Ic n) n (ya [1,1,0,1,0,0] (ia Tryz.f42)) 0 Xd Wd K m (l1,(i,())) (m0,((),()))
theorem wi (n:Nat) (K:XE→List AV→pa→Option OutS):∀ (m:Nat) l1 i m0,Hc n K m l1 i m0=(Ha n m l1 i m0).bind (Ya K)
  | 0,_,_,_=>by kernel_rfl
  | m+1,l1,i,m0=>by
    have h1:Hc n K (m+1) l1 i m0=yb n l1 i m0 (Hc n K m) (fun a=>Ya K (.out a)) (fun a=>Ya K (.ret a)) (fun p=>Ya K (.pan p)):=by kernel_rfl
    have h2:Hc n K m=fun l1 i m0=>(Ha n m l1 i m0).bind (Ya K):=by
      repeat (refine funext fun _=>?_)
      exact wi n K m _ _ _
    rw [h1,h2];exact (Iu n m _ _ _ (Ya K)).symm
theorem et (n:Nat):yc tys (ja OutS (wq n)) (Ic n) n (ya [1,1,0,1,0,0] (ia Tryz.f42)) 0:=Fa (sp:=Xd) (rp:=Wd) (by kernel_rfl) fun K σ ρ=>wi n K n σ.1 σ.2.1 ρ.1
theorem Ju (n:Nat):ra tys (ja OutS (wq n)) (Ic n) n (ia Tryz.f42) 0:=⟨aa,⟨aa,⟨⟨aa,⟨et n,⟨⟨aa,⟨aa,aa⟩⟩,⟨aa,aa⟩⟩⟩⟩,⟨aa,aa⟩⟩⟩⟩
theorem Bw (n:Nat):Enters Tryz.prog 42:=enters_of (c:=ia Tryz.f42) Tryz.func42 (by kernel_rfl) (by kernel_rfl)
def Ij:List RSp:=[.one (.dat (.sl (.pair .str (.pair .str .unit))))]
def Hj:List RS:=[]
def Cw:List Sl:=[.top]
def Dw:List RSp:=[.one (.row 0)]
def Uc:List RS:=[.row 25 2 (.pair .str (.pair .str .unit)) true false]
def pg (y:((Sq U0)×Unit)):OutS:=⟨false,Yo (Zc Uc (y.1,())) Cw (),nH (iE (Zc Uc (y.1,())) Dw ((),())),Vv (Zc Uc (y.1,())) Uc (y.1,())⟩
theorem fy (n:Nat):EntryOk Tryz.prog gl ⟨42,Ee,none,some (csT Ij Hj (fun σ ρ=>nb n σ.1.1) pg)⟩:=Ge (Bw n) fun σ ρ y h=>Kb tys_ok (dF n) mixed (hint:=Ic n) (n:=n) Tryz.func42 (Ba (Ju n)) (ma (φ:=fun y=>some (pg y)) (by kernel_rfl) (fA n σ.1.1 _) h)
def jc (n:Nat):List Entry:=⟨42,Ee,none,some (csT Ij Hj (fun σ ρ=>nb n σ.1.1) pg)⟩::wq n
theorem Ih (n:Nat):AllOk Tryz.prog gl (jc n):=.cons (fy n) (dF n)
def dc (n:Nat) {R:Type} (l1:(Sq BA)) (i:Int) (m0:(Sq BA)) (kn:(Sq BA)→Int→(Sq BA)→Option R) (ko:((Sq BA))→Option R) (kr:Unit→Option R) (kp:Int→Option R):Option R:=if (decide (i<(l1.n:Int)))=true then if 0≤i∧i<(l1.n:Int) then if zb (m0.n+1) 16=true then kn l1 (IntKind.wrap .i64 (i+(1:Int))) (⟨(m0.n+1),fun q=>if q<m0.n then m0.at' q else (fun q=>List.getD (α:=BA) [(l1.at' (Int.toNat i))] q (ua .str)) (q - m0.n)⟩:Sq BA) else none else none else ko m0
def Ka (n:Nat):Nat→(Sq BA)→Int→(Sq BA)→Option (Lx ((Sq BA)) Unit)
 | 0,_,_,_=>none
 | m+1,l1,i,m0=>dc n l1 i m0 (Ka n m) (fun a=>some (.out a)) (fun a=>some (.ret a)) (fun p=>some (.pan p))
theorem gy (n m:Nat) {S:Type}:∀ l1 i m0 (φ:_→Option S),(Ka n (m+1) l1 i m0).bind φ=dc n l1 i m0 (fun l1 i m0=>(Ka n m l1 i m0).bind φ) (fun a=>φ (.out a)) (fun a=>φ (.ret a)) (fun p=>φ (.pan p)):=by
  intros;first | (simp only [Ka,dc,la,fa,iB,bB,oL,oX,nB,Option.bind_some]) | rfl
def Xe:List Sl:=.dat (.sl .str)::.top::.top::.row 0::.dat (.int .i64)::tp 14 []
def We:List RS:=[.row 9 1 .str true false,.ghost [.top]]
def vp:List Sl:=.top::.top::.top::.row 0::tp 15 []
def qp:List RS:=[.row 9 1 .str true false,.ghost [.top]]
def lb (K:XE→List AV→pa→Option OutS):Lx ((Sq BA)) Unit→Option OutS:=fun x=>onL x (fun a=>vc vp qp () (a,((),())) (K (.exit 0))) (fun _=>none) (fun _=>none)
def Ve (n:Nat) {R:Type} (l:(Sq BA)) (k:((Sq BA)×Unit)→Option R):Option R:=(Ka n n l (0:Int) (⟨0,fun _=>ua .str⟩:Sq BA)).bind fun x_1=>onL x_1 (fun a_2=>k (a_2,())) (fun _=>none) (fun _=>none)
def Lb (n:Nat) (l:(Sq BA)):Option ((Sq BA)×Unit):=Ve n l some
theorem zF (n:Nat) {S:Type}:∀ l (φ:_→Option S),(Lb n l).bind φ=Ve n l φ:=by
  intros;unfold Lb Ve;first | (simp only [la,fa,iB,bB,oL,oX,nB,Option.bind_some]) | rfl
def Fd (n:Nat):Hint OutS:={ live:=fun c=>(cond (Nat.beq c 0) [(0,some (.sl .str)),(3,some (.sl .str)),(4,none)] []),run:=fun c=>(cond (Nat.beq c 0) (some (Ng Xe We fun σ ρ K=>(Ka n n σ.1 σ.2.1 ρ.1).bind (lb K))) none),xm:=fun c q=>(cond (Nat.beq c 0&&Nat.beq (q.getD 1000000) 0&&q.isSome) (some [(3,some (.sl .str))]) none) }
def Ed (n:Nat) (K:XE→List AV→pa→Option OutS) (m:Nat) (l1:(Sq BA)) (i:Int) (m0:(Sq BA)):Option OutS:=Oc tys (ja OutS (jc n)) (Fd n) n (ya [1,1,0,1,0,0] (ia Tryz.f43)) 0 Xe We K m (l1,(i,())) (m0,((),()))
theorem Jj (n:Nat) (K:XE→List AV→pa→Option OutS):∀ (m:Nat) l1 i m0,Ed n K m l1 i m0=(Ka n m l1 i m0).bind (lb K)
  | 0,_,_,_=>by kernel_rfl
  | m+1,l1,i,m0=>by
    have h1:Ed n K (m+1) l1 i m0=dc n l1 i m0 (Ed n K m) (fun a=>lb K (.out a)) (fun a=>lb K (.ret a)) (fun p=>lb K (.pan p)):=by kernel_rfl
    have h2:Ed n K m=fun l1 i m0=>(Ka n m l1 i m0).bind (lb K):=by
      repeat (refine funext fun _=>?_)
      exact Jj n K m _ _ _
    rw [h1,h2];exact (gy n m _ _ _ (lb K)).symm
theorem Ew (n:Nat):yc tys (ja OutS (jc n)) (Fd n) n (ya [1,1,0,1,0,0] (ia Tryz.f43)) 0:=Fa (sp:=Xe) (rp:=We) (by kernel_rfl) fun K σ ρ=>Jj n K n σ.1 σ.2.1 ρ.1
theorem iy (n:Nat):ra tys (ja OutS (jc n)) (Fd n) n (ia Tryz.f43) 0:=⟨aa,⟨aa,⟨⟨aa,⟨Ew n,⟨⟨aa,⟨aa,aa⟩⟩,⟨aa,aa⟩⟩⟩⟩,⟨aa,aa⟩⟩⟩⟩
theorem gA (n:Nat):Enters Tryz.prog 43:=enters_of (c:=ia Tryz.f43) Tryz.func43 (by kernel_rfl) (by kernel_rfl)
def Hm:List RSp:=[.one (.dat (.sl .str))]
def Gm:List RS:=[]
def iA:List Sl:=[.top]
def jA:List RSp:=[.one (.row 0)]
def Od:List RS:=[.row 9 1 .str true false]
def bi (y:((Sq BA)×Unit)):OutS:=⟨false,Yo (Zc Od (y.1,())) iA (),nH (iE (Zc Od (y.1,())) jA ((),())),Vv (Zc Od (y.1,())) Od (y.1,())⟩
theorem jD (n:Nat):EntryOk Tryz.prog gl ⟨43,Ee,none,some (csT Hm Gm (fun σ ρ=>Lb n σ.1.1) bi)⟩:=Ge (gA n) fun σ ρ y h=>Kb tys_ok (Ih n) mixed (hint:=Fd n) (n:=n) Tryz.func43 (Ba (iy n)) (ma (φ:=fun y=>some (bi y)) (by kernel_rfl) (zF n σ.1.1 _) h)
def vh (n:Nat):List Entry:=⟨43,Ee,none,some (csT Hm Gm (fun σ ρ=>Lb n σ.1.1) bi)⟩::jc n
theorem Si (n:Nat):AllOk Tryz.prog gl (vh n):=.cons (jD n) (Ih n)
def Qi (n:Nat) {R:Type} (a:T0) (k:T0→Option R):Option R:=(nb n a.2.2.2.2.2.2.2.2.1).bind fun v=>(Lb n a.2.2.2.2.2.2.2.2.2.1).bind fun v1=>k (a.1,(a.2.1,(a.2.2.1,(a.2.2.2.1,(a.2.2.2.2.1,(a.2.2.2.2.2.1,(a.2.2.2.2.2.2.1,(a.2.2.2.2.2.2.2.1,(v.1,(v1.1,a.2.2.2.2.2.2.2.2.2.2))))))))))
def Tc (n:Nat) (a:T0):Option T0:=Qi n a some
theorem YR (n:Nat) {S:Type}:∀ a (φ:_→Option S),(Tc n a).bind φ=Qi n a φ:=by
  intros;unfold Tc Qi;first | (simp only [la,fa,iB,bB,oL,oX,nB,Option.bind_some]) | rfl
def Wq (n:Nat):Hint Out:={ live:=fun c=>[],run:=fun c=>none,xm:=fun c q=>none }
theorem MI (n:Nat):ra tys (ja Out (vh n)) (Wq n) n (ia Tryz.f23) 0:=na (fun _=>rfl) _ _ (by kernel_rfl)
theorem XL (n:Nat):Enters Tryz.prog 23:=enters_of (c:=ia Tryz.f23) Tryz.func23 (by kernel_rfl) (by kernel_rfl)
def Qx (n:Nat):Entry:=⟨23,pcT K1 (.one K0) (fun xs=>Tc n xs.1),none,none⟩
theorem XO (n:Nat):EntryOk Tryz.prog gl (Qx n):=Aa (XL n) fun xs y h=>oa tys_ok (Si n) mixed (hint:=Wq n) (n:=n) Tryz.func23 (Ba (MI n)) (ma (φ:=(fun y=>some (Out.ret (rb (.one K0) y)))) (by kernel_rfl) (YR n xs.1 _) h)
def gm (n:Nat):List Entry:=Qx n::vh n
theorem jp (n:Nat):AllOk Tryz.prog gl (gm n):=.cons (XO n) (Si n)
def zx (n:Nat) {R:Type} (i n0:Int) (k:Int→Option R):Option R:=if (IntKind.wrap .u64 n0)=0 then none else k (IntKind.wrap .i64 (Int.tmod (IntKind.wrap .u64 i) (IntKind.wrap .u64 n0)))
def Kv (n:Nat) (i n0:Int):Option Int:=zx n i n0 some
theorem C9 (n:Nat) {S:Type}:∀ i n0 (φ:_→Option S),(Kv n i n0).bind φ=zx n i n0 φ:=by
  intros;unfold Kv zx;first | (simp only [la,fa,iB,bB,oL,oX,nB,Option.bind_some]) | rfl
def bF (n:Nat):Hint Out:={ live:=fun c=>[],run:=fun c=>none,xm:=fun c q=>none }
theorem TV (n:Nat):ra tys (ja Out (gm n)) (bF n) n (ia Tryz.f44) 0:=na (fun _=>rfl) _ _ (by kernel_rfl)
theorem vZ (n:Nat):Enters Tryz.prog 44:=enters_of (c:=ia Tryz.f44) Tryz.func44 (by kernel_rfl) (by kernel_rfl)
def AO (n:Nat):Entry:=⟨44,pcT (.pair (.int .i64) (.pair (.int .i64) .unit)) (.one (.int .i64)) (fun xs=>Kv n xs.1 xs.2.1),none,none⟩
theorem Y5 (n:Nat):EntryOk Tryz.prog gl (AO n):=Aa (vZ n) fun xs y h=>oa tys_ok (jp n) mixed (hint:=bF n) (n:=n) Tryz.func44 (Ba (TV n)) (ma (φ:=(fun y=>some (Out.ret (rb (.one (.int .i64)) y)))) (by kernel_rfl) (C9 n xs.1 xs.2.1 _) h)
def Ul (n:Nat):List Entry:=AO n::gm n
theorem JB (n:Nat):AllOk Tryz.prog gl (Ul n):=.cons (Y5 n) (jp n)
def Sj (n:Nat) {R:Type} (s1:BA) (low1 i:Int) (kn:BA→Int→Int→Option R) (ko:(Unit)→Option R) (kr:(Bool)→Option R) (kp:Int→Option R):Option R:=if (decide (i<(s1.size:Int)))=true then if 0≤i∧i<(s1.size:Int) then if (decide ((bt s1 i)<low1))=false then if 0≤i∧i<(s1.size:Int) then if (decide ((bt s1 i)>(126:Int)))=true then kr false else kn s1 low1 (IntKind.wrap .i64 (i+(1:Int))) else none else kr false else none else ko ()
def rd (n:Nat):Nat→BA→Int→Int→Option (Lx (Unit) (Bool))
 | 0,_,_,_=>none
 | m+1,s1,low1,i=>Sj n s1 low1 i (rd n m) (fun a=>some (.out a)) (fun a=>some (.ret a)) (fun p=>some (.pan p))
theorem rY (n m:Nat) {S:Type}:∀ s1 low1 i (φ:_→Option S),(rd n (m+1) s1 low1 i).bind φ=Sj n s1 low1 i (fun s1 low1 i=>(rd n m s1 low1 i).bind φ) (fun a=>φ (.out a)) (fun a=>φ (.ret a)) (fun p=>φ (.pan p)):=by
  intros;first | (simp only [rd,Sj,la,fa,iB,bB,oL,oX,nB,Option.bind_some]) | rfl
def nt:List Sl:=.dat .str::.dat (.int .u8)::.top::.top::.top::.dat (.int .i64)::tp 17 []
def mt:List RS:=[]
def XI:List Sl:=tp 23 []
def WI:List RS:=[]
def ZI:List Sl:=tp 4 (.dat .bool::tp 18 [])
def YI:List RS:=[]
def df (K:XE→List AV→pa→Option Out):Lx (Unit) (Bool)→Option Out:=fun x=>onL x (fun a=>vc XI WI () () (K (.exit 0))) (fun a=>vc ZI YI (a,()) () (K .ret)) (fun _=>none)
def qC (n:Nat) {R:Type} (s:BA) (low:Int) (k:Bool→Option R):Option R:=(rd n n s low (0:Int)).bind fun x_1=>onL x_1 (fun a_2=>k true) (fun a_3=>k a_3) (fun _=>none)
def pC (n:Nat) (s:BA) (low:Int):Option Bool:=qC n s low some
theorem tcb (n:Nat) {S:Type}:∀ s low (φ:_→Option S),(pC n s low).bind φ=qC n s low φ:=by
  intros;unfold pC qC;first | (simp only [la,fa,iB,bB,oL,oX,nB,Option.bind_some]) | rfl
def Fn (n:Nat):Hint Out:={ live:=fun c=>(cond (Nat.beq c 0) (lv [0,1,5]) []),run:=fun c=>(cond (Nat.beq c 0) (some (Ng nt mt fun σ ρ K=>(rd n n σ.1 σ.2.1 σ.2.2.1).bind (df K))) none),xm:=fun c q=>(cond (Nat.beq c 0&&Nat.beq (q.getD 1000000) 0&&q.isSome) (some []) (cond (Nat.beq c 1&&q.isNone) (some [(4,none)]) none)) }
def En (n:Nat) (K:XE→List AV→pa→Option Out) (m:Nat) (s1:BA) (low1:Int) (i:Int):Option Out:=Oc tys (ja Out (Ul n)) (Fn n) n (ya [1,0,1,0,0] (ia Tryz.f134)) 0 nt mt K m (s1,(low1,(i,()))) ()
theorem VI (n:Nat) (K:XE→List AV→pa→Option Out):∀ (m:Nat) s1 low1 i,En n K m s1 low1 i=(rd n m s1 low1 i).bind (df K)
  | 0,_,_,_=>by kernel_rfl
  | m+1,s1,low1,i=>by
    have h1:En n K (m+1) s1 low1 i=Sj n s1 low1 i (En n K m) (fun a=>df K (.out a)) (fun a=>df K (.ret a)) (fun p=>df K (.pan p)):=by kernel_rfl
    have h2:En n K m=fun s1 low1 i=>(rd n m s1 low1 i).bind (df K):=by
      repeat (refine funext fun _=>?_)
      exact VI n K m _ _ _
    rw [h1,h2];exact (rY n m _ _ _ (df K)).symm
theorem eV (n:Nat):yc tys (ja Out (Ul n)) (Fn n) n (ya [1,0,1,0,0] (ia Tryz.f134)) 0:=Fa (sp:=nt) (rp:=mt) (by kernel_rfl) fun K σ ρ=>VI n K n σ.1 σ.2.1 σ.2.2.1
theorem sY (n:Nat):ra tys (ja Out (Ul n)) (Fn n) n (ia Tryz.f134) 0:=⟨aa,⟨⟨aa,⟨eV n,⟨⟨aa,⟨aa,aa⟩⟩,⟨⟨aa,⟨⟨aa,aa⟩,aa⟩⟩,aa⟩⟩⟩⟩,⟨aa,aa⟩⟩⟩
theorem G3 (n:Nat):Enters Tryz.prog 134:=enters_of (c:=ia Tryz.f134) Tryz.func134 (by kernel_rfl) (by kernel_rfl)
def iS (n:Nat):Entry:=⟨134,pcT (.pair .str (.pair (.int .u8) .unit)) (.one .bool) (fun xs=>pC n xs.1 xs.2.1),none,none⟩
theorem Y7 (n:Nat):EntryOk Tryz.prog gl (iS n):=Aa (G3 n) fun xs y h=>oa tys_ok (JB n) mixed (hint:=Fn n) (n:=n) Tryz.func134 (Ba (sY n)) (ma (φ:=(fun y=>some (Out.ret (rb (.one .bool) y)))) (by kernel_rfl) (tcb n xs.1 xs.2.1 _) h)
def zp (n:Nat):List Entry:=iS n::Ul n
theorem oE (n:Nat):AllOk Tryz.prog gl (zp n):=.cons (Y7 n) (JB n)
def ck (n:Nat) {R:Type} (l:(Sq BA)) (i:Int) (kn:(Sq BA)→Int→Option R) (ko:(Unit)→Option R) (kr:(Bool)→Option R) (kp:Int→Option R):Option R:=if (decide (i<(l.n:Int)))=true then if 0≤i∧i<(l.n:Int) then if ((l.at' (Int.toNat i)).toList==(⟨#[]⟩:BA).toList)=false then if 0≤i∧i<(l.n:Int) then (pC n (l.at' (Int.toNat i)) (33:Int)).bind fun v1=>if (!v1)=true then kr false else kn l (IntKind.wrap .i64 (i+(1:Int))) else none else kr false else none else ko ()
def Dd (n:Nat):Nat→(Sq BA)→Int→Option (Lx (Unit) (Bool))
 | 0,_,_=>none
 | m+1,l,i=>ck n l i (Dd n m) (fun a=>some (.out a)) (fun a=>some (.ret a)) (fun p=>some (.pan p))
theorem WY (n m:Nat) {S:Type}:∀ l i (φ:_→Option S),(Dd n (m+1) l i).bind φ=ck n l i (fun l i=>(Dd n m l i).bind φ) (fun a=>φ (.out a)) (fun a=>φ (.ret a)) (fun p=>φ (.pan p)):=by
  intros;first | (simp only [Dd,ck,la,fa,iB,bB,oL,oX,nB,Option.bind_some]) | rfl
def Nt:List Sl:=.top::.top::.top::.dat (.sl .str)::.dat (.int .i64)::tp 24 []
def Mt:List RS:=[]
def pK:List Sl:=tp 29 []
def oK:List RS:=[]
def rK:List Sl:=.top::.top::.dat .bool::tp 26 []
def qK:List RS:=[]
def qf (K:XE→List AV→pa→Option Out):Lx (Unit) (Bool)→Option Out:=fun x=>onL x (fun a=>vc pK oK () () (K (.exit 0))) (fun a=>vc rK qK (a,()) () (K .ret)) (fun _=>none)
def LC (n:Nat) {R:Type} (s:BA) (k:Bool→Option R):Option R:=if (decide ((s.size:Int)>(64:Int)))=true then k false else (Gn n s (32:Int)).bind fun v=>(Dd n n v (0:Int)).bind fun x_1=>onL x_1 (fun a_2=>k true) (fun a_3=>k a_3) (fun _=>none)
def Zw (n:Nat) (s:BA):Option Bool:=LC n s some
theorem Kcb (n:Nat) {S:Type}:∀ s (φ:_→Option S),(Zw n s).bind φ=LC n s φ:=by
  intros;unfold Zw LC;first | (simp only [la,fa,iB,bB,oL,oX,nB,Option.bind_some]) | rfl
def eo (n:Nat):Hint Out:={ live:=fun c=>(cond (Nat.beq c 0) [(3,some (.sl .str)),(4,none)] []),run:=fun c=>(cond (Nat.beq c 0) (some (Ng Nt Mt fun σ ρ K=>(Dd n n σ.1 σ.2.1).bind (qf K))) none),xm:=fun c q=>(cond (Nat.beq c 0&&Nat.beq (q.getD 1000000) 0&&q.isSome) (some []) (cond (Nat.beq c 1&&q.isNone) (some [(2,none)]) none)) }
def co (n:Nat) (K:XE→List AV→pa→Option Out) (m:Nat) (l:(Sq BA)) (i:Int):Option Out:=Oc tys (ja Out (zp n)) (eo n) n (ya [1,1,1,0,1,0,0] (ia Tryz.f101)) 0 Nt Mt K m (l,(i,())) ()
theorem nK (n:Nat) (K:XE→List AV→pa→Option Out):∀ (m:Nat) l i,co n K m l i=(Dd n m l i).bind (qf K)
  | 0,_,_=>by kernel_rfl
  | m+1,l,i=>by
    have h1:co n K (m+1) l i=ck n l i (co n K m) (fun a=>qf K (.out a)) (fun a=>qf K (.ret a)) (fun p=>qf K (.pan p)):=by kernel_rfl
    have h2:co n K m=fun l i=>(Dd n m l i).bind (qf K):=by
      repeat (refine funext fun _=>?_)
      exact nK n K m _ _
    rw [h1,h2];exact (WY n m _ _ (qf K)).symm
theorem GV (n:Nat):yc tys (ja Out (zp n)) (eo n) n (ya [1,1,1,0,1,0,0] (ia Tryz.f101)) 0:=Fa (sp:=Nt) (rp:=Mt) (by kernel_rfl) fun K σ ρ=>nK n K n σ.1 σ.2.1
theorem XY (n:Nat):ra tys (ja Out (zp n)) (eo n) n (ia Tryz.f101) 0:=⟨aa,⟨⟨aa,⟨⟨aa,aa⟩,aa⟩⟩,⟨aa,⟨⟨aa,⟨GV n,⟨⟨aa,⟨aa,aa⟩⟩,⟨⟨aa,⟨⟨aa,aa⟩,aa⟩⟩,aa⟩⟩⟩⟩,⟨aa,aa⟩⟩⟩⟩⟩
theorem M4 (n:Nat):Enters Tryz.prog 101:=enters_of (c:=ia Tryz.f101) Tryz.func101 (by kernel_rfl) (by kernel_rfl)
def YS (n:Nat):Entry:=⟨101,pcT (.pair .str .unit) (.one .bool) (fun xs=>Zw n xs.1),none,none⟩
theorem L8 (n:Nat):EntryOk Tryz.prog gl (YS n):=Aa (M4 n) fun xs y h=>oa tys_ok (oE n) mixed (hint:=eo n) (n:=n) Tryz.func101 (Ba (XY n)) (ma (φ:=(fun y=>some (Out.ret (rb (.one .bool) y)))) (by kernel_rfl) (Kcb n xs.1 _) h)
def XG (n:Nat):List Entry:=YS n::zp n
theorem RE (n:Nat):AllOk Tryz.prog gl (XG n):=.cons (L8 n) (oE n)
def NJ (n:Nat) {R:Type} (v:T1) (k:Bool→Option R):Option R:=if (v.1==(1:Int))=true then if ((v.1==v.1)&&((v.2.1.toList==v.2.1.toList)&&((v.2.2.1==false)&&(((v.2.2.2.1.1.toList==(⟨#[]⟩:BA).toList)&&((v.2.2.2.1.2.1.toList==(⟨#[]⟩:BA).toList)&&true))&&((v.2.2.2.2.1==(0:Int))&&true)))))=true then (aj n v.2.1).bind fun v1=>k v1 else k false else if (v.1==(2:Int))=true then if ((v.1==v.1)&&((v.2.1.toList==v.2.1.toList)&&((v.2.2.1==false)&&(((v.2.2.2.1.1.toList==(⟨#[]⟩:BA).toList)&&((v.2.2.2.1.2.1.toList==(⟨#[]⟩:BA).toList)&&true))&&((v.2.2.2.2.1==(0:Int))&&true)))))=true then (aj n v.2.1).bind fun v2=>k v2 else k false else if (v.1==(3:Int))=true then cR (cR (if v.2.2.1=true then if ((v.2.2.2.1.1.toList==(⟨#[]⟩:BA).toList)&&((v.2.2.2.1.2.1.toList==(⟨#[]⟩:BA).toList)&&true))=false then if (!v.2.2.1)=true then (ue n (v.2.2.2.1.1,(v.2.2.2.1.2.1,()))).bind fun v3=>if ((v.1==v.1)&&((v.2.1.toList==(⟨#[]⟩:BA).toList)&&((v.2.2.1==v.2.2.1)&&(((v.2.2.2.1.1.toList==v.2.2.2.1.1.toList)&&((v.2.2.2.1.2.1.toList==v.2.2.2.1.2.1.toList)&&true))&&((v.2.2.2.2.1==v.2.2.2.2.1)&&true)))))=true then if v3=true then if (decide (v.2.2.2.2.1≥(-1:Int)))=true then k (decide (v.2.2.2.2.1≤(1073741824:Int))) else k false else k false else k false
 else if ((v.1==v.1)&&((v.2.1.toList==(⟨#[]⟩:BA).toList)&&((v.2.2.1==v.2.2.1)&&(((v.2.2.2.1.1.toList==v.2.2.2.1.1.toList)&&((v.2.2.2.1.2.1.toList==v.2.2.2.1.2.1.toList)&&true))&&((v.2.2.2.2.1==v.2.2.2.2.1)&&true)))))=true then k false else k false else if ((v.1==v.1)&&((v.2.1.toList==(⟨#[]⟩:BA).toList)&&((v.2.2.1==v.2.2.1)&&(((v.2.2.2.1.1.toList==v.2.2.2.1.1.toList)&&((v.2.2.2.1.2.1.toList==v.2.2.2.1.2.1.toList)&&true))&&((v.2.2.2.2.1==v.2.2.2.2.1)&&true)))))=true then if (decide (v.2.2.2.2.1≥(-1:Int)))=true then k (decide (v.2.2.2.2.1≤(1073741824:Int))) else k false else k false else if (!v.2.2.1)=true then (ue n (v.2.2.2.1.1,(v.2.2.2.1.2.1,()))).bind fun v4=>if ((v.1==v.1)&&((v.2.1.toList==(⟨#[]⟩:BA).toList)&&((v.2.2.1==v.2.2.1)&&(((v.2.2.2.1.1.toList==v.2.2.2.1.1.toList)&&((v.2.2.2.1.2.1.toList==v.2.2.2.1.2.1.toList)&&true))&&((v.2.2.2.2.1==v.2.2.2.2.1)&&true)))))=true then if v4=true then if (decide (v.2.2.2.2.1≥(-1:Int)))=true then k (decide (v.2.2.2.2.1≤(1073741824:Int))) else k false else k false else k false else if ((v.1==v.1)&&((v.2.1.toList==(⟨#[]⟩:BA).toList)&&((v.2.2.1==v.2.2.1)&&(((v.2.2.2.1.1.toList==v.2.2.2.1.1.toList)&&((v.2.2.2.1.2.1.toList==v.2.2.2.1.2.1.toList)&&true))&&((v.2.2.2.2.1==v.2.2.2.2.1)&&true)))))=true then k false else k false) (dup 1 (if v.2.2.1=true then if ((v.2.2.2.1.1.toList==(⟨#[]⟩:BA).toList)&&((v.2.2.2.1.2.1.toList==(⟨#[]⟩:BA).toList)&&true))=false then
 if (!v.2.2.1)=true then (ue n (v.2.2.2.1.1,(v.2.2.2.1.2.1,()))).bind fun v5=>if ((v.1==v.1)&&((v.2.1.toList==(⟨#[]⟩:BA).toList)&&((v.2.2.1==v.2.2.1)&&(((v.2.2.2.1.1.toList==v.2.2.2.1.1.toList)&&((v.2.2.2.1.2.1.toList==v.2.2.2.1.2.1.toList)&&true))&&((v.2.2.2.2.1==v.2.2.2.2.1)&&true)))))=true then if v5=true then if (decide (v.2.2.2.2.1≥(-1:Int)))=true then k (decide (v.2.2.2.2.1≤(1073741824:Int))) else k false else k false else k false else if ((v.1==v.1)&&((v.2.1.toList==(⟨#[]⟩:BA).toList)&&((v.2.2.1==v.2.2.1)&&(((v.2.2.2.1.1.toList==v.2.2.2.1.1.toList)&&((v.2.2.2.1.2.1.toList==v.2.2.2.1.2.1.toList)&&true))&&((v.2.2.2.2.1==v.2.2.2.2.1)&&true)))))=true then k false else k false else if ((v.1==v.1)&&((v.2.1.toList==(⟨#[]⟩:BA).toList)&&((v.2.2.1==v.2.2.1)&&(((v.2.2.2.1.1.toList==v.2.2.2.1.1.toList)&&((v.2.2.2.1.2.1.toList==v.2.2.2.1.2.1.toList)&&true))&&((v.2.2.2.2.1==v.2.2.2.2.1)&&true)))))=true then if (decide (v.2.2.2.2.1≥(-1:Int)))=true then k (decide (v.2.2.2.2.1≤(1073741824:Int))) else k false else k false else if (!v.2.2.1)=true then (ue n (v.2.2.2.1.1,(v.2.2.2.1.2.1,()))).bind fun v6=>if ((v.1==v.1)&&((v.2.1.toList==(⟨#[]⟩:BA).toList)&&((v.2.2.1==v.2.2.1)&&(((v.2.2.2.1.1.toList==v.2.2.2.1.1.toList)&&((v.2.2.2.1.2.1.toList==v.2.2.2.1.2.1.toList)&&true))&&((v.2.2.2.2.1==v.2.2.2.2.1)&&true)))))=true then
 if v6=true then if (decide (v.2.2.2.2.1≥(-1:Int)))=true then k (decide (v.2.2.2.2.1≤(1073741824:Int))) else k false else k false else k false else if ((v.1==v.1)&&((v.2.1.toList==(⟨#[]⟩:BA).toList)&&((v.2.2.1==v.2.2.1)&&(((v.2.2.2.1.1.toList==v.2.2.2.1.1.toList)&&((v.2.2.2.1.2.1.toList==v.2.2.2.1.2.1.toList)&&true))&&((v.2.2.2.2.1==v.2.2.2.2.1)&&true)))))=true then k false else k false))) (cR (dup 1 (if v.2.2.1=true then if ((v.2.2.2.1.1.toList==(⟨#[]⟩:BA).toList)&&((v.2.2.2.1.2.1.toList==(⟨#[]⟩:BA).toList)&&true))=false then if (!v.2.2.1)=true then (ue n (v.2.2.2.1.1,(v.2.2.2.1.2.1,()))).bind fun v9=>if ((v.1==v.1)&&((v.2.1.toList==(⟨#[]⟩:BA).toList)&&((v.2.2.1==v.2.2.1)&&(((v.2.2.2.1.1.toList==v.2.2.2.1.1.toList)&&((v.2.2.2.1.2.1.toList==v.2.2.2.1.2.1.toList)&&true))&&((v.2.2.2.2.1==v.2.2.2.2.1)&&true)))))=true then if v9=true then if (decide (v.2.2.2.2.1≥(-1:Int)))=true then k (decide (v.2.2.2.2.1≤(1073741824:Int))) else k false else k false else k false else if ((v.1==v.1)&&((v.2.1.toList==(⟨#[]⟩:BA).toList)&&((v.2.2.1==v.2.2.1)&&(((v.2.2.2.1.1.toList==v.2.2.2.1.1.toList)&&((v.2.2.2.1.2.1.toList==v.2.2.2.1.2.1.toList)&&true))&&((v.2.2.2.2.1==v.2.2.2.2.1)&&true)))))=true then k false else k false else if ((v.1==v.1)&&((v.2.1.toList==(⟨#[]⟩:BA).toList)&&((v.2.2.1==v.2.2.1)&&(((v.2.2.2.1.1.toList==v.2.2.2.1.1.toList)&&((v.2.2.2.1.2.1.toList==v.2.2.2.1.2.1.toList)&&true))&&((v.2.2.2.2.1==v.2.2.2.2.1)&&true)))))=true then
 if (decide (v.2.2.2.2.1≥(-1:Int)))=true then k (decide (v.2.2.2.2.1≤(1073741824:Int))) else k false else k false else if (!v.2.2.1)=true then (ue n (v.2.2.2.1.1,(v.2.2.2.1.2.1,()))).bind fun v10=>if ((v.1==v.1)&&((v.2.1.toList==(⟨#[]⟩:BA).toList)&&((v.2.2.1==v.2.2.1)&&(((v.2.2.2.1.1.toList==v.2.2.2.1.1.toList)&&((v.2.2.2.1.2.1.toList==v.2.2.2.1.2.1.toList)&&true))&&((v.2.2.2.2.1==v.2.2.2.2.1)&&true)))))=true then if v10=true then if (decide (v.2.2.2.2.1≥(-1:Int)))=true then k (decide (v.2.2.2.2.1≤(1073741824:Int))) else k false else k false else k false else if ((v.1==v.1)&&((v.2.1.toList==(⟨#[]⟩:BA).toList)&&((v.2.2.1==v.2.2.1)&&(((v.2.2.2.1.1.toList==v.2.2.2.1.1.toList)&&((v.2.2.2.1.2.1.toList==v.2.2.2.1.2.1.toList)&&true))&&((v.2.2.2.2.1==v.2.2.2.2.1)&&true)))))=true then k false else k false)) (cR (dup 1 (if v.2.2.1=true then if ((v.2.2.2.1.1.toList==(⟨#[]⟩:BA).toList)&&((v.2.2.2.1.2.1.toList==(⟨#[]⟩:BA).toList)&&true))=false then if (!v.2.2.1)=true then (ue n (v.2.2.2.1.1,(v.2.2.2.1.2.1,()))).bind fun v13=>if ((v.1==v.1)&&((v.2.1.toList==(⟨#[]⟩:BA).toList)&&((v.2.2.1==v.2.2.1)&&(((v.2.2.2.1.1.toList==v.2.2.2.1.1.toList)&&((v.2.2.2.1.2.1.toList==v.2.2.2.1.2.1.toList)&&true))&&((v.2.2.2.2.1==v.2.2.2.2.1)&&true)))))=true then if v13=true then if (decide (v.2.2.2.2.1≥(-1:Int)))=true then
 k (decide (v.2.2.2.2.1≤(1073741824:Int))) else k false else k false else k false else if ((v.1==v.1)&&((v.2.1.toList==(⟨#[]⟩:BA).toList)&&((v.2.2.1==v.2.2.1)&&(((v.2.2.2.1.1.toList==v.2.2.2.1.1.toList)&&((v.2.2.2.1.2.1.toList==v.2.2.2.1.2.1.toList)&&true))&&((v.2.2.2.2.1==v.2.2.2.2.1)&&true)))))=true then k false else k false else if ((v.1==v.1)&&((v.2.1.toList==(⟨#[]⟩:BA).toList)&&((v.2.2.1==v.2.2.1)&&(((v.2.2.2.1.1.toList==v.2.2.2.1.1.toList)&&((v.2.2.2.1.2.1.toList==v.2.2.2.1.2.1.toList)&&true))&&((v.2.2.2.2.1==v.2.2.2.2.1)&&true)))))=true then if (decide (v.2.2.2.2.1≥(-1:Int)))=true then k (decide (v.2.2.2.2.1≤(1073741824:Int))) else k false else k false else if (!v.2.2.1)=true then (ue n (v.2.2.2.1.1,(v.2.2.2.1.2.1,()))).bind fun v14=>if ((v.1==v.1)&&((v.2.1.toList==(⟨#[]⟩:BA).toList)&&((v.2.2.1==v.2.2.1)&&(((v.2.2.2.1.1.toList==v.2.2.2.1.1.toList)&&((v.2.2.2.1.2.1.toList==v.2.2.2.1.2.1.toList)&&true))&&((v.2.2.2.2.1==v.2.2.2.2.1)&&true)))))=true then if v14=true then if (decide (v.2.2.2.2.1≥(-1:Int)))=true then k (decide (v.2.2.2.2.1≤(1073741824:Int))) else k false else k false else k false else if ((v.1==v.1)&&((v.2.1.toList==(⟨#[]⟩:BA).toList)&&((v.2.2.1==v.2.2.1)&&(((v.2.2.2.1.1.toList==v.2.2.2.1.1.toList)&&((v.2.2.2.1.2.1.toList==v.2.2.2.1.2.1.toList)&&true))&&((v.2.2.2.2.1==v.2.2.2.2.1)&&true)))))=true then
 k false else k false)) (if v.2.2.1=true then if ((v.2.2.2.1.1.toList==(⟨#[]⟩:BA).toList)&&((v.2.2.2.1.2.1.toList==(⟨#[]⟩:BA).toList)&&true))=false then if (!v.2.2.1)=true then (ue n (v.2.2.2.1.1,(v.2.2.2.1.2.1,()))).bind fun v17=>if ((v.1==v.1)&&((v.2.1.toList==(⟨#[]⟩:BA).toList)&&((v.2.2.1==v.2.2.1)&&(((v.2.2.2.1.1.toList==v.2.2.2.1.1.toList)&&((v.2.2.2.1.2.1.toList==v.2.2.2.1.2.1.toList)&&true))&&((v.2.2.2.2.1==v.2.2.2.2.1)&&true)))))=true then if v17=true then if (decide (v.2.2.2.2.1≥(-1:Int)))=true then k (decide (v.2.2.2.2.1≤(1073741824:Int))) else k false else k false else k false else if ((v.1==v.1)&&((v.2.1.toList==(⟨#[]⟩:BA).toList)&&((v.2.2.1==v.2.2.1)&&(((v.2.2.2.1.1.toList==v.2.2.2.1.1.toList)&&((v.2.2.2.1.2.1.toList==v.2.2.2.1.2.1.toList)&&true))&&((v.2.2.2.2.1==v.2.2.2.2.1)&&true)))))=true then k false else k false else if ((v.1==v.1)&&((v.2.1.toList==(⟨#[]⟩:BA).toList)&&((v.2.2.1==v.2.2.1)&&(((v.2.2.2.1.1.toList==v.2.2.2.1.1.toList)&&((v.2.2.2.1.2.1.toList==v.2.2.2.1.2.1.toList)&&true))&&((v.2.2.2.2.1==v.2.2.2.2.1)&&true)))))=true then if (decide (v.2.2.2.2.1≥(-1:Int)))=true then k (decide (v.2.2.2.2.1≤(1073741824:Int))) else k false else k false else if (!v.2.2.1)=true then (ue n (v.2.2.2.1.1,(v.2.2.2.1.2.1,()))).bind fun v18=>if ((v.1==v.1)&&((v.2.1.toList==(⟨#[]⟩:BA).toList)&&((v.2.2.1==v.2.2.1)&&(((v.2.2.2.1.1.toList==v.2.2.2.1.1.toList)&&((v.2.2.2.1.2.1.toList==v.2.2.2.1.2.1.toList)&&true))&&((v.2.2.2.2.1==v.2.2.2.2.1)&&true)))))=true then
 if v18=true then if (decide (v.2.2.2.2.1≥(-1:Int)))=true then k (decide (v.2.2.2.2.1≤(1073741824:Int))) else k false else k false else k false else if ((v.1==v.1)&&((v.2.1.toList==(⟨#[]⟩:BA).toList)&&((v.2.2.1==v.2.2.1)&&(((v.2.2.2.1.1.toList==v.2.2.2.1.1.toList)&&((v.2.2.2.1.2.1.toList==v.2.2.2.1.2.1.toList)&&true))&&((v.2.2.2.2.1==v.2.2.2.2.1)&&true)))))=true then k false else k false))) else if (v.1==(4:Int))=true then if ((v.1==v.1)&&((v.2.1.toList==(⟨#[]⟩:BA).toList)&&((v.2.2.1==false)&&(((v.2.2.2.1.1.toList==v.2.2.2.1.1.toList)&&((v.2.2.2.1.2.1.toList==v.2.2.2.1.2.1.toList)&&true))&&((v.2.2.2.2.1==(0:Int))&&true)))))=true then (ue n (v.2.2.2.1.1,(v.2.2.2.1.2.1,()))).bind fun v19=>k v19 else k false else if (v.1==(7:Int))=true then if ((v.1==v.1)&&((v.2.1.toList==v.2.1.toList)&&((v.2.2.1==false)&&(((v.2.2.2.1.1.toList==(⟨#[]⟩:BA).toList)&&((v.2.2.2.1.2.1.toList==(⟨#[]⟩:BA).toList)&&true))&&((v.2.2.2.2.1==(0:Int))&&true)))))=true then if (v.2.1.toList==(⟨#[]⟩:BA).toList)=false then (Zw n v.2.1).bind fun v20=>k v20 else k true else k false else if (v.1==(9:Int))=true then if ((v.1==v.1)&&((v.2.1.toList==v.2.1.toList)&&((v.2.2.1==false)&&(((v.2.2.2.1.1.toList==(⟨#[]⟩:BA).toList)&&((v.2.2.2.1.2.1.toList==(⟨#[]⟩:BA).toList)&&true))&&((v.2.2.2.2.1==(0:Int))&&true)))))=true then
 (Zw n v.2.1).bind fun v21=>k v21 else k false else if (v.1==(5:Int))=true then k ((v.1==v.1)&&((v.2.1.toList==(⟨#[]⟩:BA).toList)&&((v.2.2.1==false)&&(((v.2.2.2.1.1.toList==(⟨#[]⟩:BA).toList)&&((v.2.2.2.1.2.1.toList==(⟨#[]⟩:BA).toList)&&true))&&((v.2.2.2.2.1==(0:Int))&&true))))) else if (v.1==(6:Int))=true then k ((v.1==v.1)&&((v.2.1.toList==(⟨#[]⟩:BA).toList)&&((v.2.2.1==false)&&(((v.2.2.2.1.1.toList==(⟨#[]⟩:BA).toList)&&((v.2.2.2.1.2.1.toList==(⟨#[]⟩:BA).toList)&&true))&&((v.2.2.2.2.1==(0:Int))&&true))))) else if (v.1==(8:Int))=true then k ((v.1==v.1)&&((v.2.1.toList==(⟨#[]⟩:BA).toList)&&((v.2.2.1==false)&&(((v.2.2.2.1.1.toList==(⟨#[]⟩:BA).toList)&&((v.2.2.2.1.2.1.toList==(⟨#[]⟩:BA).toList)&&true))&&((v.2.2.2.2.1==(0:Int))&&true))))) else k false
def UG (n:Nat) (v:T1):Option Bool:=NJ n v some
theorem nfb (n:Nat) {S:Type}:∀ v (φ:_→Option S),(UG n v).bind φ=NJ n v φ:=by
  intros;unfold UG NJ;first | (simp only [la,fa,iB,bB,oL,oX,nB,Option.bind_some]) | rfl
def kO (n:Nat):Hint Out:={ live:=fun c=>[],run:=fun c=>none,xm:=fun c q=>none,sch:=fun c=>(cond (Nat.beq c 8) (some [(0,0),(2,0),(4,0),(1,1),(6,0),(7,5),(3,7),(5,7),(8,6),(9,2),(10,6),(11,2)]) none) }
theorem y4 (n:Nat):ra tys (ja Out (XG n)) (kO n) n (ia Tryz.f73) 0:=na (fun _=>rfl) _ _ (by kernel_rfl)
theorem A8 (n:Nat):Enters Tryz.prog 73:=enters_of (c:=ia Tryz.f73) Tryz.func73 (by kernel_rfl) (by kernel_rfl)
def CW (n:Nat):Entry:=⟨73,pcT K11 (.one .bool) (fun xs=>UG n xs.1),none,none⟩
theorem Ecb (n:Nat):EntryOk Tryz.prog gl (CW n):=Aa (A8 n) fun xs y h=>oa tys_ok (RE n) mixed (hint:=kO n) (n:=n) Tryz.func73 (Ba (y4 n)) (ma (φ:=(fun y=>some (Out.ret (rb (.one .bool) y)))) (by kernel_rfl) (nfb n xs.1 _) h)
def pv (n:Nat):List Entry:=CW n::XG n
theorem Un (n:Nat):AllOk Tryz.prog gl (pv n):=.cons (Ecb n) (RE n)
def Rf (n:Nat) {R:Type} (a:T0) (k:U2→Option R):Option R:=(nb n a.2.2.2.2.2.2.2.2.1).bind fun v=>(Lb n a.2.2.2.2.2.2.2.2.2.1).bind fun v1=>k (a.1,(a.2.1,(a.2.2.1,(a.2.2.2.1.1,(a.2.2.2.1.2.1,(a.2.2.2.2.1,(a.2.2.2.2.2.1,(a.2.2.2.2.2.2.1,(a.2.2.2.2.2.2.2.1.1,(a.2.2.2.2.2.2.2.1.2.1,(a.2.2.2.2.2.2.2.2.2.2.1,(a.2.2.2.2.2.2.2.2.2.2.2.1,(v.1,(v1.1,()))))))))))))))
def Bb (n:Nat) (a:T0):Option U2:=Rf n a some
theorem NI (n:Nat) {S:Type}:∀ a (φ:_→Option S),(Bb n a).bind φ=Rf n a φ:=by
  intros;unfold Bb Rf;first | (simp only [la,fa,iB,bB,oL,oX,nB,Option.bind_some]) | rfl
def Hl (n:Nat):Hint OutS:={ live:=fun c=>[],run:=fun c=>none,xm:=fun c q=>none,pr:=[(0,10,25),(0,11,9)] }
theorem eA (n:Nat):ra tys (ja OutS (pv n)).keep (Hl n) n (ia Tryz.f23) 0:=na (fun _=>rfl) _ _ (by kernel_rfl)
theorem fD (n:Nat):Enters Tryz.prog 23:=enters_of (c:=ia Tryz.f23) Tryz.func23 (by kernel_rfl) (by kernel_rfl)
def pp:List RSp:=[.one (.dat K0)]
def lp:List RS:=[]
def gD:List Sl:=[.top]
def iD:List RSp:=[.agg [.dat (.int .i64),.dat (.int .i64),.dat (.int .i64),.dat .str,.dat .bool,.dat (.int .i64),.dat .str,.dat .bool,.dat .str,.dat .str,.row 0,.row 1,.dat (.int .i64),.dat .bool]]
def ee:List RS:=[.row 25 2 (.pair .str (.pair .str .unit)) true false,.row 9 1 .str true false]
def Ri (y:U2):OutS:=⟨false,Yo (Zc ee (y.2.2.2.2.2.2.2.2.2.2.2.2.1,(y.2.2.2.2.2.2.2.2.2.2.2.2.2.1,()))) gD (),nH (iE (Zc ee (y.2.2.2.2.2.2.2.2.2.2.2.2.1,(y.2.2.2.2.2.2.2.2.2.2.2.2.2.1,()))) iD ((y.1,(y.2.1,(y.2.2.1,(y.2.2.2.1,(y.2.2.2.2.1,(y.2.2.2.2.2.1,(y.2.2.2.2.2.2.1,(y.2.2.2.2.2.2.2.1,(y.2.2.2.2.2.2.2.2.1,(y.2.2.2.2.2.2.2.2.2.1,(y.2.2.2.2.2.2.2.2.2.2.1,(y.2.2.2.2.2.2.2.2.2.2.2.1,())))))))))))),())),Vv (Zc ee (y.2.2.2.2.2.2.2.2.2.2.2.2.1,(y.2.2.2.2.2.2.2.2.2.2.2.2.2.1,()))) ee (y.2.2.2.2.2.2.2.2.2.2.2.2.1,(y.2.2.2.2.2.2.2.2.2.2.2.2.2.1,()))⟩
theorem yF (n:Nat):EntryOk Tryz.prog gl ⟨23,Ee,none,some (csT pp lp (fun σ ρ=>Bb n σ.1.1) Ri)⟩:=Ge (fD n) fun σ ρ y h=>Zf tys_ok (Un n) mixed (hint:=Hl n) (n:=n) Tryz.func23 (Ba (eA n)) (ma (φ:=fun y=>some (Ri y)) (by kernel_rfl) (NI n σ.1.1 _) h)
def ai (n:Nat):List Entry:=⟨23,Ee,none,some (csT pp lp (fun σ ρ=>Bb n σ.1.1) Ri)⟩::pv n
theorem Gj (n:Nat):AllOk Tryz.prog gl (ai n):=.cons (yF n) (Un n)
def rQ (n:Nat) {R:Type} (c:T0) (v:T1) (k:(T0×Int×Unit)→Option R):Option R:=(UG n v).bind fun v1=>if (!v1)=false then if (v.1 !=(3:Int))=true then if (v.1 !=(4:Int))=true then k (c,((1:Int),())) else (Bb n c).bind fun v2=>if (v.1==(3:Int))=true then if (c.2.2.2.2.1 !=(1:Int))=true then k (c,((6:Int),())) else cR (cR (k ((v2.1,(v2.2.1,(v2.2.2.1,((v2.2.2.2.1,(v2.2.2.2.2.1,())),((2:Int),(v2.2.2.2.2.2.2.1,(v.2.2.1,(v.2.2.2.1,(v2.2.2.2.2.2.2.2.2.2.2.2.2.1,(v2.2.2.2.2.2.2.2.2.2.2.2.2.2.1,(v2.2.2.2.2.2.2.2.2.2.2.1,(v2.2.2.2.2.2.2.2.2.2.2.2.1,())))))))))))),((0:Int),()))) (dup 1 (k ((v2.1,(v2.2.1,(v2.2.2.1,((v2.2.2.2.1,(v2.2.2.2.2.1,())),((2:Int),(v2.2.2.2.2.2.2.1,(v.2.2.1,(v.2.2.2.1,(v2.2.2.2.2.2.2.2.2.2.2.2.2.1,(v2.2.2.2.2.2.2.2.2.2.2.2.2.2.1,(v2.2.2.2.2.2.2.2.2.2.2.1,(v2.2.2.2.2.2.2.2.2.2.2.2.1,())))))))))))),((0:Int),()))))) (cR (dup 1 (k ((v2.1,(v2.2.1,(v2.2.2.1,((v2.2.2.2.1,(v2.2.2.2.2.1,())),((2:Int),(v2.2.2.2.2.2.2.1,(v.2.2.1,(v.2.2.2.1,(v2.2.2.2.2.2.2.2.2.2.2.2.2.1,(v2.2.2.2.2.2.2.2.2.2.2.2.2.2.1,(v2.2.2.2.2.2.2.2.2.2.2.1,(v2.2.2.2.2.2.2.2.2.2.2.2.1,())))))))))))),((0:Int),())))) (cR (dup 1 (k ((v2.1,(v2.2.1,(v2.2.2.1,((v2.2.2.2.1,(v2.2.2.2.2.1,())),((2:Int),(v2.2.2.2.2.2.2.1,(v.2.2.1,(v.2.2.2.1,(v2.2.2.2.2.2.2.2.2.2.2.2.2.1,(v2.2.2.2.2.2.2.2.2.2.2.2.2.2.1,(v2.2.2.2.2.2.2.2.2.2.2.1,(v2.2.2.2.2.2.2.2.2.2.2.2.1,())))))))))))),((0:Int),())))) (
 k ((v2.1,(v2.2.1,(v2.2.2.1,((v2.2.2.2.1,(v2.2.2.2.2.1,())),((2:Int),(v2.2.2.2.2.2.2.1,(v.2.2.1,(v.2.2.2.1,(v2.2.2.2.2.2.2.2.2.2.2.2.2.1,(v2.2.2.2.2.2.2.2.2.2.2.2.2.2.1,(v2.2.2.2.2.2.2.2.2.2.2.1,(v2.2.2.2.2.2.2.2.2.2.2.2.1,())))))))))))),((0:Int),()))))) else if (c.2.2.2.2.1 !=(2:Int))=true then if (c.2.2.2.2.1 !=(3:Int))=true then k (c,((6:Int),())) else (Jd n c.2.2.2.2.2.2.2.2.1 v.2.2.2.1).bind fun v3=>if (decide (v3≥(0:Int)))=true then k (c,((4:Int),())) else if (decide ((c.2.2.2.2.2.2.2.2.1.n:Int)≥(8:Int)))=true then k (c,((5:Int),())) else if zb (v2.2.2.2.2.2.2.2.2.2.2.2.2.1.n+1) 32=true then k ((v2.1,(v2.2.1,(v2.2.2.1,((v2.2.2.2.1,(v2.2.2.2.2.1,())),((3:Int),(v2.2.2.2.2.2.2.1,(v2.2.2.2.2.2.2.2.1,((v2.2.2.2.2.2.2.2.2.1,(v2.2.2.2.2.2.2.2.2.2.1,())),((⟨(v2.2.2.2.2.2.2.2.2.2.2.2.2.1.n+1),fun q=>if q<v2.2.2.2.2.2.2.2.2.2.2.2.2.1.n then v2.2.2.2.2.2.2.2.2.2.2.2.2.1.at' q else (fun q=>List.getD (α:=U0) [v.2.2.2.1] q (ua (.pair .str (.pair .str .unit)))) (q - v2.2.2.2.2.2.2.2.2.2.2.2.2.1.n)⟩:Sq U0),(v2.2.2.2.2.2.2.2.2.2.2.2.2.2.1,(v2.2.2.2.2.2.2.2.2.2.2.1,(v2.2.2.2.2.2.2.2.2.2.2.2.1,())))))))))))),((0:Int),())) else none else (Jd n c.2.2.2.2.2.2.2.2.1 v.2.2.2.1).bind fun v4=>if (decide (v4≥(0:Int)))=true then k (c,((4:Int),())) else if (decide ((c.2.2.2.2.2.2.2.2.1.n:Int)≥(8:Int)))=true then
 k (c,((5:Int),())) else if zb (v2.2.2.2.2.2.2.2.2.2.2.2.2.1.n+1) 32=true then k ((v2.1,(v2.2.1,(v2.2.2.1,((v2.2.2.2.1,(v2.2.2.2.2.1,())),((3:Int),(v2.2.2.2.2.2.2.1,(v2.2.2.2.2.2.2.2.1,((v2.2.2.2.2.2.2.2.2.1,(v2.2.2.2.2.2.2.2.2.2.1,())),((⟨(v2.2.2.2.2.2.2.2.2.2.2.2.2.1.n+1),fun q=>if q<v2.2.2.2.2.2.2.2.2.2.2.2.2.1.n then v2.2.2.2.2.2.2.2.2.2.2.2.2.1.at' q else (fun q=>List.getD (α:=U0) [v.2.2.2.1] q (ua (.pair .str (.pair .str .unit)))) (q - v2.2.2.2.2.2.2.2.2.2.2.2.2.1.n)⟩:Sq U0),(v2.2.2.2.2.2.2.2.2.2.2.2.2.2.1,(v2.2.2.2.2.2.2.2.2.2.2.1,(v2.2.2.2.2.2.2.2.2.2.2.2.1,())))))))))))),((0:Int),())) else none else (Bb n c).bind fun v5=>if (v.1==(3:Int))=true then if (c.2.2.2.2.1 !=(1:Int))=true then k (c,((6:Int),())) else cR (cR (k ((v5.1,(v5.2.1,(v5.2.2.1,((v5.2.2.2.1,(v5.2.2.2.2.1,())),((2:Int),(v5.2.2.2.2.2.2.1,(v.2.2.1,(v.2.2.2.1,(v5.2.2.2.2.2.2.2.2.2.2.2.2.1,(v5.2.2.2.2.2.2.2.2.2.2.2.2.2.1,(v5.2.2.2.2.2.2.2.2.2.2.1,(v5.2.2.2.2.2.2.2.2.2.2.2.1,())))))))))))),((0:Int),()))) (dup 1 (k ((v5.1,(v5.2.1,(v5.2.2.1,((v5.2.2.2.1,(v5.2.2.2.2.1,())),((2:Int),(v5.2.2.2.2.2.2.1,(v.2.2.1,(v.2.2.2.1,(v5.2.2.2.2.2.2.2.2.2.2.2.2.1,(v5.2.2.2.2.2.2.2.2.2.2.2.2.2.1,(v5.2.2.2.2.2.2.2.2.2.2.1,(v5.2.2.2.2.2.2.2.2.2.2.2.1,())))))))))))),((0:Int),()))))) (cR (dup 1 (k ((v5.1,(v5.2.1,(v5.2.2.1,((v5.2.2.2.1,(v5.2.2.2.2.1,())),((2:Int),(v5.2.2.2.2.2.2.1,(v.2.2.1,(v.2.2.2.1,(v5.2.2.2.2.2.2.2.2.2.2.2.2.1,(v5.2.2.2.2.2.2.2.2.2.2.2.2.2.1,(v5.2.2.2.2.2.2.2.2.2.2.1,(v5.2.2.2.2.2.2.2.2.2.2.2.1,())))))))))))),((0:Int),())))) (
 cR (dup 1 (k ((v5.1,(v5.2.1,(v5.2.2.1,((v5.2.2.2.1,(v5.2.2.2.2.1,())),((2:Int),(v5.2.2.2.2.2.2.1,(v.2.2.1,(v.2.2.2.1,(v5.2.2.2.2.2.2.2.2.2.2.2.2.1,(v5.2.2.2.2.2.2.2.2.2.2.2.2.2.1,(v5.2.2.2.2.2.2.2.2.2.2.1,(v5.2.2.2.2.2.2.2.2.2.2.2.1,())))))))))))),((0:Int),())))) (k ((v5.1,(v5.2.1,(v5.2.2.1,((v5.2.2.2.1,(v5.2.2.2.2.1,())),((2:Int),(v5.2.2.2.2.2.2.1,(v.2.2.1,(v.2.2.2.1,(v5.2.2.2.2.2.2.2.2.2.2.2.2.1,(v5.2.2.2.2.2.2.2.2.2.2.2.2.2.1,(v5.2.2.2.2.2.2.2.2.2.2.1,(v5.2.2.2.2.2.2.2.2.2.2.2.1,())))))))))))),((0:Int),()))))) else if (c.2.2.2.2.1 !=(2:Int))=true then if (c.2.2.2.2.1 !=(3:Int))=true then k (c,((6:Int),())) else (Jd n c.2.2.2.2.2.2.2.2.1 v.2.2.2.1).bind fun v6=>if (decide (v6≥(0:Int)))=true then k (c,((4:Int),())) else if (decide ((c.2.2.2.2.2.2.2.2.1.n:Int)≥(8:Int)))=true then k (c,((5:Int),())) else if zb (v5.2.2.2.2.2.2.2.2.2.2.2.2.1.n+1) 32=true then k ((v5.1,(v5.2.1,(v5.2.2.1,((v5.2.2.2.1,(v5.2.2.2.2.1,())),((3:Int),(v5.2.2.2.2.2.2.1,(v5.2.2.2.2.2.2.2.1,((v5.2.2.2.2.2.2.2.2.1,(v5.2.2.2.2.2.2.2.2.2.1,())),((⟨(v5.2.2.2.2.2.2.2.2.2.2.2.2.1.n+1),fun q=>if q<v5.2.2.2.2.2.2.2.2.2.2.2.2.1.n then v5.2.2.2.2.2.2.2.2.2.2.2.2.1.at' q else (fun q=>List.getD (α:=U0) [v.2.2.2.1] q (ua (.pair .str (.pair .str .unit)))) (q - v5.2.2.2.2.2.2.2.2.2.2.2.2.1.n)⟩:Sq U0),(v5.2.2.2.2.2.2.2.2.2.2.2.2.2.1,(v5.2.2.2.2.2.2.2.2.2.2.1,(v5.2.2.2.2.2.2.2.2.2.2.2.1,())))))))))))),((0:Int),()))
 else none else (Jd n c.2.2.2.2.2.2.2.2.1 v.2.2.2.1).bind fun v7=>if (decide (v7≥(0:Int)))=true then k (c,((4:Int),())) else if (decide ((c.2.2.2.2.2.2.2.2.1.n:Int)≥(8:Int)))=true then k (c,((5:Int),())) else if zb (v5.2.2.2.2.2.2.2.2.2.2.2.2.1.n+1) 32=true then k ((v5.1,(v5.2.1,(v5.2.2.1,((v5.2.2.2.1,(v5.2.2.2.2.1,())),((3:Int),(v5.2.2.2.2.2.2.1,(v5.2.2.2.2.2.2.2.1,((v5.2.2.2.2.2.2.2.2.1,(v5.2.2.2.2.2.2.2.2.2.1,())),((⟨(v5.2.2.2.2.2.2.2.2.2.2.2.2.1.n+1),fun q=>if q<v5.2.2.2.2.2.2.2.2.2.2.2.2.1.n then v5.2.2.2.2.2.2.2.2.2.2.2.2.1.at' q else (fun q=>List.getD (α:=U0) [v.2.2.2.1] q (ua (.pair .str (.pair .str .unit)))) (q - v5.2.2.2.2.2.2.2.2.2.2.2.2.1.n)⟩:Sq U0),(v5.2.2.2.2.2.2.2.2.2.2.2.2.2.1,(v5.2.2.2.2.2.2.2.2.2.2.1,(v5.2.2.2.2.2.2.2.2.2.2.2.1,())))))))))))),((0:Int),())) else none else k (c,((1:Int),()))
def eO (n:Nat) (c:T0) (v:T1):Option (T0×Int×Unit):=rQ n c v some
theorem thb (n:Nat) {S:Type}:∀ c v (φ:_→Option S),(eO n c v).bind φ=rQ n c v φ:=by
  intros;unfold eO rQ;first | (simp only [la,fa,iB,bB,oL,oX,nB,Option.bind_some]) | rfl
def ES (n:Nat):Hint Out:={ live:=fun c=>[],run:=fun c=>none,xm:=fun c q=>none,sch:=fun c=>(cond (Nat.beq c 7) (some [(0,0),(2,0),(4,0),(5,5),(1,7),(3,7),(6,6),(7,2),(8,6),(9,2)]) none) }
theorem r8 (n:Nat):ra tys (ja Out (ai n)) (ES n) n (ia Tryz.f45) 0:=na (fun _=>rfl) _ _ (by kernel_rfl)
theorem zcb (n:Nat):Enters Tryz.prog 45:=enters_of (c:=ia Tryz.f45) Tryz.func45 (by kernel_rfl) (by kernel_rfl)
def vJ (n:Nat):Entry:=⟨45,pcT K13 (.many K19) (fun xs=>eO n xs.1 xs.2.1),none,none⟩
theorem FS (n:Nat):EntryOk Tryz.prog gl (vJ n):=Aa (zcb n) fun xs y h=>oa tys_ok (Gj n) mixed (hint:=ES n) (n:=n) Tryz.func45 (Ba (r8 n)) (ma (φ:=(fun y=>some (Out.ret (rb (.many K19) y)))) (by kernel_rfl) (thb n xs.1 xs.2.1 _) h)
def DS (n:Nat):List Entry:=vJ n::ai n
theorem fO (n:Nat):AllOk Tryz.prog gl (DS n):=.cons (FS n) (Gj n)
def mu (n:Nat) {R:Type} (c:T0) (v:T1) (k:U3→Option R):Option R:=(HO n c).bind fun v1=>if (!v1)=false then (yh n v).bind fun v2=>if (!v2)=true then k ((0:Int),((0:Int),((0:Int),((⟨#[]⟩:BA),(false,((0:Int),((⟨#[]⟩:BA),(false,((⟨#[]⟩:BA),((⟨#[]⟩:BA),((0:Int),(false,((1:Int),((⟨0,fun _=>ua (.pair .str (.pair .str .unit))⟩:Sq U0),((⟨0,fun _=>ua .str⟩:Sq BA),()))))))))))))))) else (Kh n c).bind fun v3=>if (v.1==(3:Int))=true then if (v3.2.2.2.2.2.1 !=(1:Int))=true then k ((0:Int),((0:Int),((0:Int),((⟨#[]⟩:BA),(false,((0:Int),((⟨#[]⟩:BA),(false,((⟨#[]⟩:BA),((⟨#[]⟩:BA),((0:Int),(false,((6:Int),((⟨0,fun _=>ua (.pair .str (.pair .str .unit))⟩:Sq U0),((⟨0,fun _=>ua .str⟩:Sq BA),()))))))))))))))) else cR (cR (k (v3.1,(v3.2.1,(v3.2.2.1,(v3.2.2.2.1,(v3.2.2.2.2.1,((2:Int),(v3.2.2.2.2.2.2.1,(v.2.2.1,(v.2.2.2.1.1,(v.2.2.2.1.2.1,(v3.2.2.2.2.2.2.2.2.2.2.1,(v3.2.2.2.2.2.2.2.2.2.2.2.1,((0:Int),(v3.2.2.2.2.2.2.2.2.2.2.2.2.1,(v3.2.2.2.2.2.2.2.2.2.2.2.2.2.1,())))))))))))))))) (dup 1 (k (v3.1,(v3.2.1,(v3.2.2.1,(v3.2.2.2.1,(v3.2.2.2.2.1,((2:Int),(v3.2.2.2.2.2.2.1,(v.2.2.1,(v.2.2.2.1.1,(v.2.2.2.1.2.1,(v3.2.2.2.2.2.2.2.2.2.2.1,(v3.2.2.2.2.2.2.2.2.2.2.2.1,((0:Int),(v3.2.2.2.2.2.2.2.2.2.2.2.2.1,(v3.2.2.2.2.2.2.2.2.2.2.2.2.2.1,())))))))))))))))))) (
 cR (dup 1 (k (v3.1,(v3.2.1,(v3.2.2.1,(v3.2.2.2.1,(v3.2.2.2.2.1,((2:Int),(v3.2.2.2.2.2.2.1,(v.2.2.1,(v.2.2.2.1.1,(v.2.2.2.1.2.1,(v3.2.2.2.2.2.2.2.2.2.2.1,(v3.2.2.2.2.2.2.2.2.2.2.2.1,((0:Int),(v3.2.2.2.2.2.2.2.2.2.2.2.2.1,(v3.2.2.2.2.2.2.2.2.2.2.2.2.2.1,()))))))))))))))))) (cR (dup 1 (k (v3.1,(v3.2.1,(v3.2.2.1,(v3.2.2.2.1,(v3.2.2.2.2.1,((2:Int),(v3.2.2.2.2.2.2.1,(v.2.2.1,(v.2.2.2.1.1,(v.2.2.2.1.2.1,(v3.2.2.2.2.2.2.2.2.2.2.1,(v3.2.2.2.2.2.2.2.2.2.2.2.1,((0:Int),(v3.2.2.2.2.2.2.2.2.2.2.2.2.1,(v3.2.2.2.2.2.2.2.2.2.2.2.2.2.1,()))))))))))))))))) (k (v3.1,(v3.2.1,(v3.2.2.1,(v3.2.2.2.1,(v3.2.2.2.2.1,((2:Int),(v3.2.2.2.2.2.2.1,(v.2.2.1,(v.2.2.2.1.1,(v.2.2.2.1.2.1,(v3.2.2.2.2.2.2.2.2.2.2.1,(v3.2.2.2.2.2.2.2.2.2.2.2.1,((0:Int),(v3.2.2.2.2.2.2.2.2.2.2.2.2.1,(v3.2.2.2.2.2.2.2.2.2.2.2.2.2.1,())))))))))))))))))) else if (v.1==(4:Int))=true then if (v3.2.2.2.2.2.1 !=(2:Int))=true then if (v3.2.2.2.2.2.1 !=(3:Int))=true then k ((0:Int),((0:Int),((0:Int),((⟨#[]⟩:BA),(false,((0:Int),((⟨#[]⟩:BA),(false,((⟨#[]⟩:BA),((⟨#[]⟩:BA),((0:Int),(false,((6:Int),((⟨0,fun _=>ua (.pair .str (.pair .str .unit))⟩:Sq U0),((⟨0,fun _=>ua .str⟩:Sq BA),()))))))))))))))) else (sCn n v3.2.2.2.2.2.2.2.2.2.2.2.2.1 v.2.2.2.1).bind fun v4=>if v4=true then k ((0:Int),((0:Int),((0:Int),((⟨#[]⟩:BA),(false,((0:Int),((⟨#[]⟩:BA),(false,((⟨#[]⟩:BA),((⟨#[]⟩:BA),((0:Int),(false,((4:Int),((⟨0,fun _=>ua (.pair .str (.pair .str .unit))⟩:Sq U0),((⟨0,fun _=>ua .str⟩:Sq BA),())))))))))))))))
 else if ((v3.2.2.2.2.2.2.2.2.2.2.2.2.1.n:Int)==(8:Int))=true then k ((0:Int),((0:Int),((0:Int),((⟨#[]⟩:BA),(false,((0:Int),((⟨#[]⟩:BA),(false,((⟨#[]⟩:BA),((⟨#[]⟩:BA),((0:Int),(false,((5:Int),((⟨0,fun _=>ua (.pair .str (.pair .str .unit))⟩:Sq U0),((⟨0,fun _=>ua .str⟩:Sq BA),()))))))))))))))) else if zb (v3.2.2.2.2.2.2.2.2.2.2.2.2.1.n+1) 32=true then k (v3.1,(v3.2.1,(v3.2.2.1,(v3.2.2.2.1,(v3.2.2.2.2.1,((3:Int),(v3.2.2.2.2.2.2.1,(v3.2.2.2.2.2.2.2.1,(v3.2.2.2.2.2.2.2.2.1,(v3.2.2.2.2.2.2.2.2.2.1,(v3.2.2.2.2.2.2.2.2.2.2.1,(v3.2.2.2.2.2.2.2.2.2.2.2.1,((0:Int),((⟨(v3.2.2.2.2.2.2.2.2.2.2.2.2.1.n+1),fun q=>if q<v3.2.2.2.2.2.2.2.2.2.2.2.2.1.n then v3.2.2.2.2.2.2.2.2.2.2.2.2.1.at' q else (fun q=>List.getD (α:=U0) [v.2.2.2.1] q (ua (.pair .str (.pair .str .unit)))) (q - v3.2.2.2.2.2.2.2.2.2.2.2.2.1.n)⟩:Sq U0),(v3.2.2.2.2.2.2.2.2.2.2.2.2.2.1,()))))))))))))))) else none else (sCn n v3.2.2.2.2.2.2.2.2.2.2.2.2.1 v.2.2.2.1).bind fun v5=>if v5=true then k ((0:Int),((0:Int),((0:Int),((⟨#[]⟩:BA),(false,((0:Int),((⟨#[]⟩:BA),(false,((⟨#[]⟩:BA),((⟨#[]⟩:BA),((0:Int),(false,((4:Int),((⟨0,fun _=>ua (.pair .str (.pair .str .unit))⟩:Sq U0),((⟨0,fun _=>ua .str⟩:Sq BA),())))))))))))))))
 else if ((v3.2.2.2.2.2.2.2.2.2.2.2.2.1.n:Int)==(8:Int))=true then k ((0:Int),((0:Int),((0:Int),((⟨#[]⟩:BA),(false,((0:Int),((⟨#[]⟩:BA),(false,((⟨#[]⟩:BA),((⟨#[]⟩:BA),((0:Int),(false,((5:Int),((⟨0,fun _=>ua (.pair .str (.pair .str .unit))⟩:Sq U0),((⟨0,fun _=>ua .str⟩:Sq BA),()))))))))))))))) else if zb (v3.2.2.2.2.2.2.2.2.2.2.2.2.1.n+1) 32=true then k (v3.1,(v3.2.1,(v3.2.2.1,(v3.2.2.2.1,(v3.2.2.2.2.1,((3:Int),(v3.2.2.2.2.2.2.1,(v3.2.2.2.2.2.2.2.1,(v3.2.2.2.2.2.2.2.2.1,(v3.2.2.2.2.2.2.2.2.2.1,(v3.2.2.2.2.2.2.2.2.2.2.1,(v3.2.2.2.2.2.2.2.2.2.2.2.1,((0:Int),((⟨(v3.2.2.2.2.2.2.2.2.2.2.2.2.1.n+1),fun q=>if q<v3.2.2.2.2.2.2.2.2.2.2.2.2.1.n then v3.2.2.2.2.2.2.2.2.2.2.2.2.1.at' q else (fun q=>List.getD (α:=U0) [v.2.2.2.1] q (ua (.pair .str (.pair .str .unit)))) (q - v3.2.2.2.2.2.2.2.2.2.2.2.2.1.n)⟩:Sq U0),(v3.2.2.2.2.2.2.2.2.2.2.2.2.2.1,()))))))))))))))) else none else k ((0:Int),((0:Int),((0:Int),((⟨#[]⟩:BA),(false,((0:Int),((⟨#[]⟩:BA),(false,((⟨#[]⟩:BA),((⟨#[]⟩:BA),((0:Int),(false,((1:Int),((⟨0,fun _=>ua (.pair .str (.pair .str .unit))⟩:Sq U0),((⟨0,fun _=>ua .str⟩:Sq BA),()))))))))))))))) else k ((0:Int),((0:Int),((0:Int),((⟨#[]⟩:BA),(false,((0:Int),((⟨#[]⟩:BA),(false,((⟨#[]⟩:BA),((⟨#[]⟩:BA),((0:Int),(false,((1:Int),((⟨0,fun _=>ua (.pair .str (.pair .str .unit))⟩:Sq U0),((⟨0,fun _=>ua .str⟩:Sq BA),())))))))))))))))
def Re (n:Nat) (c:T0) (v:T1):Option U3:=mu n c v some
theorem Tbb (n:Nat) {S:Type}:∀ c v (φ:_→Option S),(Re n c v).bind φ=mu n c v φ:=by
  intros;unfold Re mu;first | (simp only [la,fa,iB,bB,oL,oX,nB,Option.bind_some]) | rfl
def mI (n:Nat):Hint OutS:={ live:=fun c=>[],run:=fun c=>none,xm:=fun c q=>none,sch:=fun c=>(cond (Nat.beq c 8) (some [(0,0),(2,0),(4,0),(5,5),(1,7),(3,7),(6,6),(7,2),(8,6),(9,2)]) none),pr:=[(0,10,25),(0,11,9)] }
theorem JX (n:Nat):ra tys (ja OutS (DS n)).keep (mI n) n (ia Tryz.f46) 0:=na (fun _=>rfl) _ _ (by kernel_rfl)
theorem B1 (n:Nat):Enters Tryz.prog 46:=enters_of (c:=ia Tryz.f46) Tryz.func46 (by kernel_rfl) (by kernel_rfl)
def nw:List RSp:=[.one (.dat K0),.one (.dat K2)]
def mw:List RS:=[]
def C1:List Sl:=[.top,.top]
def D1:List RSp:=[.agg [.dat (.int .i64),.dat (.int .i64),.dat (.int .i64),.dat .str,.dat .bool,.dat (.int .i64),.dat .str,.dat .bool,.dat .str,.dat .str,.row 0,.row 1,.dat (.int .i64),.dat .bool],.one (.dat (.int .i64))]
def Jq:List RS:=[.row 25 2 (.pair .str (.pair .str .unit)) true true,.row 9 1 .str true true]
def ou (y:U3):OutS:=⟨false,Yo (Zc Jq (y.2.2.2.2.2.2.2.2.2.2.2.2.2.1,(y.2.2.2.2.2.2.2.2.2.2.2.2.2.2.1,()))) C1 (),nH (iE (Zc Jq (y.2.2.2.2.2.2.2.2.2.2.2.2.2.1,(y.2.2.2.2.2.2.2.2.2.2.2.2.2.2.1,()))) D1 ((y.1,(y.2.1,(y.2.2.1,(y.2.2.2.1,(y.2.2.2.2.1,(y.2.2.2.2.2.1,(y.2.2.2.2.2.2.1,(y.2.2.2.2.2.2.2.1,(y.2.2.2.2.2.2.2.2.1,(y.2.2.2.2.2.2.2.2.2.1,(y.2.2.2.2.2.2.2.2.2.2.1,(y.2.2.2.2.2.2.2.2.2.2.2.1,())))))))))))),((y.2.2.2.2.2.2.2.2.2.2.2.2.1,()),()))),Vv (Zc Jq (y.2.2.2.2.2.2.2.2.2.2.2.2.2.1,(y.2.2.2.2.2.2.2.2.2.2.2.2.2.2.1,()))) Jq (y.2.2.2.2.2.2.2.2.2.2.2.2.2.1,(y.2.2.2.2.2.2.2.2.2.2.2.2.2.2.1,()))⟩
theorem qF (n:Nat):EntryOk Tryz.prog gl ⟨46,Ee,none,some (csT nw mw (fun σ ρ=>Re n σ.1.1 σ.2.1.1) ou)⟩:=Ge (B1 n) fun σ ρ y h=>Zf tys_ok (fO n) mixed (hint:=mI n) (n:=n) Tryz.func46 (Ba (JX n)) (ma (φ:=fun y=>some (ou y)) (by kernel_rfl) (Tbb n σ.1.1 σ.2.1.1 _) h)
def Oo (n:Nat):List Entry:=⟨46,Ee,none,some (csT nw mw (fun σ ρ=>Re n σ.1.1 σ.2.1.1) ou)⟩::DS n
theorem cE (n:Nat):AllOk Tryz.prog gl (Oo n):=.cons (qF n) (fO n)
def Md (n:Nat) {R:Type} (i:Int) (l:(Sq BA)) (kn:Int→(Sq BA)→Option R) (ko:((Sq BA))→Option R) (kr:Unit→Option R) (kp:Int→Option R):Option R:=if (decide (i<(l.n:Int)))=true then if 0≤i∧i<(l.n:Int) then kn (IntKind.wrap .i64 (i+(1:Int))) (⟨l.n,fun q=>if q=(Int.toNat i)∧q<l.n then (⟨#[63]⟩:BA) else l.at' q⟩:Sq BA) else none else ko l
def ib (n:Nat):Nat→Int→(Sq BA)→Option (Lx ((Sq BA)) Unit)
 | 0,_,_=>none
 | m+1,i,l=>Md n i l (ib n m) (fun a=>some (.out a)) (fun a=>some (.ret a)) (fun p=>some (.pan p))
theorem UK (n m:Nat) {S:Type}:∀ i l (φ:_→Option S),(ib n (m+1) i l).bind φ=Md n i l (fun i l=>(ib n m i l).bind φ) (fun a=>φ (.out a)) (fun a=>φ (.ret a)) (fun p=>φ (.pan p)):=by
  intros;first | (simp only [ib,Md,la,fa,iB,bB,oL,oX,nB,Option.bind_some]) | rfl
def ni:List Sl:=.row 0::.top::.dat (.int .i64)::tp 12 []
def mi:List RS:=[.row 9 1 .str true true,.ghost [.top]]
def ux:List Sl:=.row 0::tp 14 []
def tx:List RS:=[.row 9 1 .str true true,.ghost [.top]]
def ac (K:XE→List AV→pa→Option OutS):Lx ((Sq BA)) Unit→Option OutS:=fun x=>onL x (fun a=>vc ux tx () (a,((),())) (K (.exit 0))) (fun _=>none) (fun _=>none)
def uj (n:Nat) {R:Type} (r0:(Sq BA)) (k:Unit→Option R):Option R:=(ib n n (0:Int) r0).bind fun x_1=>onL x_1 (fun a_2=>if zb (a_2.n+1) 16=true then k () else none) (fun _=>none) (fun _=>none)
def Vc (n:Nat) (r0:(Sq BA)):Option Unit:=uj n r0 some
theorem UT (n:Nat) {S:Type}:∀ r0 (φ:_→Option S),(Vc n r0).bind φ=uj n r0 φ:=by
  intros;unfold Vc uj;first | (simp only [la,fa,iB,bB,oL,oX,nB,Option.bind_some]) | rfl
def Uf (n:Nat):Hint OutS:={ live:=fun c=>(cond (Nat.beq c 0) [(0,some (.sl .str)),(2,none)] []),run:=fun c=>(cond (Nat.beq c 0) (some (Ng ni mi fun σ ρ K=>(ib n n σ.1 ρ.1).bind (ac K))) none),xm:=fun c q=>(cond (Nat.beq c 0&&Nat.beq (q.getD 1000000) 0&&q.isSome) (some [(0,some (.sl .str))]) none) }
def Tf (n:Nat) (K:XE→List AV→pa→Option OutS) (m:Nat) (i:Int) (l:(Sq BA)):Option OutS:=Oc tys (ja OutS (Oo n)) (Uf n) n (ya [0,1,0,0] (ia Tryz.f79)) 0 ni mi K m (i,()) (l,((),()))
theorem Bs (n:Nat) (K:XE→List AV→pa→Option OutS):∀ (m:Nat) i l,Tf n K m i l=(ib n m i l).bind (ac K)
  | 0,_,_=>by kernel_rfl
  | m+1,i,l=>by
    have h1:Tf n K (m+1) i l=Md n i l (Tf n K m) (fun a=>ac K (.out a)) (fun a=>ac K (.ret a)) (fun p=>ac K (.pan p)):=by kernel_rfl
    have h2:Tf n K m=fun i l=>(ib n m i l).bind (ac K):=by
      repeat (refine funext fun _=>?_)
      exact Bs n K m _ _
    rw [h1,h2];exact (UK n m _ _ (ac K)).symm
theorem tH (n:Nat):yc tys (ja OutS (Oo n)) (Uf n) n (ya [0,1,0,0] (ia Tryz.f79)) 0:=Fa (sp:=ni) (rp:=mi) (by kernel_rfl) fun K σ ρ=>Bs n K n σ.1 ρ.1
theorem VK (n:Nat):ra tys (ja OutS (Oo n)) (Uf n) n (ia Tryz.f79) 0:=⟨⟨aa,⟨tH n,⟨⟨aa,⟨aa,aa⟩⟩,⟨aa,aa⟩⟩⟩⟩,aa⟩
theorem aN (n:Nat):Enters Tryz.prog 79:=enters_of (c:=ia Tryz.f79) Tryz.func79 (by kernel_rfl) (by kernel_rfl)
def Vh:List RSp:=[.one (.row 0)]
def Uh:List RS:=[.row 9 1 .str true true]
def bN:List Sl:=[.top]
def cN:List RSp:=[]
def nh:List RS:=[]
def Kg (y:Unit):OutS:=⟨false,Yo (Zc nh ()) bN (),nH (iE (Zc nh ()) cN ()),Vv (Zc nh ()) nh ()⟩
theorem ym (n:Nat):EntryOk Tryz.prog gl ⟨79,Ee,none,some (csT Vh Uh (fun σ ρ=>Vc n ρ.1) Kg)⟩:=Ge (aN n) fun σ ρ y h=>Kb tys_ok (cE n) mixed (hint:=Uf n) (n:=n) Tryz.func79 (Ba (VK n)) (ma (φ:=fun y=>some (Kg y)) (by kernel_rfl) (UT n ρ.1 _) h)
def If (n:Nat):List Entry:=⟨79,Ee,none,some (csT Vh Uh (fun σ ρ=>Vc n ρ.1) Kg)⟩::Oo n
theorem iq (n:Nat):AllOk Tryz.prog gl (If n):=.cons (ym n) (cE n)
def De (n:Nat) {R:Type} (i c12 c13 c14:Int) (c15:BA) (c16:Bool) (c17:Int) (c18:BA) (c19:Bool) (c20 c21:BA) (c22:Int) (c23:Bool) (r11:(Sq U0)) (r2:(Sq BA)) (kn:Int→Int→Int→Int→BA→Bool→Int→BA→Bool→BA→BA→Int→Bool→(Sq U0)→(Sq BA)→Option R) (ko:U13→Option R) (kr:Unit→Option R) (kp:Int→Option R):Option R:=if (decide (i<(r11.n:Int)))=true then if 0≤i∧i<(r11.n:Int) then kn (IntKind.wrap .i64 (i+(1:Int))) c12 c13 c14 c15 c16 c17 c18 c19 c20 c21 c22 c23 (⟨r11.n,fun q=>if q=(Int.toNat i)∧q<r11.n then ((⟨#[63]⟩:BA),((⟨#[]⟩:BA),())) else r11.at' q⟩:Sq U0) r2 else none else ko (c12,c13,c14,c15,c16,c17,c18,c19,c20,c21,c22,c23,r11,r2)
def pb (n:Nat):Nat→Int→Int→Int→Int→BA→Bool→Int→BA→Bool→BA→BA→Int→Bool→(Sq U0)→(Sq BA)→Option (Lx U13 Unit)
 | 0,_,_,_,_,_,_,_,_,_,_,_,_,_,_,_=>none
 | m+1,i,c12,c13,c14,c15,c16,c17,c18,c19,c20,c21,c22,c23,r11,r2=>De n i c12 c13 c14 c15 c16 c17 c18 c19 c20 c21 c22 c23 r11 r2 (pb n m) (fun a=>some (.out a)) (fun a=>some (.ret a)) (fun p=>some (.pan p))
theorem YM (n m:Nat) {S:Type}:∀ i c12 c13 c14 c15 c16 c17 c18 c19 c20 c21 c22 c23 r11 r2 (φ:_→Option S),(pb n (m+1) i c12 c13 c14 c15 c16 c17 c18 c19 c20 c21 c22 c23 r11 r2).bind φ=De n i c12 c13 c14 c15 c16 c17 c18 c19 c20 c21 c22 c23 r11 r2 (fun i c12 c13 c14 c15 c16 c17 c18 c19 c20 c21 c22 c23 r11 r2=>(pb n m i c12 c13 c14 c15 c16 c17 c18 c19 c20 c21 c22 c23 r11 r2).bind φ) (fun a=>φ (.out a)) (fun a=>φ (.ret a)) (fun p=>φ (.pan p)):=by
  intros;first | (simp only [pb,De,la,fa,iB,bB,oL,oX,nB,Option.bind_some]) | rfl
def rj:List Sl:=.top::.ptr 0 0 0::.dat (.int .i64)::tp 15 []
def qj:List RS:=[.box 29 14 false [.dat (.int .i64),.dat (.int .i64),.dat (.int .i64),.dat .str,.dat .bool,.dat (.int .i64),.dat .str,.dat .bool,.dat .str,.dat .str,.row 1,.row 2,.dat (.int .i64),.dat .bool],.row 25 2 (.pair .str (.pair .str .unit)) true true,.row 9 1 .str true true,.ghost [.top]]
def Uy:List Sl:=.top::.ptr 0 0 0::tp 16 []
def Sy:List RS:=[.box 29 14 false [.dat (.int .i64),.dat (.int .i64),.dat (.int .i64),.dat .str,.dat .bool,.dat (.int .i64),.dat .str,.dat .bool,.dat .str,.dat .str,.row 1,.row 2,.dat (.int .i64),.dat .bool],.row 25 2 (.pair .str (.pair .str .unit)) true true,.row 9 1 .str true true,.ghost [.top]]
def uc (K:XE→List AV→pa→Option OutS):Lx U13 Unit→Option OutS:=fun x=>onL x (fun a=>vc Uy Sy () ((a.1,(a.2.1,(a.2.2.1,(a.2.2.2.1,(a.2.2.2.2.1,(a.2.2.2.2.2.1,(a.2.2.2.2.2.2.1,(a.2.2.2.2.2.2.2.1,(a.2.2.2.2.2.2.2.2.1,(a.2.2.2.2.2.2.2.2.2.1,(a.2.2.2.2.2.2.2.2.2.2.1,(a.2.2.2.2.2.2.2.2.2.2.2.1,())))))))))))),(a.2.2.2.2.2.2.2.2.2.2.2.2.1,(a.2.2.2.2.2.2.2.2.2.2.2.2.2,((),())))) (K (.exit 0))) (fun _=>none) (fun _=>none)
def yl (n:Nat) {R:Type} (c c1 c2:Int) (c3:BA) (c4:Bool) (c5:Int) (c6:BA) (c7:Bool) (c8 c9:BA) (c10:Int) (c11:Bool) (r0:(Sq U0)) (r1:(Sq BA)) (k:Unit→Option R):Option R:=(pb n n (0:Int) c c1 c2 c3 c4 c5 c6 c7 c8 c9 c10 c11 r0 r1).bind fun x_1=>onL x_1 (fun a_2=>(Vc n a_2.2.2.2.2.2.2.2.2.2.2.2.2.2).bind fun v=>k ()) (fun _=>none) (fun _=>none)
def La (n:Nat) (c c1 c2:Int) (c3:BA) (c4:Bool) (c5:Int) (c6:BA) (c7:Bool) (c8 c9:BA) (c10:Int) (c11:Bool) (r0:(Sq U0)) (r1:(Sq BA)):Option Unit:=yl n c c1 c2 c3 c4 c5 c6 c7 c8 c9 c10 c11 r0 r1 some
theorem SV (n:Nat) {S:Type}:∀ c c1 c2 c3 c4 c5 c6 c7 c8 c9 c10 c11 r0 r1 (φ:_→Option S),(La n c c1 c2 c3 c4 c5 c6 c7 c8 c9 c10 c11 r0 r1).bind φ=yl n c c1 c2 c3 c4 c5 c6 c7 c8 c9 c10 c11 r0 r1 φ:=by
  intros;unfold La yl;first | (simp only [la,fa,iB,bB,oL,oX,nB,Option.bind_some]) | rfl
def mh (n:Nat):Hint OutS:={ live:=fun c=>(cond (Nat.beq c 0) [(1,none),(2,none)] []),run:=fun c=>(cond (Nat.beq c 0) (some (Ng rj qj fun σ ρ K=>(pb n n σ.1 ρ.1.1 ρ.1.2.1 ρ.1.2.2.1 ρ.1.2.2.2.1 ρ.1.2.2.2.2.1 ρ.1.2.2.2.2.2.1 ρ.1.2.2.2.2.2.2.1 ρ.1.2.2.2.2.2.2.2.1 ρ.1.2.2.2.2.2.2.2.2.1 ρ.1.2.2.2.2.2.2.2.2.2.1 ρ.1.2.2.2.2.2.2.2.2.2.2.1 ρ.1.2.2.2.2.2.2.2.2.2.2.2.1 ρ.2.1 ρ.2.2.1).bind (uc K))) none),xm:=fun c q=>(cond (Nat.beq c 0&&Nat.beq (q.getD 1000000) 0&&q.isSome) (some [(1,none)]) none) }
def lh (n:Nat) (K:XE→List AV→pa→Option OutS) (m:Nat) (i:Int) (c12:Int) (c13:Int) (c14:Int) (c15:BA) (c16:Bool) (c17:Int) (c18:BA) (c19:Bool) (c20:BA) (c21:BA) (c22:Int) (c23:Bool) (r11:(Sq U0)) (r2:(Sq BA)):Option OutS:=Oc tys (ja OutS (If n)) (mh n) n (ya [1,0,1,0,0] (ia Tryz.f52)) 0 rj qj K m (i,()) ((c12,(c13,(c14,(c15,(c16,(c17,(c18,(c19,(c20,(c21,(c22,(c23,())))))))))))),(r11,(r2,((),()))))
theorem Jv (n:Nat) (K:XE→List AV→pa→Option OutS):∀ (m:Nat) i c12 c13 c14 c15 c16 c17 c18 c19 c20 c21 c22 c23 r11 r2,lh n K m i c12 c13 c14 c15 c16 c17 c18 c19 c20 c21 c22 c23 r11 r2=(pb n m i c12 c13 c14 c15 c16 c17 c18 c19 c20 c21 c22 c23 r11 r2).bind (uc K)
  | 0,_,_,_,_,_,_,_,_,_,_,_,_,_,_,_=>by kernel_rfl
  | m+1,i,c12,c13,c14,c15,c16,c17,c18,c19,c20,c21,c22,c23,r11,r2=>by
    have h1:lh n K (m+1) i c12 c13 c14 c15 c16 c17 c18 c19 c20 c21 c22 c23 r11 r2=De n i c12 c13 c14 c15 c16 c17 c18 c19 c20 c21 c22 c23 r11 r2 (lh n K m) (fun a=>uc K (.out a)) (fun a=>uc K (.ret a)) (fun p=>uc K (.pan p)):=by kernel_rfl
    have h2:lh n K m=fun i c12 c13 c14 c15 c16 c17 c18 c19 c20 c21 c22 c23 r11 r2=>(pb n m i c12 c13 c14 c15 c16 c17 c18 c19 c20 c21 c22 c23 r11 r2).bind (uc K):=by
      repeat (refine funext fun _=>?_)
      exact Jv n K m _ _ _ _ _ _ _ _ _ _ _ _ _ _ _
    rw [h1,h2];exact (YM n m _ _ _ _ _ _ _ _ _ _ _ _ _ _ _ (uc K)).symm
theorem TK (n:Nat):yc tys (ja OutS (If n)) (mh n) n (ya [1,0,1,0,0] (ia Tryz.f52)) 0:=Fa (sp:=rj) (rp:=qj) (by kernel_rfl) fun K σ ρ=>Jv n K n σ.1 ρ.1.1 ρ.1.2.1 ρ.1.2.2.1 ρ.1.2.2.2.1 ρ.1.2.2.2.2.1 ρ.1.2.2.2.2.2.1 ρ.1.2.2.2.2.2.2.1 ρ.1.2.2.2.2.2.2.2.1 ρ.1.2.2.2.2.2.2.2.2.1 ρ.1.2.2.2.2.2.2.2.2.2.1 ρ.1.2.2.2.2.2.2.2.2.2.2.1 ρ.1.2.2.2.2.2.2.2.2.2.2.2.1 ρ.2.1 ρ.2.2.1
theorem ZM (n:Nat):ra tys (ja OutS (If n)) (mh n) n (ia Tryz.f52) 0:=⟨aa,⟨⟨aa,⟨TK n,⟨⟨aa,⟨aa,aa⟩⟩,⟨aa,aa⟩⟩⟩⟩,aa⟩⟩
theorem SP (n:Nat):Enters Tryz.prog 52:=enters_of (c:=ia Tryz.f52) Tryz.func52 (by kernel_rfl) (by kernel_rfl)
def tj:List RSp:=[.agg [.dat (.int .i64),.dat (.int .i64),.dat (.int .i64),.dat .str,.dat .bool,.dat (.int .i64),.dat .str,.dat .bool,.dat .str,.dat .str,.row 0,.row 1,.dat (.int .i64),.dat .bool]]
def sj:List RS:=[.row 25 2 (.pair .str (.pair .str .unit)) true true,.row 9 1 .str true true]
def TP:List Sl:=[.top]
def UP:List RSp:=[]
def Th:List RS:=[]
def Jh (y:Unit):OutS:=⟨false,Yo (Zc Th ()) TP (),nH (iE (Zc Th ()) UP ()),Vv (Zc Th ()) Th ()⟩
theorem gq (n:Nat):EntryOk Tryz.prog gl ⟨52,Ee,none,some (csT tj sj (fun σ ρ=>La n σ.1.1 σ.1.2.1 σ.1.2.2.1 σ.1.2.2.2.1 σ.1.2.2.2.2.1 σ.1.2.2.2.2.2.1 σ.1.2.2.2.2.2.2.1 σ.1.2.2.2.2.2.2.2.1 σ.1.2.2.2.2.2.2.2.2.1 σ.1.2.2.2.2.2.2.2.2.2.1 σ.1.2.2.2.2.2.2.2.2.2.2.1 σ.1.2.2.2.2.2.2.2.2.2.2.2.1 ρ.1 ρ.2.1) Jh)⟩:=Ge (SP n) fun σ ρ y h=>Kb tys_ok (iq n) mixed (hint:=mh n) (n:=n) Tryz.func52 (Ba (ZM n)) (ma (φ:=fun y=>some (Jh y)) (by kernel_rfl) (SV n σ.1.1 σ.1.2.1 σ.1.2.2.1 σ.1.2.2.2.1 σ.1.2.2.2.2.1 σ.1.2.2.2.2.2.1 σ.1.2.2.2.2.2.2.1 σ.1.2.2.2.2.2.2.2.1 σ.1.2.2.2.2.2.2.2.2.1 σ.1.2.2.2.2.2.2.2.2.2.1 σ.1.2.2.2.2.2.2.2.2.2.2.1 σ.1.2.2.2.2.2.2.2.2.2.2.2.1 ρ.1 ρ.2.1 _) h)
def fq (n:Nat):List Entry:=⟨52,Ee,none,some (csT tj sj (fun σ ρ=>La n σ.1.1 σ.1.2.1 σ.1.2.2.1 σ.1.2.2.2.1 σ.1.2.2.2.2.1 σ.1.2.2.2.2.2.1 σ.1.2.2.2.2.2.2.1 σ.1.2.2.2.2.2.2.2.1 σ.1.2.2.2.2.2.2.2.2.1 σ.1.2.2.2.2.2.2.2.2.2.1 σ.1.2.2.2.2.2.2.2.2.2.2.1 σ.1.2.2.2.2.2.2.2.2.2.2.2.1 ρ.1 ρ.2.1) Jh)⟩::If n
theorem As (n:Nat):AllOk Tryz.prog gl (fq n):=.cons (gq n) (iq n)
def yC (n:Nat) {R:Type} (c:T0) (k:T0→Option R):Option R:=if (c.2.2.2.2.1 !=(0:Int))=true then if (c.2.2.2.2.1 !=(5:Int))=true then k (c.1,(c.2.1,(c.2.2.1,(c.2.2.2.1,((1:Int),(c.2.2.2.2.2.1,(false,(((⟨#[]⟩:BA),((⟨#[]⟩:BA),())),((⟨0,fun _=>ua (.pair .str (.pair .str .unit))⟩:Sq U0),((⟨0,fun _=>ua .str⟩:Sq BA),((0:Int),(false,())))))))))))) else k (c.1,(c.2.1,(c.2.2.1,(c.2.2.2.1,(c.2.2.2.2.1,(c.2.2.2.2.2.1,(false,(((⟨#[]⟩:BA),((⟨#[]⟩:BA),())),((⟨0,fun _=>ua (.pair .str (.pair .str .unit))⟩:Sq U0),((⟨0,fun _=>ua .str⟩:Sq BA),((0:Int),(false,())))))))))))) else k (c.1,(c.2.1,(c.2.2.1,(c.2.2.2.1,(c.2.2.2.2.1,(c.2.2.2.2.2.1,(false,(((⟨#[]⟩:BA),((⟨#[]⟩:BA),())),((⟨0,fun _=>ua (.pair .str (.pair .str .unit))⟩:Sq U0),((⟨0,fun _=>ua .str⟩:Sq BA),((0:Int),(false,()))))))))))))
def Kw (n:Nat) (c:T0):Option T0:=yC n c some
theorem ycb (n:Nat) {S:Type}:∀ c (φ:_→Option S),(Kw n c).bind φ=yC n c φ:=by
  intros;unfold Kw yC;first | (simp only [la,fa,iB,bB,oL,oX,nB,Option.bind_some]) | rfl
def uJ (n:Nat):Hint Out:={ live:=fun c=>[],run:=fun c=>none,xm:=fun c q=>none }
theorem CY (n:Nat):ra tys (ja Out (fq n)) (uJ n) n (ia Tryz.f47) 0:=na (fun _=>rfl) _ _ (by kernel_rfl)
theorem T3 (n:Nat):Enters Tryz.prog 47:=enters_of (c:=ia Tryz.f47) Tryz.func47 (by kernel_rfl) (by kernel_rfl)
def Lw (n:Nat):Entry:=⟨47,pcT K1 (.one K0) (fun xs=>Kw n xs.1),none,none⟩
theorem yG (n:Nat):EntryOk Tryz.prog gl (Lw n):=Aa (T3 n) fun xs y h=>oa tys_ok (As n) mixed (hint:=uJ n) (n:=n) Tryz.func47 (Ba (CY n)) (ma (φ:=(fun y=>some (Out.ret (rb (.one K0) y)))) (by kernel_rfl) (ycb n xs.1 _) h)
def xG (n:Nat):List Entry:=Lw n::fq n
theorem FE (n:Nat):AllOk Tryz.prog gl (xG n):=.cons (yG n) (As n)
def Cl (n:Nat) {R:Type} (c:T0) (k:U3→Option R):Option R:=(HO n c).bind fun v=>if (!v)=true then k ((0:Int),((0:Int),((0:Int),((⟨#[]⟩:BA),(false,((0:Int),((⟨#[]⟩:BA),(false,((⟨#[]⟩:BA),((⟨#[]⟩:BA),((0:Int),(false,((1:Int),((⟨0,fun _=>ua (.pair .str (.pair .str .unit))⟩:Sq U0),((⟨0,fun _=>ua .str⟩:Sq BA),()))))))))))))))) else (cg n c).bind fun v1=>k (v1.1,(v1.2.1,(v1.2.2.1,(v1.2.2.2.1,(v1.2.2.2.2.1,(v1.2.2.2.2.2.1,(v1.2.2.2.2.2.2.1,(v1.2.2.2.2.2.2.2.1,(v1.2.2.2.2.2.2.2.2.1,(v1.2.2.2.2.2.2.2.2.2.1,(v1.2.2.2.2.2.2.2.2.2.2.1,(v1.2.2.2.2.2.2.2.2.2.2.2.1,((0:Int),(v1.2.2.2.2.2.2.2.2.2.2.2.2.1,(v1.2.2.2.2.2.2.2.2.2.2.2.2.2.1,())))))))))))))))
def Id (n:Nat) (c:T0):Option U3:=Cl n c some
theorem A1 (n:Nat) {S:Type}:∀ c (φ:_→Option S),(Id n c).bind φ=Cl n c φ:=by
  intros;unfold Id Cl;first | (simp only [la,fa,iB,bB,oL,oX,nB,Option.bind_some]) | rfl
def Cz (n:Nat):Hint OutS:={ live:=fun c=>[],run:=fun c=>none,xm:=fun c q=>none,pr:=[(0,10,25),(0,11,9)] }
theorem mR (n:Nat):ra tys (ja OutS (xG n)).keep (Cz n) n (ia Tryz.f48) 0:=na (fun _=>rfl) _ _ (by kernel_rfl)
theorem CU (n:Nat):Enters Tryz.prog 48:=enters_of (c:=ia Tryz.f48) Tryz.func48 (by kernel_rfl) (by kernel_rfl)
def xn:List RSp:=[.one (.dat K0)]
def wn:List RS:=[]
def DU:List Sl:=[.top]
def EU:List RSp:=[.agg [.dat (.int .i64),.dat (.int .i64),.dat (.int .i64),.dat .str,.dat .bool,.dat (.int .i64),.dat .str,.dat .bool,.dat .str,.dat .str,.row 0,.row 1,.dat (.int .i64),.dat .bool],.one (.dat (.int .i64))]
def Ik:List RS:=[.row 25 2 (.pair .str (.pair .str .unit)) true true,.row 9 1 .str true true]
def Dl (y:U3):OutS:=⟨false,Yo (Zc Ik (y.2.2.2.2.2.2.2.2.2.2.2.2.2.1,(y.2.2.2.2.2.2.2.2.2.2.2.2.2.2.1,()))) DU (),nH (iE (Zc Ik (y.2.2.2.2.2.2.2.2.2.2.2.2.2.1,(y.2.2.2.2.2.2.2.2.2.2.2.2.2.2.1,()))) EU ((y.1,(y.2.1,(y.2.2.1,(y.2.2.2.1,(y.2.2.2.2.1,(y.2.2.2.2.2.1,(y.2.2.2.2.2.2.1,(y.2.2.2.2.2.2.2.1,(y.2.2.2.2.2.2.2.2.1,(y.2.2.2.2.2.2.2.2.2.1,(y.2.2.2.2.2.2.2.2.2.2.1,(y.2.2.2.2.2.2.2.2.2.2.2.1,())))))))))))),((y.2.2.2.2.2.2.2.2.2.2.2.2.1,()),()))),Vv (Zc Ik (y.2.2.2.2.2.2.2.2.2.2.2.2.2.1,(y.2.2.2.2.2.2.2.2.2.2.2.2.2.2.1,()))) Ik (y.2.2.2.2.2.2.2.2.2.2.2.2.2.1,(y.2.2.2.2.2.2.2.2.2.2.2.2.2.2.1,()))⟩
theorem lw (n:Nat):EntryOk Tryz.prog gl ⟨48,Ee,none,some (csT xn wn (fun σ ρ=>Id n σ.1.1) Dl)⟩:=Ge (CU n) fun σ ρ y h=>Zf tys_ok (FE n) mixed (hint:=Cz n) (n:=n) Tryz.func48 (Ba (mR n)) (ma (φ:=fun y=>some (Dl y)) (by kernel_rfl) (A1 n σ.1.1 _) h)
def kw (n:Nat):List Entry:=⟨48,Ee,none,some (csT xn wn (fun σ ρ=>Id n σ.1.1) Dl)⟩::xG n
theorem Gx (n:Nat):AllOk Tryz.prog gl (kw n):=.cons (lw n) (FE n)
def Zq (n:Nat) {R:Type} (id tenant ip:Int) (k:Bool→Option R):Option R:=if (decide (id≥(1:Int)))=true then if (decide (id≤(1099511627776:Int)))=true then (UI n tenant (3:Int)).bind fun v=>if v=true then (UI n ip (1099511627776:Int)).bind fun v1=>k v1 else k false else k false else k false
def wo (n:Nat) (id tenant ip:Int):Option Bool:=Zq n id tenant ip some
theorem R3 (n:Nat) {S:Type}:∀ id tenant ip (φ:_→Option S),(wo n id tenant ip).bind φ=Zq n id tenant ip φ:=by
  intros;unfold wo Zq;first | (simp only [la,fa,iB,bB,oL,oX,nB,Option.bind_some]) | rfl
def HA (n:Nat):Hint Out:={ live:=fun c=>[],run:=fun c=>none,xm:=fun c q=>none }
theorem xS (n:Nat):ra tys (ja Out (kw n)) (HA n) n (ia Tryz.f49) 0:=na (fun _=>rfl) _ _ (by kernel_rfl)
theorem oV (n:Nat):Enters Tryz.prog 49:=enters_of (c:=ia Tryz.f49) Tryz.func49 (by kernel_rfl) (by kernel_rfl)
def On (n:Nat):Entry:=⟨49,pcT (.pair (.int .i64) (.pair (.int .i64) (.pair (.int .i64) .unit))) (.one .bool) (fun xs=>wo n xs.1 xs.2.1 xs.2.2.1),none,none⟩
theorem Jw (n:Nat):EntryOk Tryz.prog gl (On n):=Aa (oV n) fun xs y h=>oa tys_ok (Gx n) mixed (hint:=HA n) (n:=n) Tryz.func49 (Ba (xS n)) (ma (φ:=(fun y=>some (Out.ret (rb (.one .bool) y)))) (by kernel_rfl) (R3 n xs.1 xs.2.1 xs.2.2.1 _) h)
def Iw (n:Nat):List Entry:=On n::kw n
theorem Tx (n:Nat):AllOk Tryz.prog gl (Iw n):=.cons (Jw n) (Gx n)
def yS (n:Nat) {R:Type} (id tenant ip:Int) (k:T0→Option R):Option R:=k (id,(tenant,(ip,(((⟨#[]⟩:BA),(false,())),((0:Int),((⟨#[]⟩:BA),(false,(((⟨#[]⟩:BA),((⟨#[]⟩:BA),())),((⟨0,fun _=>ua (.pair .str (.pair .str .unit))⟩:Sq U0),((⟨0,fun _=>ua .str⟩:Sq BA),((0:Int),(false,()))))))))))))
def BY (n:Nat) (id tenant ip:Int):Option T0:=yS n id tenant ip some
theorem kfb (n:Nat) {S:Type}:∀ id tenant ip (φ:_→Option S),(BY n id tenant ip).bind φ=yS n id tenant ip φ:=by
  intros;unfold BY yS;first | (simp only [la,fa,iB,bB,oL,oX,nB,Option.bind_some]) | rfl
def dO (n:Nat):Hint Out:={ live:=fun c=>[],run:=fun c=>none,xm:=fun c q=>none }
theorem S3 (n:Nat):ra tys (ja Out (Iw n)) (dO n) n (ia Tryz.f50) 0:=na (fun _=>rfl) _ _ (by kernel_rfl)
theorem q8 (n:Nat):Enters Tryz.prog 50:=enters_of (c:=ia Tryz.f50) Tryz.func50 (by kernel_rfl) (by kernel_rfl)
def xC (n:Nat):Entry:=⟨50,pcT (.pair (.int .i64) (.pair (.int .i64) (.pair (.int .i64) .unit))) (.one K0) (fun xs=>BY n xs.1 xs.2.1 xs.2.2.1),none,none⟩
theorem jM (n:Nat):EntryOk Tryz.prog gl (xC n):=Aa (q8 n) fun xs y h=>oa tys_ok (Tx n) mixed (hint:=dO n) (n:=n) Tryz.func50 (Ba (S3 n)) (ma (φ:=(fun y=>some (Out.ret (rb (.one K0) y)))) (by kernel_rfl) (kfb n xs.1 xs.2.1 xs.2.2.1 _) h)
def iM (n:Nat):List Entry:=xC n::Iw n
theorem tJ (n:Nat):AllOk Tryz.prog gl (iM n):=.cons (jM n) (Tx n)
def jw (n:Nat) {R:Type} (id tenant ip:Int) (k:U3→Option R):Option R:=(HO n (id,(tenant,(ip,(((⟨#[]⟩:BA),(false,())),((0:Int),((⟨#[]⟩:BA),(false,(((⟨#[]⟩:BA),((⟨#[]⟩:BA),())),((⟨0,fun _=>ua (.pair .str (.pair .str .unit))⟩:Sq U0),((⟨0,fun _=>ua .str⟩:Sq BA),((0:Int),(false,()))))))))))))).bind fun v=>if (!v)=true then k ((0:Int),((0:Int),((0:Int),((⟨#[]⟩:BA),(false,((0:Int),((⟨#[]⟩:BA),(false,((⟨#[]⟩:BA),((⟨#[]⟩:BA),((0:Int),(false,((1:Int),((⟨0,fun _=>ua (.pair .str (.pair .str .unit))⟩:Sq U0),((⟨0,fun _=>ua .str⟩:Sq BA),()))))))))))))))) else k (id,(tenant,(ip,((⟨#[]⟩:BA),(false,((0:Int),((⟨#[]⟩:BA),(false,((⟨#[]⟩:BA),((⟨#[]⟩:BA),((0:Int),(false,((0:Int),((⟨0,fun _=>ua (.pair .str (.pair .str .unit))⟩:Sq U0),((⟨0,fun _=>ua .str⟩:Sq BA),())))))))))))))))
def Eh (n:Nat) (id tenant ip:Int):Option U3:=jw n id tenant ip some
theorem b7 (n:Nat) {S:Type}:∀ id tenant ip (φ:_→Option S),(Eh n id tenant ip).bind φ=jw n id tenant ip φ:=by
  intros;unfold Eh jw;first | (simp only [la,fa,iB,bB,oL,oX,nB,Option.bind_some]) | rfl
def aE (n:Nat):Hint OutS:={ live:=fun c=>[],run:=fun c=>none,xm:=fun c q=>none,pr:=[(0,10,25),(0,11,9)] }
theorem BU (n:Nat):ra tys (ja OutS (iM n)).keep (aE n) n (ia Tryz.f41) 0:=na (fun _=>rfl) _ _ (by kernel_rfl)
theorem EX (n:Nat):Enters Tryz.prog 41:=enters_of (c:=ia Tryz.f41) Tryz.func41 (by kernel_rfl) (by kernel_rfl)
def Hq:List RSp:=[.one (.dat (.int .i64)),.one (.dat (.int .i64)),.one (.dat (.int .i64))]
def Gq:List RS:=[]
def FX:List Sl:=[.top,.top,.top]
def GX:List RSp:=[.agg [.dat (.int .i64),.dat (.int .i64),.dat (.int .i64),.dat .str,.dat .bool,.dat (.int .i64),.dat .str,.dat .bool,.dat .str,.dat .str,.row 0,.row 1,.dat (.int .i64),.dat .bool],.one (.dat (.int .i64))]
def vn:List RS:=[.row 25 2 (.pair .str (.pair .str .unit)) true true,.row 9 1 .str true true]
def No (y:U3):OutS:=⟨false,Yo (Zc vn (y.2.2.2.2.2.2.2.2.2.2.2.2.2.1,(y.2.2.2.2.2.2.2.2.2.2.2.2.2.2.1,()))) FX (),nH (iE (Zc vn (y.2.2.2.2.2.2.2.2.2.2.2.2.2.1,(y.2.2.2.2.2.2.2.2.2.2.2.2.2.2.1,()))) GX ((y.1,(y.2.1,(y.2.2.1,(y.2.2.2.1,(y.2.2.2.2.1,(y.2.2.2.2.2.1,(y.2.2.2.2.2.2.1,(y.2.2.2.2.2.2.2.1,(y.2.2.2.2.2.2.2.2.1,(y.2.2.2.2.2.2.2.2.2.1,(y.2.2.2.2.2.2.2.2.2.2.1,(y.2.2.2.2.2.2.2.2.2.2.2.1,())))))))))))),((y.2.2.2.2.2.2.2.2.2.2.2.2.1,()),()))),Vv (Zc vn (y.2.2.2.2.2.2.2.2.2.2.2.2.2.1,(y.2.2.2.2.2.2.2.2.2.2.2.2.2.2.1,()))) vn (y.2.2.2.2.2.2.2.2.2.2.2.2.2.1,(y.2.2.2.2.2.2.2.2.2.2.2.2.2.2.1,()))⟩
theorem Bz (n:Nat):EntryOk Tryz.prog gl ⟨41,Ee,none,some (csT Hq Gq (fun σ ρ=>Eh n σ.1.1 σ.2.1.1 σ.2.2.1.1) No)⟩:=Ge (EX n) fun σ ρ y h=>Zf tys_ok (tJ n) mixed (hint:=aE n) (n:=n) Tryz.func41 (Ba (BU n)) (ma (φ:=fun y=>some (No y)) (by kernel_rfl) (b7 n σ.1.1 σ.2.1.1 σ.2.2.1.1 _) h)
def zz (n:Nat):List Entry:=⟨41,Ee,none,some (csT Hq Gq (fun σ ρ=>Eh n σ.1.1 σ.2.1.1 σ.2.2.1.1) No)⟩::iM n
theorem Az (n:Nat):AllOk Tryz.prog gl (zz n):=.cons (Bz n) (tJ n)
def oJ (n:Nat) {R:Type} (line:BA) (k:(BA×Bool×Unit)→Option R):Option R:=if (line.toList==(⟨#[46]⟩:BA).toList)=true then k ((⟨#[]⟩:BA),(true,())) else if (decide ((line.size:Int)>(0:Int)))=true then if 0≤(0:Int)∧(0:Int)<(line.size:Int) then if ((bt line (0:Int))==(46:Int))=true then if 0≤(1:Int)∧(1:Int)≤(line.size:Int) then k ((line.extract (Int.toNat (1:Int)) (Int.toNat (line.size:Int))),(false,())) else none else k (line,(false,())) else none else k (line,(false,()))
def bM (n:Nat) (line:BA):Option (BA×Bool×Unit):=oJ n line some
theorem hfb (n:Nat) {S:Type}:∀ line (φ:_→Option S),(bM n line).bind φ=oJ n line φ:=by
  intros;unfold bM oJ;first | (simp only [la,fa,iB,bB,oL,oX,nB,Option.bind_some]) | rfl
def ZN (n:Nat):Hint Out:={ live:=fun c=>[],run:=fun c=>none,xm:=fun c q=>none }
theorem N3 (n:Nat):ra tys (ja Out (zz n)) (ZN n) n (ia Tryz.f104) 0:=na (fun _=>rfl) _ _ (by kernel_rfl)
theorem j8 (n:Nat):Enters Tryz.prog 104:=enters_of (c:=ia Tryz.f104) Tryz.func104 (by kernel_rfl) (by kernel_rfl)
def vC (n:Nat):Entry:=⟨104,pcT (.pair .str .unit) (.many (.pair .str (.pair .bool .unit))) (fun xs=>bM n xs.1),none,none⟩
theorem dM (n:Nat):EntryOk Tryz.prog gl (vC n):=Aa (j8 n) fun xs y h=>oa tys_ok (Az n) mixed (hint:=ZN n) (n:=n) Tryz.func104 (Ba (N3 n)) (ma (φ:=(fun y=>some (Out.ret (rb (.many (.pair .str (.pair .bool .unit))) y)))) (by kernel_rfl) (hfb n xs.1 _) h)
def cM (n:Nat):List Entry:=vC n::zz n
theorem pJ (n:Nat):AllOk Tryz.prog gl (cM n):=.cons (dM n) (Az n)
def ar (n:Nat) {R:Type} (c c1 c2:Int) (c3:BA) (c4:Bool) (c5:Int) (c6:BA) (c7:Bool) (c8 c9:BA) (c10:Int) (c11:Bool) (l:U9) (r0:(Sq U0)) (r1:(Sq BA)) (k:U14→Option R):Option R:=(bM n l.1).bind fun v=>if (!l.2.1)=true then if v.2.1=true then k ((c,(c1,(c2,((c3,(c4,())),(c5,(c6,(c7,((c8,(c9,())),(r0,(r1,(c10,(c11,())))))))))))),((0:Int),((⟨#[115,101,110,100]⟩:BA),()))) else if c11=true then k ((c,(c1,(c2,((c3,(c4,())),(c5,(c6,(c7,((c8,(c9,())),(r0,(r1,(c10,(c11,())))))))))))),((0:Int),((⟨#[]⟩:BA),()))) else if l.2.1=false then (Ln n v.1).bind fun v1=>if (!v1)=false then if (decide ((IntKind.wrap .i64 ((IntKind.wrap .i64 (c10+(v.1.size:Int)))+(2:Int)))>(8192:Int)))=true then k ((c,(c1,(c2,((c3,(c4,())),(c5,(c6,(c7,((c8,(c9,())),(r0,((⟨0,fun _=>ua .str⟩:Sq BA),((0:Int),(true,())))))))))))),((0:Int),((⟨#[]⟩:BA),()))) else if zb (r1.n+1) 16=true then k ((c,(c1,(c2,((c3,(c4,())),(c5,(c6,(c7,((c8,(c9,())),(r0,((⟨(r1.n+1),fun q=>if q<r1.n then r1.at' q else (fun q=>List.getD (α:=BA) [v.1] q (ua .str)) (q - r1.n)⟩:Sq BA),((IntKind.wrap .i64 ((IntKind.wrap .i64 (c10+(v.1.size:Int)))+(2:Int))),(c11,())))))))))))),((0:Int),((⟨#[]⟩:BA),())))
 else none else k ((c,(c1,(c2,((c3,(c4,())),(c5,(c6,(c7,((c8,(c9,())),(r0,((⟨0,fun _=>ua .str⟩:Sq BA),((0:Int),(true,())))))))))))),((0:Int),((⟨#[]⟩:BA),()))) else k ((c,(c1,(c2,((c3,(c4,())),(c5,(c6,(c7,((c8,(c9,())),(r0,((⟨0,fun _=>ua .str⟩:Sq BA),((0:Int),(true,())))))))))))),((0:Int),((⟨#[]⟩:BA),()))) else if c11=true then k ((c,(c1,(c2,((c3,(c4,())),(c5,(c6,(c7,((c8,(c9,())),(r0,(r1,(c10,(c11,())))))))))))),((0:Int),((⟨#[]⟩:BA),()))) else if l.2.1=false then (Ln n v.1).bind fun v2=>if (!v2)=false then if (decide ((IntKind.wrap .i64 ((IntKind.wrap .i64 (c10+(v.1.size:Int)))+(2:Int)))>(8192:Int)))=true then k ((c,(c1,(c2,((c3,(c4,())),(c5,(c6,(c7,((c8,(c9,())),(r0,((⟨0,fun _=>ua .str⟩:Sq BA),((0:Int),(true,())))))))))))),((0:Int),((⟨#[]⟩:BA),()))) else if zb (r1.n+1) 16=true then k ((c,(c1,(c2,((c3,(c4,())),(c5,(c6,(c7,((c8,(c9,())),(r0,((⟨(r1.n+1),fun q=>if q<r1.n then r1.at' q else (fun q=>List.getD (α:=BA) [v.1] q (ua .str)) (q - r1.n)⟩:Sq BA),((IntKind.wrap .i64 ((IntKind.wrap .i64 (c10+(v.1.size:Int)))+(2:Int))),(c11,())))))))))))),((0:Int),((⟨#[]⟩:BA),()))) else none else k ((c,(c1,(c2,((c3,(c4,())),(c5,(c6,(c7,((c8,(c9,())),(r0,((⟨0,fun _=>ua .str⟩:Sq BA),((0:Int),(true,())))))))))))),((0:Int),((⟨#[]⟩:BA),())))
 else k ((c,(c1,(c2,((c3,(c4,())),(c5,(c6,(c7,((c8,(c9,())),(r0,((⟨0,fun _=>ua .str⟩:Sq BA),((0:Int),(true,())))))))))))),((0:Int),((⟨#[]⟩:BA),())))
def Ug (n:Nat) (c c1 c2:Int) (c3:BA) (c4:Bool) (c5:Int) (c6:BA) (c7:Bool) (c8 c9:BA) (c10:Int) (c11:Bool) (l:U9) (r0:(Sq U0)) (r1:(Sq BA)):Option U14:=ar n c c1 c2 c3 c4 c5 c6 c7 c8 c9 c10 c11 l r0 r1 some
theorem X3 (n:Nat) {S:Type}:∀ c c1 c2 c3 c4 c5 c6 c7 c8 c9 c10 c11 l r0 r1 (φ:_→Option S),(Ug n c c1 c2 c3 c4 c5 c6 c7 c8 c9 c10 c11 l r0 r1).bind φ=ar n c c1 c2 c3 c4 c5 c6 c7 c8 c9 c10 c11 l r0 r1 φ:=by
  intros;unfold Ug ar;first | (simp only [la,fa,iB,bB,oL,oX,nB,Option.bind_some]) | rfl
def IA (n:Nat):Hint OutS:={ live:=fun c=>[],run:=fun c=>none,xm:=fun c q=>none,fz:=true }
theorem HS (n:Nat):ra tys (ja OutS (cM n)) (IA n) n (ia Tryz.f77) 0:=na (fun _=>rfl) _ _ (by kernel_rfl)
theorem pV (n:Nat):Enters Tryz.prog 77:=enters_of (c:=ia Tryz.f77) Tryz.func77 (by kernel_rfl) (by kernel_rfl)
def Rn:List RSp:=[.agg [.dat (.int .i64),.dat (.int .i64),.dat (.int .i64),.dat .str,.dat .bool,.dat (.int .i64),.dat .str,.dat .bool,.dat .str,.dat .str,.row 0,.row 1,.dat (.int .i64),.dat .bool],.one (.dat (.pair .str (.pair .bool .unit)))]
def Qn:List RS:=[.row 25 2 (.pair .str (.pair .str .unit)) true false,.row 9 1 .str true false]
def qV:List Sl:=[.top,.top]
def rV:List RSp:=[.one (.dat K0),.one (.dat (.int .i64)),.one (.dat .str)]
def el:List RS:=[]
def Jl (y:U14):OutS:=⟨false,Yo (Zc el ()) qV (),nH (iE (Zc el ()) rV ((y.1,()),((y.2.1,()),((y.2.2.1,()),())))),Vv (Zc el ()) el ()⟩
theorem Nw (n:Nat):EntryOk Tryz.prog gl ⟨77,Ee,none,some (csT Rn Qn (fun σ ρ=>Ug n σ.1.1 σ.1.2.1 σ.1.2.2.1 σ.1.2.2.2.1 σ.1.2.2.2.2.1 σ.1.2.2.2.2.2.1 σ.1.2.2.2.2.2.2.1 σ.1.2.2.2.2.2.2.2.1 σ.1.2.2.2.2.2.2.2.2.1 σ.1.2.2.2.2.2.2.2.2.2.1 σ.1.2.2.2.2.2.2.2.2.2.2.1 σ.1.2.2.2.2.2.2.2.2.2.2.2.1 σ.2.1.1 ρ.1 ρ.2.1) Jl)⟩:=Ge (pV n) fun σ ρ y h=>Kb tys_ok (pJ n) mixed (hint:=IA n) (n:=n) Tryz.func77 (Ba (HS n)) (ma (φ:=fun y=>some (Jl y)) (by kernel_rfl) (X3 n σ.1.1 σ.1.2.1 σ.1.2.2.1 σ.1.2.2.2.1 σ.1.2.2.2.2.1 σ.1.2.2.2.2.2.1 σ.1.2.2.2.2.2.2.1 σ.1.2.2.2.2.2.2.2.1 σ.1.2.2.2.2.2.2.2.2.1 σ.1.2.2.2.2.2.2.2.2.2.1 σ.1.2.2.2.2.2.2.2.2.2.2.1 σ.1.2.2.2.2.2.2.2.2.2.2.2.1 σ.2.1.1 ρ.1 ρ.2.1 _) h)
def Mw (n:Nat):List Entry:=⟨77,Ee,none,some (csT Rn Qn (fun σ ρ=>Ug n σ.1.1 σ.1.2.1 σ.1.2.2.1 σ.1.2.2.2.1 σ.1.2.2.2.2.1 σ.1.2.2.2.2.2.1 σ.1.2.2.2.2.2.2.1 σ.1.2.2.2.2.2.2.2.1 σ.1.2.2.2.2.2.2.2.2.1 σ.1.2.2.2.2.2.2.2.2.2.1 σ.1.2.2.2.2.2.2.2.2.2.2.1 σ.1.2.2.2.2.2.2.2.2.2.2.2.1 σ.2.1.1 ρ.1 ρ.2.1) Jl)⟩::cM n
theorem Vx (n:Nat):AllOk Tryz.prog gl (Mw n):=.cons (Nw n) (pJ n)
def SS (n:Nat) {R:Type} (kind:Int) (k:BA→Option R):Option R:=if (kind==(1:Int))=true then k (⟨#[72,69,76,79]⟩:BA) else if (kind==(2:Int))=true then k (⟨#[69,72,76,79]⟩:BA) else if (kind==(3:Int))=true then k (⟨#[77,65,73,76]⟩:BA) else if (kind==(4:Int))=true then k (⟨#[82,67,80,84]⟩:BA) else if (kind==(5:Int))=true then k (⟨#[68,65,84,65]⟩:BA) else if (kind==(6:Int))=true then k (⟨#[82,83,69,84]⟩:BA) else if (kind==(7:Int))=true then k (⟨#[78,79,79,80]⟩:BA) else if (kind==(8:Int))=true then k (⟨#[81,85,73,84]⟩:BA) else k (⟨#[86,82,70,89]⟩:BA)
def QS (n:Nat) (kind:Int):Option BA:=SS n kind some
theorem ofb (n:Nat) {S:Type}:∀ kind (φ:_→Option S),(QS n kind).bind φ=SS n kind φ:=by
  intros;unfold QS SS;first | (simp only [la,fa,iB,bB,oL,oX,nB,Option.bind_some]) | rfl
def mO (n:Nat):Hint Out:={ live:=fun c=>[],run:=fun c=>none,xm:=fun c q=>none }
theorem D4 (n:Nat):ra tys (ja Out (Mw n)) (mO n) n (ia Tryz.f106) 0:=na (fun _=>rfl) _ _ (by kernel_rfl)
theorem F8 (n:Nat):Enters Tryz.prog 106:=enters_of (c:=ia Tryz.f106) Tryz.func106 (by kernel_rfl) (by kernel_rfl)
def HC (n:Nat):Entry:=⟨106,pcT (.pair (.int .i64) .unit) (.one .str) (fun xs=>QS n xs.1),none,none⟩
theorem nM (n:Nat):EntryOk Tryz.prog gl (HC n):=Aa (F8 n) fun xs y h=>oa tys_ok (Vx n) mixed (hint:=mO n) (n:=n) Tryz.func106 (Ba (D4 n)) (ma (φ:=(fun y=>some (Out.ret (rb (.one .str) y)))) (by kernel_rfl) (ofb n xs.1 _) h)
def sv (n:Nat):List Entry:=HC n::Mw n
theorem UJ (n:Nat):AllOk Tryz.prog gl (sv n):=.cons (nM n) (Vx n)
def qg (n:Nat) {R:Type} (i:Int) (b:(Sq Int)) (kn:Int→(Sq Int)→Option R) (ko:((Sq Int))→Option R) (kr:Unit→Option R) (kp:Int→Option R):Option R:=if (decide (i<(b.n:Int)))=true then if 0≤i∧i<(b.n:Int) then if (decide ((b.at' (Int.toNat i))≥(65:Int)))=true then if 0≤i∧i<(b.n:Int) then if (decide ((b.at' (Int.toNat i))≤(90:Int)))=true then if 0≤i∧i<(b.n:Int) then if 0≤i∧i<(b.n:Int) then kn (IntKind.wrap .i64 (i+(1:Int))) (⟨b.n,fun q=>if q=(Int.toNat i)∧q<b.n then (IntKind.wrap .u8 ((b.at' (Int.toNat i))+(32:Int))) else b.at' q⟩:Sq Int) else none else none else kn (IntKind.wrap .i64 (i+(1:Int))) b else none else kn (IntKind.wrap .i64 (i+(1:Int))) b else none else ko b
def Wb (n:Nat):Nat→Int→(Sq Int)→Option (Lx ((Sq Int)) Unit)
 | 0,_,_=>none
 | m+1,i,b=>qg n i b (Wb n m) (fun a=>some (.out a)) (fun a=>some (.ret a)) (fun p=>some (.pan p))
theorem pY (n m:Nat) {S:Type}:∀ i b (φ:_→Option S),(Wb n (m+1) i b).bind φ=qg n i b (fun i b=>(Wb n m i b).bind φ) (fun a=>φ (.out a)) (fun a=>φ (.ret a)) (fun p=>φ (.pan p)):=by
  intros;first | (simp only [Wb,qg,la,fa,iB,bB,oL,oX,nB,Option.bind_some]) | rfl
def kt:List Sl:=.top::.top::.top::.row 0::.dat (.int .i64)::tp 30 []
def jt:List RS:=[.row 5 1 (.int .u8) false true]
def TI:List Sl:=.top::.top::.top::.row 0::tp 31 []
def SI:List RS:=[.row 5 1 (.int .u8) false true]
def cf (K:XE→List AV→pa→Option Out):Lx ((Sq Int)) Unit→Option Out:=fun x=>onL x (fun a=>vc TI SI () (a,()) (K (.exit 0))) (fun _=>none) (fun _=>none)
def nC (n:Nat) {R:Type} (s:BA) (k:BA→Option R):Option R:=(Wb n n (0:Int) (⟨s.size,fun q=>bt s q⟩:Sq Int)).bind fun x_1=>onL x_1 (fun a_2=>k (CD a_2.n a_2.at')) (fun _=>none) (fun _=>none)
def bf (n:Nat) (s:BA):Option BA:=nC n s some
theorem rcb (n:Nat) {S:Type}:∀ s (φ:_→Option S),(bf n s).bind φ=nC n s φ:=by
  intros;unfold bf nC;first | (simp only [la,fa,iB,bB,oL,oX,nB,Option.bind_some]) | rfl
def Dn (n:Nat):Hint Out:={ live:=fun c=>(cond (Nat.beq c 0) [(3,some (.sl (.int .u8))),(4,none)] []),run:=fun c=>(cond (Nat.beq c 0) (some (Ng kt jt fun σ ρ K=>(Wb n n σ.1 ρ.1).bind (cf K))) none),xm:=fun c q=>(cond (Nat.beq c 0&&Nat.beq (q.getD 1000000) 0&&q.isSome) (some [(3,some (.sl (.int .u8)))]) none) }
def Bn (n:Nat) (K:XE→List AV→pa→Option Out) (m:Nat) (i:Int) (b:(Sq Int)):Option Out:=Oc tys (ja Out (sv n)) (Dn n) n (ya [1,1,0,1,0,0] (ia Tryz.f107)) 0 kt jt K m (i,()) (b,())
theorem RI (n:Nat) (K:XE→List AV→pa→Option Out):∀ (m:Nat) i b,Bn n K m i b=(Wb n m i b).bind (cf K)
  | 0,_,_=>by kernel_rfl
  | m+1,i,b=>by
    have h1:Bn n K (m+1) i b=qg n i b (Bn n K m) (fun a=>cf K (.out a)) (fun a=>cf K (.ret a)) (fun p=>cf K (.pan p)):=by kernel_rfl
    have h2:Bn n K m=fun i b=>(Wb n m i b).bind (cf K):=by
      repeat (refine funext fun _=>?_)
      exact RI n K m _ _
    rw [h1,h2];exact (pY n m _ _ (cf K)).symm
theorem dV (n:Nat):yc tys (ja Out (sv n)) (Dn n) n (ya [1,1,0,1,0,0] (ia Tryz.f107)) 0:=Fa (sp:=kt) (rp:=jt) (by kernel_rfl) fun K σ ρ=>RI n K n σ.1 ρ.1
theorem qY (n:Nat):ra tys (ja Out (sv n)) (Dn n) n (ia Tryz.f107) 0:=⟨aa,⟨aa,⟨⟨aa,⟨dV n,⟨⟨aa,⟨aa,aa⟩⟩,⟨⟨aa,⟨aa,aa⟩⟩,aa⟩⟩⟩⟩,⟨aa,aa⟩⟩⟩⟩
theorem D3 (n:Nat):Enters Tryz.prog 107:=enters_of (c:=ia Tryz.f107) Tryz.func107 (by kernel_rfl) (by kernel_rfl)
def Fw (n:Nat):Entry:=⟨107,pcT (.pair .str .unit) (.one .str) (fun xs=>bf n xs.1),none,none⟩
theorem DF (n:Nat):EntryOk Tryz.prog gl (Fw n):=Aa (D3 n) fun xs y h=>oa tys_ok (UJ n) mixed (hint:=Dn n) (n:=n) Tryz.func107 (Ba (qY n)) (ma (φ:=(fun y=>some (Out.ret (rb (.one .str) y)))) (by kernel_rfl) (rcb n xs.1 _) h)
def CF (n:Nat):List Entry:=Fw n::sv n
theorem nE (n:Nat):AllOk Tryz.prog gl (CF n):=.cons (DF n) (UJ n)
def Rw (n:Nat) {R:Type} (s with0:BA) (k:Bool→Option R):Option R:=if (decide ((s.size:Int)≥(with0.size:Int)))=true then if 0≤(with0.size:Int)∧(with0.size:Int)≤(s.size:Int) then (bf n (s.extract (Int.toNat (0:Int)) (Int.toNat (with0.size:Int)))).bind fun v=>(bf n with0).bind fun v1=>k (v.toList==v1.toList) else none else k false
def gj (n:Nat) (s with0:BA):Option Bool:=Rw n s with0 some
theorem B8 (n:Nat) {S:Type}:∀ s with0 (φ:_→Option S),(gj n s with0).bind φ=Rw n s with0 φ:=by
  intros;unfold gj Rw;first | (simp only [la,fa,iB,bB,oL,oX,nB,Option.bind_some]) | rfl
def LE (n:Nat):Hint Out:={ live:=fun c=>[],run:=fun c=>none,xm:=fun c q=>none }
theorem yV (n:Nat):ra tys (ja Out (CF n)) (LE n) n (ia Tryz.f105) 0:=na (fun _=>rfl) _ _ (by kernel_rfl)
theorem KY (n:Nat):Enters Tryz.prog 105:=enters_of (c:=ia Tryz.f105) Tryz.func105 (by kernel_rfl) (by kernel_rfl)
def Ar (n:Nat):Entry:=⟨105,pcT (.pair .str (.pair .str .unit)) (.one .bool) (fun xs=>gj n xs.1 xs.2.1),none,none⟩
theorem PA (n:Nat):EntryOk Tryz.prog gl (Ar n):=Aa (KY n) fun xs y h=>oa tys_ok (nE n) mixed (hint:=LE n) (n:=n) Tryz.func105 (Ba (yV n)) (ma (φ:=(fun y=>some (Out.ret (rb (.one .bool) y)))) (by kernel_rfl) (B8 n xs.1 xs.2.1 _) h)
def Kl (n:Nat):List Entry:=Ar n::CF n
theorem OA (n:Nat):AllOk Tryz.prog gl (Kl n):=.cons (PA n) (nE n)
def Db (n:Nat) {R:Type} (s1:BA) (quoted:Bool) (i:Int) (kn:BA→Bool→Int→Option R) (ko:(BA)→Option R) (kr:(Int)→Option R) (kp:Int→Option R):Option R:=if (decide (i<(s1.size:Int)))=true then if quoted=true then if 0≤i∧i<(s1.size:Int) then if ((bt s1 i)==(92:Int))=true then kn s1 quoted (IntKind.wrap .i64 ((IntKind.wrap .i64 (i+(1:Int)))+(1:Int))) else if 0≤i∧i<(s1.size:Int) then if ((bt s1 i)==(34:Int))=true then if 0≤i∧i<(s1.size:Int) then if ((bt s1 i)==(62:Int))=true then if (!(!quoted))=true then kr (IntKind.wrap .i64 (i+(1:Int))) else kn s1 (!quoted) (IntKind.wrap .i64 (i+(1:Int))) else kn s1 (!quoted) (IntKind.wrap .i64 (i+(1:Int))) else none else if 0≤i∧i<(s1.size:Int) then if ((bt s1 i)==(62:Int))=true then if (!quoted)=true then kr (IntKind.wrap .i64 (i+(1:Int))) else kn s1 quoted (IntKind.wrap .i64 (i+(1:Int))) else kn s1 quoted (IntKind.wrap .i64 (i+(1:Int))) else none else none else none else if 0≤i∧i<(s1.size:Int) then if ((bt s1 i)==(34:Int))=true then if 0≤i∧i<(s1.size:Int) then if ((bt s1 i)==(62:Int))=true then if (!(!quoted))=true then kr (IntKind.wrap .i64 (i+(1:Int))) else kn s1 (!quoted) (IntKind.wrap .i64 (i+(1:Int))) else kn s1 (!quoted) (IntKind.wrap .i64 (i+(1:Int))) else none else if 0≤i∧i<(s1.size:Int) then if ((bt s1 i)==(62:Int))=true then
 if (!quoted)=true then kr (IntKind.wrap .i64 (i+(1:Int))) else kn s1 quoted (IntKind.wrap .i64 (i+(1:Int))) else kn s1 quoted (IntKind.wrap .i64 (i+(1:Int))) else none else none else ko s1
def Ua (n:Nat):Nat→BA→Bool→Int→Option (Lx (BA) (Int))
 | 0,_,_,_=>none
 | m+1,s1,quoted,i=>Db n s1 quoted i (Ua n m) (fun a=>some (.out a)) (fun a=>some (.ret a)) (fun p=>some (.pan p))
theorem TS (n m:Nat) {S:Type}:∀ s1 quoted i (φ:_→Option S),(Ua n (m+1) s1 quoted i).bind φ=Db n s1 quoted i (fun s1 quoted i=>(Ua n m s1 quoted i).bind φ) (fun a=>φ (.out a)) (fun a=>φ (.ret a)) (fun p=>φ (.pan p)):=by
  intros;first | (simp only [Ua,Db,la,fa,iB,bB,oL,oX,nB,Option.bind_some]) | rfl
def sm:List Sl:=.dat .str::.top::.top::.dat .bool::.dat (.int .i64)::tp 33 []
def rm:List RS:=[]
def uD:List Sl:=.dat .str::tp 37 []
def tD:List RS:=[]
def wD:List Sl:=.top::.top::.dat (.int .i64)::tp 35 []
def vD:List RS:=[]
def Ad (K:XE→List AV→pa→Option Out):Lx (BA) (Int)→Option Out:=fun x=>onL x (fun a=>vc uD tD (a,()) () (K (.exit 0))) (fun a=>vc wD vD (a,()) () (K .ret)) (fun _=>none)
def Cr (n:Nat) {R:Type} (s:BA) (k:Int→Option R):Option R:=(Ua n n s false (0:Int)).bind fun x_1=>onL x_1 (fun a_2=>k (a_2.size:Int)) (fun a_3=>k a_3) (fun _=>none)
def yo (n:Nat) (s:BA):Option Int:=Cr n s some
theorem E4 (n:Nat) {S:Type}:∀ s (φ:_→Option S),(yo n s).bind φ=Cr n s φ:=by
  intros;unfold yo Cr;first | (simp only [la,fa,iB,bB,oL,oX,nB,Option.bind_some]) | rfl
def lj (n:Nat):Hint Out:={ live:=fun c=>(cond (Nat.beq c 0) (lv [0,3,4]) []),run:=fun c=>(cond (Nat.beq c 0) (some (Ng sm rm fun σ ρ K=>(Ua n n σ.1 σ.2.1 σ.2.2.1).bind (Ad K))) none),xm:=fun c q=>(cond (Nat.beq c 0&&Nat.beq (q.getD 1000000) 0&&q.isSome) (some [(0,none)]) (cond (Nat.beq c 1&&q.isNone) (some [(2,none)]) none)) }
def ij (n:Nat) (K:XE→List AV→pa→Option Out) (m:Nat) (s1:BA) (quoted:Bool) (i:Int):Option Out:=Oc tys (ja Out (Kl n)) (lj n) n (ya [1,1,0,1,0,0] (ia Tryz.f108)) 0 sm rm K m (s1,(quoted,(i,()))) ()
theorem RA (n:Nat) (K:XE→List AV→pa→Option Out):∀ (m:Nat) s1 quoted i,ij n K m s1 quoted i=(Ua n m s1 quoted i).bind (Ad K)
  | 0,_,_,_=>by kernel_rfl
  | m+1,s1,quoted,i=>by
    have h1:ij n K (m+1) s1 quoted i=Db n s1 quoted i (ij n K m) (fun a=>Ad K (.out a)) (fun a=>Ad K (.ret a)) (fun p=>Ad K (.pan p)):=by kernel_rfl
    have h2:ij n K m=fun s1 quoted i=>(Ua n m s1 quoted i).bind (Ad K):=by
      repeat (refine funext fun _=>?_)
      exact RA n K m _ _ _
    rw [h1,h2];exact (TS n m _ _ _ (Ad K)).symm
theorem pP (n:Nat):yc tys (ja Out (Kl n)) (lj n) n (ya [1,1,0,1,0,0] (ia Tryz.f108)) 0:=Fa (sp:=sm) (rp:=rm) (by kernel_rfl) fun K σ ρ=>RA n K n σ.1 σ.2.1 σ.2.2.1
theorem US (n:Nat):ra tys (ja Out (Kl n)) (lj n) n (ia Tryz.f108) 0:=⟨aa,⟨aa,⟨⟨aa,⟨pP n,⟨⟨aa,⟨aa,aa⟩⟩,⟨⟨⟨aa,⟨⟨aa,aa⟩,aa⟩⟩,⟨⟨aa,⟨aa,aa⟩⟩,⟨aa,⟨⟨aa,aa⟩,aa⟩⟩⟩⟩,aa⟩⟩⟩⟩,⟨aa,aa⟩⟩⟩⟩
theorem CV (n:Nat):Enters Tryz.prog 108:=enters_of (c:=ia Tryz.f108) Tryz.func108 (by kernel_rfl) (by kernel_rfl)
def Xn (n:Nat):Entry:=⟨108,pcT (.pair .str .unit) (.one (.int .i64)) (fun xs=>yo n xs.1),none,none⟩
theorem Tw (n:Nat):EntryOk Tryz.prog gl (Xn n):=Aa (CV n) fun xs y h=>oa tys_ok (OA n) mixed (hint:=lj n) (n:=n) Tryz.func108 (Ba (US n)) (ma (φ:=(fun y=>some (Out.ret (rb (.one (.int .i64)) y)))) (by kernel_rfl) (E4 n xs.1 _) h)
def jj (n:Nat):List Entry:=Xn n::Kl n
theorem Xx (n:Nat):AllOk Tryz.prog gl (jj n):=.cons (Tw n) (OA n)
end
end Go.Proofs.YtdohilmgblkppaaGreatDoor.AM
