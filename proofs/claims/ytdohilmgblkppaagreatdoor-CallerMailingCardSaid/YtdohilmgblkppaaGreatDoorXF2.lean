/- Typed functions that tell what the Go functions of this seat answer, and proofs of it, by program (gen.py). -/
import Derived.Test.YtdohilmgblkppaaGreatDoorXF1
set_option linter.all false
set_option linter.unusedVariables false
set_option linter.unusedSimpArgs false
set_option maxRecDepth 1000000
set_option maxHeartbeats 0
namespace Go.Proofs.YtdohilmgblkppaaGreatDoor.AM
open Go Go.RowKit
noncomputable section
def Ju (n:Nat) {R:Type} (s:BA) (k:(BA×Int×Unit)→Option R):Option R:=(Bm n s).bind fun v=>(Tc n v).bind fun v1=>if (!v1)=true then k ((⟨#[]⟩:BA),((8:Int),())) else k (v,((0:Int),()))
def Ic (n:Nat) (s:BA):Option (BA×Int×Unit):=Ju n s some
theorem n5 (n:Nat) {S:Type}:∀ s (φ:_→Option S),(Ic n s).bind φ=Ju n s φ:=by
  intros;unfold Ic Ju;first | (simp only [ja,aa,iB,bB,oL,oX,nB,Option.bind_some]) | rfl
def GC (n:Nat):Hint Out:={ live:=fun c=>[],run:=fun c=>none,xm:=fun c q=>none }
theorem aT (n:Nat):qa tys (ia Out (wY n)) (GC n) n (fa Tryz.f133) 0:=ma (fun _=>rfl) _ _ (by kernel_rfl)
theorem gW (n:Nat):Enters Tryz.prog 133:=enters_of (c:=fa Tryz.f133) Tryz.func133 (by kernel_rfl) (by kernel_rfl)
def kM (n:Nat):Entry:=⟨133,pcT (.pair .str .unit) (.many (.pair .str (.pair (.int .i64) .unit))) (fun xs=>Ic n xs.1),none,none⟩
theorem XY (n:Nat):EntryOk Tryz.prog gl (kM n):=za (gW n) fun xs y h=>na tys_ok (tS n) mixed (hint:=GC n) (n:=n) Tryz.func133 (Aa (aT n)) (la (φ:=(fun y=>some (Out.ret (qb (.many (.pair .str (.pair (.int .i64) .unit))) y)))) (by kernel_rfl) (n5 n xs.1 _) h)
def Ox (n:Nat):List Entry:=kM n::wY n
theorem Kn (n:Nat):AllOk Tryz.prog gl (Ox n):=.cons (XY n) (tS n)
def uP (n:Nat) {R:Type} (s:BA) (k:T1→Option R) (kp:Int→Option R):Option R:=if (decide ((s.size:Int)≥(4:Int)))=true then if 0≤(4:Int)∧(4:Int)≤(s.size:Int) then (PD n (s.extract (Int.toNat (0:Int)) (Int.toNat (4:Int)))).bind fun v=>if (decide (v>(0:Int)))=true then if ((s.size:Int)==(4:Int))=false then if 0≤(4:Int)∧(4:Int)<(s.size:Int) then (Ia n ((bt s (4:Int))==(32:Int)) (3:Int)).bind fun x_1=>onX x_1 (fun p=>kp p) (fun v1=>if 0≤(4:Int)∧(4:Int)≤(s.size:Int) then (PD n (s.extract (Int.toNat (0:Int)) (Int.toNat (4:Int)))).bind fun v2=>if 0≤(4:Int)∧(4:Int)≤(s.size:Int) then if (v2==(3:Int))=true then (vh n (s.extract (Int.toNat (4:Int)) (Int.toNat (s.size:Int))) (⟨#[32,70,82,79,77,58]⟩:BA)).bind fun x_2=>onX x_2 (fun p1=>kp p1) (fun v3=>(gm n v3).bind fun x_3=>onX x_3 (fun p2=>kp p2) (fun v4=>(QD n v4.2.2.1).bind fun x_4=>onX x_4 (fun p3=>kp p3) (fun v5=>(uh n (v2,((⟨#[]⟩:BA),(v4.2.1,((v4.1.1,(v4.1.2.1,())),(v5,())))))).bind fun v6=>(Ia n v6 (8:Int)).bind fun x_5=>onX x_5 (fun p4=>kp p4) (fun v7=>k (v2,((⟨#[]⟩:BA),(v4.2.1,((v4.1.1,(v4.1.2.1,())),(v5,()))))))))) else if (v2==(4:Int))=true then (vh n (s.extract (Int.toNat (4:Int)) (Int.toNat (s.size:Int))) (⟨#[32,84,79,58]⟩:BA)).bind fun x_6=>onX x_6 (fun p5=>
 kp p5) (fun v8=>(gm n v8).bind fun x_7=>onX x_7 (fun p6=>kp p6) (fun v9=>(Ia n (v9.2.2.1.toList==(⟨#[]⟩:BA).toList) (8:Int)).bind fun x_8=>onX x_8 (fun p7=>kp p7) (fun v10=>(uh n (v2,((⟨#[]⟩:BA),(v9.2.1,((v9.1.1,(v9.1.2.1,())),((0:Int),())))))).bind fun v11=>(Ia n v11 (8:Int)).bind fun x_9=>onX x_9 (fun p8=>kp p8) (fun v12=>k (v2,((⟨#[]⟩:BA),(v9.2.1,((v9.1.1,(v9.1.2.1,())),((0:Int),()))))))))) else if (v2==(1:Int))=true then (Fa n (s.extract (Int.toNat (4:Int)) (Int.toNat (s.size:Int))) (⟨#[32]⟩:BA)).bind fun v13=>(Ic n v13).bind fun v14=>(Ia n (v14.2.1==(0:Int)) (8:Int)).bind fun x_10=>onX x_10 (fun p9=>kp p9) (fun v15=>(uh n (v2,(v14.1,(false,(((⟨#[]⟩:BA),((⟨#[]⟩:BA),())),((0:Int),())))))).bind fun v16=>(Ia n v16 (8:Int)).bind fun x_11=>onX x_11 (fun p10=>kp p10) (fun v17=>k (v2,(v14.1,(false,(((⟨#[]⟩:BA),((⟨#[]⟩:BA),())),((0:Int),()))))))) else if (v2==(2:Int))=true then (Fa n (s.extract (Int.toNat (4:Int)) (Int.toNat (s.size:Int))) (⟨#[32]⟩:BA)).bind fun v18=>(Ic n v18).bind fun v19=>(Ia n (v19.2.1==(0:Int)) (8:Int)).bind fun x_12=>onX x_12 (fun p11=>kp p11) (fun v20=>(uh n (v2,(v19.1,(false,(((⟨#[]⟩:BA),((⟨#[]⟩:BA),())),((0:Int),())))))).bind fun v21=>
 (Ia n v21 (8:Int)).bind fun x_13=>onX x_13 (fun p12=>kp p12) (fun v22=>k (v2,(v19.1,(false,(((⟨#[]⟩:BA),((⟨#[]⟩:BA),())),((0:Int),()))))))) else (Ia n (!((s.extract (Int.toNat (4:Int)) (Int.toNat (s.size:Int))).toList==(⟨#[32]⟩:BA).toList)) (8:Int)).bind fun x_14=>onX x_14 (fun p13=>kp p13) (fun v23=>(Fa n (s.extract (Int.toNat (4:Int)) (Int.toNat (s.size:Int))) (⟨#[32]⟩:BA)).bind fun v24=>(uh n (v2,(v24,(false,(((⟨#[]⟩:BA),((⟨#[]⟩:BA),())),((0:Int),())))))).bind fun v25=>(Ia n v25 (8:Int)).bind fun x_15=>onX x_15 (fun p14=>kp p14) (fun v26=>k (v2,(v24,(false,(((⟨#[]⟩:BA),((⟨#[]⟩:BA),())),((0:Int),()))))))) else none else none) else none else (Ia n true (3:Int)).bind fun x_16=>onX x_16 (fun p15=>kp p15) (fun v27=>if 0≤(4:Int)∧(4:Int)≤(s.size:Int) then (PD n (s.extract (Int.toNat (0:Int)) (Int.toNat (4:Int)))).bind fun v28=>if 0≤(4:Int)∧(4:Int)≤(s.size:Int) then if (v28==(3:Int))=true then (vh n (s.extract (Int.toNat (4:Int)) (Int.toNat (s.size:Int))) (⟨#[32,70,82,79,77,58]⟩:BA)).bind fun x_17=>onX x_17 (fun p16=>kp p16) (fun v29=>(gm n v29).bind fun x_18=>onX x_18 (fun p17=>kp p17) (fun v30=>(QD n v30.2.2.1).bind fun x_19=>onX x_19 (fun p18=>kp p18) (fun v31=>(uh n (v28,((⟨#[]⟩:BA),(v30.2.1,((v30.1.1,(v30.1.2.1,())),(v31,())))))).bind fun v32=>
 (Ia n v32 (8:Int)).bind fun x_20=>onX x_20 (fun p19=>kp p19) (fun v33=>k (v28,((⟨#[]⟩:BA),(v30.2.1,((v30.1.1,(v30.1.2.1,())),(v31,()))))))))) else if (v28==(4:Int))=true then (vh n (s.extract (Int.toNat (4:Int)) (Int.toNat (s.size:Int))) (⟨#[32,84,79,58]⟩:BA)).bind fun x_21=>onX x_21 (fun p20=>kp p20) (fun v34=>(gm n v34).bind fun x_22=>onX x_22 (fun p21=>kp p21) (fun v35=>(Ia n (v35.2.2.1.toList==(⟨#[]⟩:BA).toList) (8:Int)).bind fun x_23=>onX x_23 (fun p22=>kp p22) (fun v36=>(uh n (v28,((⟨#[]⟩:BA),(v35.2.1,((v35.1.1,(v35.1.2.1,())),((0:Int),())))))).bind fun v37=>(Ia n v37 (8:Int)).bind fun x_24=>onX x_24 (fun p23=>kp p23) (fun v38=>k (v28,((⟨#[]⟩:BA),(v35.2.1,((v35.1.1,(v35.1.2.1,())),((0:Int),()))))))))) else if (v28==(1:Int))=true then (Fa n (s.extract (Int.toNat (4:Int)) (Int.toNat (s.size:Int))) (⟨#[32]⟩:BA)).bind fun v39=>(Ic n v39).bind fun v40=>(Ia n (v40.2.1==(0:Int)) (8:Int)).bind fun x_25=>onX x_25 (fun p24=>kp p24) (fun v41=>(uh n (v28,(v40.1,(false,(((⟨#[]⟩:BA),((⟨#[]⟩:BA),())),((0:Int),())))))).bind fun v42=>(Ia n v42 (8:Int)).bind fun x_26=>onX x_26 (fun p25=>kp p25) (fun v43=>k (v28,(v40.1,(false,(((⟨#[]⟩:BA),((⟨#[]⟩:BA),())),((0:Int),()))))))) else if (v28==(2:Int))=true then
 (Fa n (s.extract (Int.toNat (4:Int)) (Int.toNat (s.size:Int))) (⟨#[32]⟩:BA)).bind fun v44=>(Ic n v44).bind fun v45=>(Ia n (v45.2.1==(0:Int)) (8:Int)).bind fun x_27=>onX x_27 (fun p26=>kp p26) (fun v46=>(uh n (v28,(v45.1,(false,(((⟨#[]⟩:BA),((⟨#[]⟩:BA),())),((0:Int),())))))).bind fun v47=>(Ia n v47 (8:Int)).bind fun x_28=>onX x_28 (fun p27=>kp p27) (fun v48=>k (v28,(v45.1,(false,(((⟨#[]⟩:BA),((⟨#[]⟩:BA),())),((0:Int),()))))))) else (Ia n (!((s.extract (Int.toNat (4:Int)) (Int.toNat (s.size:Int))).toList==(⟨#[32]⟩:BA).toList)) (8:Int)).bind fun x_29=>onX x_29 (fun p28=>kp p28) (fun v49=>(Fa n (s.extract (Int.toNat (4:Int)) (Int.toNat (s.size:Int))) (⟨#[32]⟩:BA)).bind fun v50=>(uh n (v28,(v50,(false,(((⟨#[]⟩:BA),((⟨#[]⟩:BA),())),((0:Int),())))))).bind fun v51=>(Ia n v51 (8:Int)).bind fun x_30=>onX x_30 (fun p29=>kp p29) (fun v52=>k (v28,(v50,(false,(((⟨#[]⟩:BA),((⟨#[]⟩:BA),())),((0:Int),()))))))) else none else none) else (Ia n false (3:Int)).bind fun x_31=>onX x_31 (fun p30=>kp p30) (fun v53=>if 0≤(4:Int)∧(4:Int)≤(s.size:Int) then (PD n (s.extract (Int.toNat (0:Int)) (Int.toNat (4:Int)))).bind fun v54=>if 0≤(4:Int)∧(4:Int)≤(s.size:Int) then if (v54==(3:Int))=true then
 (vh n (s.extract (Int.toNat (4:Int)) (Int.toNat (s.size:Int))) (⟨#[32,70,82,79,77,58]⟩:BA)).bind fun x_32=>onX x_32 (fun p31=>kp p31) (fun v55=>(gm n v55).bind fun x_33=>onX x_33 (fun p32=>kp p32) (fun v56=>(QD n v56.2.2.1).bind fun x_34=>onX x_34 (fun p33=>kp p33) (fun v57=>(uh n (v54,((⟨#[]⟩:BA),(v56.2.1,((v56.1.1,(v56.1.2.1,())),(v57,())))))).bind fun v58=>(Ia n v58 (8:Int)).bind fun x_35=>onX x_35 (fun p34=>kp p34) (fun v59=>k (v54,((⟨#[]⟩:BA),(v56.2.1,((v56.1.1,(v56.1.2.1,())),(v57,()))))))))) else if (v54==(4:Int))=true then (vh n (s.extract (Int.toNat (4:Int)) (Int.toNat (s.size:Int))) (⟨#[32,84,79,58]⟩:BA)).bind fun x_36=>onX x_36 (fun p35=>kp p35) (fun v60=>(gm n v60).bind fun x_37=>onX x_37 (fun p36=>kp p36) (fun v61=>(Ia n (v61.2.2.1.toList==(⟨#[]⟩:BA).toList) (8:Int)).bind fun x_38=>onX x_38 (fun p37=>kp p37) (fun v62=>(uh n (v54,((⟨#[]⟩:BA),(v61.2.1,((v61.1.1,(v61.1.2.1,())),((0:Int),())))))).bind fun v63=>(Ia n v63 (8:Int)).bind fun x_39=>onX x_39 (fun p38=>kp p38) (fun v64=>k (v54,((⟨#[]⟩:BA),(v61.2.1,((v61.1.1,(v61.1.2.1,())),((0:Int),()))))))))) else if (v54==(1:Int))=true then (Fa n (s.extract (Int.toNat (4:Int)) (Int.toNat (s.size:Int))) (⟨#[32]⟩:BA)).bind fun v65=>(Ic n v65).bind fun v66=>
 (Ia n (v66.2.1==(0:Int)) (8:Int)).bind fun x_40=>onX x_40 (fun p39=>kp p39) (fun v67=>(uh n (v54,(v66.1,(false,(((⟨#[]⟩:BA),((⟨#[]⟩:BA),())),((0:Int),())))))).bind fun v68=>(Ia n v68 (8:Int)).bind fun x_41=>onX x_41 (fun p40=>kp p40) (fun v69=>k (v54,(v66.1,(false,(((⟨#[]⟩:BA),((⟨#[]⟩:BA),())),((0:Int),()))))))) else if (v54==(2:Int))=true then (Fa n (s.extract (Int.toNat (4:Int)) (Int.toNat (s.size:Int))) (⟨#[32]⟩:BA)).bind fun v70=>(Ic n v70).bind fun v71=>(Ia n (v71.2.1==(0:Int)) (8:Int)).bind fun x_42=>onX x_42 (fun p41=>kp p41) (fun v72=>(uh n (v54,(v71.1,(false,(((⟨#[]⟩:BA),((⟨#[]⟩:BA),())),((0:Int),())))))).bind fun v73=>(Ia n v73 (8:Int)).bind fun x_43=>onX x_43 (fun p42=>kp p42) (fun v74=>k (v54,(v71.1,(false,(((⟨#[]⟩:BA),((⟨#[]⟩:BA),())),((0:Int),()))))))) else (Ia n (!((s.extract (Int.toNat (4:Int)) (Int.toNat (s.size:Int))).toList==(⟨#[32]⟩:BA).toList)) (8:Int)).bind fun x_44=>onX x_44 (fun p43=>kp p43) (fun v75=>(Fa n (s.extract (Int.toNat (4:Int)) (Int.toNat (s.size:Int))) (⟨#[32]⟩:BA)).bind fun v76=>(uh n (v54,(v76,(false,(((⟨#[]⟩:BA),((⟨#[]⟩:BA),())),((0:Int),())))))).bind fun v77=>(Ia n v77 (8:Int)).bind fun x_45=>onX x_45 (fun p44=>
 kp p44) (fun v78=>k (v54,(v76,(false,(((⟨#[]⟩:BA),((⟨#[]⟩:BA),())),((0:Int),()))))))) else none else none) else none else (Ia n false (3:Int)).bind fun x_46=>onX x_46 (fun p45=>kp p45) (fun v79=>if 0≤(4:Int)∧(4:Int)≤(s.size:Int) then (PD n (s.extract (Int.toNat (0:Int)) (Int.toNat (4:Int)))).bind fun v80=>if 0≤(4:Int)∧(4:Int)≤(s.size:Int) then if (v80==(3:Int))=true then (vh n (s.extract (Int.toNat (4:Int)) (Int.toNat (s.size:Int))) (⟨#[32,70,82,79,77,58]⟩:BA)).bind fun x_47=>onX x_47 (fun p46=>kp p46) (fun v81=>(gm n v81).bind fun x_48=>onX x_48 (fun p47=>kp p47) (fun v82=>(QD n v82.2.2.1).bind fun x_49=>onX x_49 (fun p48=>kp p48) (fun v83=>(uh n (v80,((⟨#[]⟩:BA),(v82.2.1,((v82.1.1,(v82.1.2.1,())),(v83,())))))).bind fun v84=>(Ia n v84 (8:Int)).bind fun x_50=>onX x_50 (fun p49=>kp p49) (fun v85=>k (v80,((⟨#[]⟩:BA),(v82.2.1,((v82.1.1,(v82.1.2.1,())),(v83,()))))))))) else if (v80==(4:Int))=true then (vh n (s.extract (Int.toNat (4:Int)) (Int.toNat (s.size:Int))) (⟨#[32,84,79,58]⟩:BA)).bind fun x_51=>onX x_51 (fun p50=>kp p50) (fun v86=>(gm n v86).bind fun x_52=>onX x_52 (fun p51=>kp p51) (fun v87=>(Ia n (v87.2.2.1.toList==(⟨#[]⟩:BA).toList) (8:Int)).bind fun x_53=>onX x_53 (fun p52=>kp p52) (fun v88=>(uh n (v80,((⟨#[]⟩:BA),(v87.2.1,((v87.1.1,(v87.1.2.1,())),((0:Int),())))))).bind fun v89=>
 (Ia n v89 (8:Int)).bind fun x_54=>onX x_54 (fun p53=>kp p53) (fun v90=>k (v80,((⟨#[]⟩:BA),(v87.2.1,((v87.1.1,(v87.1.2.1,())),((0:Int),()))))))))) else if (v80==(1:Int))=true then (Fa n (s.extract (Int.toNat (4:Int)) (Int.toNat (s.size:Int))) (⟨#[32]⟩:BA)).bind fun v91=>(Ic n v91).bind fun v92=>(Ia n (v92.2.1==(0:Int)) (8:Int)).bind fun x_55=>onX x_55 (fun p54=>kp p54) (fun v93=>(uh n (v80,(v92.1,(false,(((⟨#[]⟩:BA),((⟨#[]⟩:BA),())),((0:Int),())))))).bind fun v94=>(Ia n v94 (8:Int)).bind fun x_56=>onX x_56 (fun p55=>kp p55) (fun v95=>k (v80,(v92.1,(false,(((⟨#[]⟩:BA),((⟨#[]⟩:BA),())),((0:Int),()))))))) else if (v80==(2:Int))=true then (Fa n (s.extract (Int.toNat (4:Int)) (Int.toNat (s.size:Int))) (⟨#[32]⟩:BA)).bind fun v96=>(Ic n v96).bind fun v97=>(Ia n (v97.2.1==(0:Int)) (8:Int)).bind fun x_57=>onX x_57 (fun p56=>kp p56) (fun v98=>(uh n (v80,(v97.1,(false,(((⟨#[]⟩:BA),((⟨#[]⟩:BA),())),((0:Int),())))))).bind fun v99=>(Ia n v99 (8:Int)).bind fun x_58=>onX x_58 (fun p57=>kp p57) (fun v100=>k (v80,(v97.1,(false,(((⟨#[]⟩:BA),((⟨#[]⟩:BA),())),((0:Int),()))))))) else (Ia n (!((s.extract (Int.toNat (4:Int)) (Int.toNat (s.size:Int))).toList==(⟨#[32]⟩:BA).toList)) (8:Int)).bind fun x_59=>onX x_59 (fun p58=>
 kp p58) (fun v101=>(Fa n (s.extract (Int.toNat (4:Int)) (Int.toNat (s.size:Int))) (⟨#[32]⟩:BA)).bind fun v102=>(uh n (v80,(v102,(false,(((⟨#[]⟩:BA),((⟨#[]⟩:BA),())),((0:Int),())))))).bind fun v103=>(Ia n v103 (8:Int)).bind fun x_60=>onX x_60 (fun p59=>kp p59) (fun v104=>k (v80,(v102,(false,(((⟨#[]⟩:BA),((⟨#[]⟩:BA),())),((0:Int),()))))))) else none else none)
def RV (n:Nat) (s:BA):Option (Except Int T1):=uP n s (fun y=>some (.ok y)) (fun p=>some (.error p))
theorem lab (n:Nat) {S:Type}:∀ s (φ:_→Option S),(RV n s).bind φ=uP n s (fun y=>φ (.ok y)) (fun p=>φ (.error p)):=by
  intros;unfold RV uP;first | (simp only [ja,aa,iB,bB,oL,oX,nB,Option.bind_some]) | rfl
def jG (n:Nat):Hint Out:={ live:=fun c=>[],run:=fun c=>none,xm:=fun c q=>none }
theorem HS (n:Nat):qa tys (ia Out (Ox n)) (jG n) n (fa Tryz.f99) 0:=ma (fun _=>rfl) _ _ (by kernel_rfl)
theorem ncb (n:Nat):Enters Tryz.prog 99:=enters_of (c:=fa Tryz.f99) Tryz.func99 (by kernel_rfl) (by kernel_rfl)
def B4 (n:Nat):Entry:=⟨99,pcX 144 (.pair .str .unit) (.one K2) (fun xs=>RV n xs.1),none,none⟩
theorem gfb (n:Nat):EntryOk Tryz.prog gl (B4 n):=DH (ncb n) (fun xs y h=>na tys_ok (Kn n) mixed (hint:=jG n) (n:=n) Tryz.func99 (Aa (HS n)) (la (φ:=(fun r=>onX r (fun p=>some (Out.pan (ph 144 p))) fun y=>some (Out.ret (qb (.one K2) y)))) (by kernel_rfl) (lab n xs.1 _) h)) (fun xs p h=>na tys_ok (Kn n) mixed (hint:=jG n) (n:=n) Tryz.func99 (Aa (HS n)) (la (φ:=(fun r=>onX r (fun p=>some (Out.pan (ph 144 p))) fun y=>some (Out.ret (qb (.one K2) y)))) (by kernel_rfl) (lab n xs.1 _) h))
def vu (n:Nat):List Entry:=B4 n::Ox n
theorem pN (n:Nat):AllOk Tryz.prog gl (vu n):=.cons (gfb n) (Kn n)
def mA (n:Nat) {R:Type} (s:BA) (k:(T1×Int×Unit)→Option R):Option R:=(RV n s).bind fun x_1=>onX x_1 (fun p=>k (((0:Int),((⟨#[]⟩:BA),(false,(((⟨#[]⟩:BA),((⟨#[]⟩:BA),())),((0:Int),()))))),(p,()))) (fun v=>k ((v.1,(v.2.1,(v.2.2.1,((v.2.2.2.1.1,(v.2.2.2.1.2.1,())),(v.2.2.2.2.1,()))))),((0:Int),())))
def lA (n:Nat) (s:BA):Option (T1×Int×Unit):=mA n s some
theorem Zeb (n:Nat) {S:Type}:∀ s (φ:_→Option S),(lA n s).bind φ=mA n s φ:=by
  intros;unfold lA mA;first | (simp only [ja,aa,iB,bB,oL,oX,nB,Option.bind_some]) | rfl
def Xq (n:Nat):Hint Out:={ live:=fun c=>[],run:=fun c=>none,xm:=fun c q=>none,pm:=some [(2,none),(3,none)] }
theorem T3 (n:Nat):qa tys (ia Out (vu n)) (Xq n) n (wa [0] (fa Tryz.f69)) 0∧qa tys (ia Out (vu n)) (Xq n) n (wa [1,1] (fa Tryz.f69)) 0:=⟨trivial,⟨trivial,trivial⟩⟩
theorem R7 (n:Nat):Enters Tryz.prog 69:=enters_of (c:=fa Tryz.f69) Tryz.func69 (by kernel_rfl) (by kernel_rfl)
theorem uS:Tryz.prog.funcs[98]?=some Tryz.f98:=by kernel_rfl
theorem S3:Enters Tryz.prog 98:=enters_of (c:=fa Tryz.f98) uS (by kernel_rfl) (by kernel_rfl)
theorem xY (n:Nat):qa tys (ia Out (vu n)) ZW n (wa [1] (fa Tryz.f98)) 0:=⟨⟨trivial,⟨trivial,trivial⟩⟩,⟨trivial,⟨⟨trivial,⟨trivial,trivial⟩⟩,trivial⟩⟩⟩
theorem Yeb (n:Nat) (s:BA):fnD tys (ia Out (vu n)) (Xq n) n 98 Tryz.f98 Tryz.f69 (gbb (.pair .str .unit) (s,())) (I7 fun v=>some (.ret v))=mA n s (fun y=>some (.ret (qb (.many K12) y))):=by kernel_rfl
def NV (n:Nat):Entry:=⟨69,pcT (.pair .str .unit) (.many K12) (fun xs=>lA n xs.1),none,none⟩
theorem ecb (n:Nat):EntryOk Tryz.prog gl (NV n):=za (R7 n) fun xs y h=>cV tys_ok (pN n) mixed (hint:=Xq n) (n:=n) (fn:=Tryz.f69) (f2:=Tryz.f98) Tryz.func69 uS S3 (xkb (T3 n)) (Lhb (xY n)) (la (φ:=(fun y=>some (Out.ret (qb (.many K12) y)))) (Yeb n xs.1) (Zeb n xs.1 _) h)
def JL (n:Nat):List Entry:=NV n::vu n
theorem GJ (n:Nat):AllOk Tryz.prog gl (JL n):=.cons (ecb n) (pN n)
def Ou (n:Nat) {R:Type} (c:T0) (k:U2→Option R):Option R:=if (c.2.2.2.2.1 !=(0:Int))=true then if (c.2.2.2.2.1 !=(5:Int))=true then k (c.1,(c.2.1,(c.2.2.1,(c.2.2.2.1.1,(c.2.2.2.1.2.1,((1:Int),(c.2.2.2.2.2.1,(false,((⟨#[]⟩:BA),((⟨#[]⟩:BA),((0:Int),(false,((⟨0,fun _=>ta (.pair .str (.pair .str .unit))⟩:Sq U0),((⟨0,fun _=>ta .str⟩:Sq BA),())))))))))))))) else k (c.1,(c.2.1,(c.2.2.1,(c.2.2.2.1.1,(c.2.2.2.1.2.1,(c.2.2.2.2.1,(c.2.2.2.2.2.1,(false,((⟨#[]⟩:BA),((⟨#[]⟩:BA),((0:Int),(false,((⟨0,fun _=>ta (.pair .str (.pair .str .unit))⟩:Sq U0),((⟨0,fun _=>ta .str⟩:Sq BA),())))))))))))))) else k (c.1,(c.2.1,(c.2.2.1,(c.2.2.2.1.1,(c.2.2.2.1.2.1,(c.2.2.2.2.1,(c.2.2.2.2.2.1,(false,((⟨#[]⟩:BA),((⟨#[]⟩:BA),((0:Int),(false,((⟨0,fun _=>ta (.pair .str (.pair .str .unit))⟩:Sq U0),((⟨0,fun _=>ta .str⟩:Sq BA),()))))))))))))))
def Xf (n:Nat) (c:T0):Option U2:=Ou n c some
theorem I5 (n:Nat) {S:Type}:∀ c (φ:_→Option S),(Xf n c).bind φ=Ou n c φ:=by
  intros;unfold Xf Ou;first | (simp only [ja,aa,iB,bB,oL,oX,nB,Option.bind_some]) | rfl
def MC (n:Nat):Hint OutS:={ live:=fun c=>[],run:=fun c=>none,xm:=fun c q=>none,pr:=[(0,10,25),(0,11,9)] }
theorem pT (n:Nat):qa tys (ia OutS (JL n)).keep (MC n) n (fa Tryz.f76) 0:=ma (fun _=>rfl) _ _ (by kernel_rfl)
theorem vW (n:Nat):Enters Tryz.prog 76:=enters_of (c:=fa Tryz.f76) Tryz.func76 (by kernel_rfl) (by kernel_rfl)
def uM:List RSp:=[.one (.dat K0)]
def tM:List RS:=[]
def wW:List Sl:=[.top]
def xW:List RSp:=[.agg [.dat (.int .i64),.dat (.int .i64),.dat (.int .i64),.dat .str,.dat .bool,.dat (.int .i64),.dat .str,.dat .bool,.dat .str,.dat .str,.row 0,.row 1,.dat (.int .i64),.dat .bool]]
def Em:List RS:=[.row 25 2 (.pair .str (.pair .str .unit)) true true,.row 9 1 .str true true]
def cE (y:U2):OutS:=⟨false,bo (Sc Em (y.2.2.2.2.2.2.2.2.2.2.2.2.1,(y.2.2.2.2.2.2.2.2.2.2.2.2.2.1,()))) wW (),fG (WC (Sc Em (y.2.2.2.2.2.2.2.2.2.2.2.2.1,(y.2.2.2.2.2.2.2.2.2.2.2.2.2.1,()))) xW ((y.1,(y.2.1,(y.2.2.1,(y.2.2.2.1,(y.2.2.2.2.1,(y.2.2.2.2.2.1,(y.2.2.2.2.2.2.1,(y.2.2.2.2.2.2.2.1,(y.2.2.2.2.2.2.2.2.1,(y.2.2.2.2.2.2.2.2.2.1,(y.2.2.2.2.2.2.2.2.2.2.1,(y.2.2.2.2.2.2.2.2.2.2.2.1,())))))))))))),())),Fu (Sc Em (y.2.2.2.2.2.2.2.2.2.2.2.2.1,(y.2.2.2.2.2.2.2.2.2.2.2.2.2.1,()))) Em (y.2.2.2.2.2.2.2.2.2.2.2.2.1,(y.2.2.2.2.2.2.2.2.2.2.2.2.2.1,()))⟩
theorem rZ (n:Nat):EntryOk Tryz.prog gl ⟨76,Sf,none,some (csT uM tM (fun σ ρ=>Xf n σ.1.1) cE)⟩:=Be (vW n) fun σ ρ y h=>Vf tys_ok (GJ n) mixed (hint:=MC n) (n:=n) Tryz.func76 (Aa (pT n)) (la (φ:=fun y=>some (cE y)) (by kernel_rfl) (I5 n σ.1.1 _) h)
def ey (n:Nat):List Entry:=⟨76,Sf,none,some (csT uM tM (fun σ ρ=>Xf n σ.1.1) cE)⟩::JL n
theorem fy (n:Nat):AllOk Tryz.prog gl (ey n):=.cons (rZ n) (GJ n)
def TA (n:Nat) {R:Type} (c:T0) (v:T1) (k:(Int×BA×Unit)→Option R):Option R:=if (c.2.2.2.2.1 !=(2:Int))=true then if (c.2.2.2.2.1 !=(3:Int))=true then k ((503:Int),((⟨#[]⟩:BA),())) else if ((c.2.2.2.2.2.2.2.2.1.n:Int)==(8:Int))=true then k ((452:Int),((⟨#[]⟩:BA),())) else (sCn n c.2.2.2.2.2.2.2.2.1 v.2.2.2.1).bind fun v1=>if v1=true then k ((250:Int),((⟨#[]⟩:BA),())) else k ((0:Int),((⟨#[114,99,112,116]⟩:BA),())) else if ((c.2.2.2.2.2.2.2.2.1.n:Int)==(8:Int))=true then k ((452:Int),((⟨#[]⟩:BA),())) else (sCn n c.2.2.2.2.2.2.2.2.1 v.2.2.2.1).bind fun v2=>if v2=true then k ((250:Int),((⟨#[]⟩:BA),())) else k ((0:Int),((⟨#[114,99,112,116]⟩:BA),()))
def Yu (n:Nat) (c:T0) (v:T1):Option (Int×BA×Unit):=TA n c v some
theorem Wab (n:Nat) {S:Type}:∀ c v (φ:_→Option S),(Yu n c v).bind φ=TA n c v φ:=by
  intros;unfold Yu TA;first | (simp only [ja,aa,iB,bB,oL,oX,nB,Option.bind_some]) | rfl
def lH (n:Nat):Hint Out:={ live:=fun c=>[],run:=fun c=>none,xm:=fun c q=>none }
theorem NW (n:Nat):qa tys (ia Out (ey n)) (lH n) n (fa Tryz.f100) 0:=ma (fun _=>rfl) _ _ (by kernel_rfl)
theorem GZ (n:Nat):Enters Tryz.prog 100:=enters_of (c:=fa Tryz.f100) Tryz.func100 (by kernel_rfl) (by kernel_rfl)
def kQ (n:Nat):Entry:=⟨100,pcT K13 (.many (.pair (.int .i64) (.pair .str .unit))) (fun xs=>Yu n xs.1 xs.2.1),none,none⟩
theorem S5 (n:Nat):EntryOk Tryz.prog gl (kQ n):=za (GZ n) fun xs y h=>na tys_ok (fy n) mixed (hint:=lH n) (n:=n) Tryz.func100 (Aa (NW n)) (la (φ:=(fun y=>some (Out.ret (qb (.many (.pair (.int .i64) (.pair .str .unit))) y)))) (by kernel_rfl) (Wab n xs.1 xs.2.1 _) h)
def iE (n:Nat):List Entry:=kQ n::ey n
theorem SC (n:Nat):AllOk Tryz.prog gl (iE n):=.cons (S5 n) (fy n)
def wy (n:Nat) {R:Type} (c:T0) (v:T1) (k:U14→Option R):Option R:=if (v.1==(1:Int))=true then (fe n v.2.1).bind fun v1=>if (!v1)=true then k (c,((501:Int),((⟨#[]⟩:BA),()))) else (Xf n (c.1,(c.2.1,(c.2.2.1,(c.2.2.2.1,((1:Int),(v.2.1,c.2.2.2.2.2.2))))))).bind fun v2=>k ((v2.1,(v2.2.1,(v2.2.2.1,((v2.2.2.2.1,(v2.2.2.2.2.1,())),(v2.2.2.2.2.2.1,(v2.2.2.2.2.2.2.1,(v2.2.2.2.2.2.2.2.1,((v2.2.2.2.2.2.2.2.2.1,(v2.2.2.2.2.2.2.2.2.2.1,())),(v2.2.2.2.2.2.2.2.2.2.2.2.2.1,(v2.2.2.2.2.2.2.2.2.2.2.2.2.2.1,(v2.2.2.2.2.2.2.2.2.2.2.1,(v2.2.2.2.2.2.2.2.2.2.2.2.1,())))))))))))),((250:Int),((⟨#[]⟩:BA),()))) else if (v.1==(2:Int))=true then (fe n v.2.1).bind fun v3=>if (!v3)=true then k (c,((501:Int),((⟨#[]⟩:BA),()))) else (Xf n (c.1,(c.2.1,(c.2.2.1,(c.2.2.2.1,((1:Int),(v.2.1,c.2.2.2.2.2.2))))))).bind fun v4=>k ((v4.1,(v4.2.1,(v4.2.2.1,((v4.2.2.2.1,(v4.2.2.2.2.1,())),(v4.2.2.2.2.2.1,(v4.2.2.2.2.2.2.1,(v4.2.2.2.2.2.2.2.1,((v4.2.2.2.2.2.2.2.2.1,(v4.2.2.2.2.2.2.2.2.2.1,())),(v4.2.2.2.2.2.2.2.2.2.2.2.2.1,(v4.2.2.2.2.2.2.2.2.2.2.2.2.2.1,(v4.2.2.2.2.2.2.2.2.2.2.1,(v4.2.2.2.2.2.2.2.2.2.2.2.1,())))))))))))),((250:Int),((⟨#[]⟩:BA),()))) else if (v.1==(6:Int))=true then (Xf n c).bind fun v5=>k ((v5.1,(v5.2.1,(v5.2.2.1,((v5.2.2.2.1,(v5.2.2.2.2.1,())),(v5.2.2.2.2.2.1,(v5.2.2.2.2.2.2.1,(v5.2.2.2.2.2.2.2.1,((v5.2.2.2.2.2.2.2.2.1,(v5.2.2.2.2.2.2.2.2.2.1,())),(v5.2.2.2.2.2.2.2.2.2.2.2.2.1,(v5.2.2.2.2.2.2.2.2.2.2.2.2.2.1,(v5.2.2.2.2.2.2.2.2.2.2.1,(v5.2.2.2.2.2.2.2.2.2.2.2.1,())))))))))))),((250:Int),((⟨#[]⟩:BA),())))
 else if (v.1==(7:Int))=true then k (c,((250:Int),((⟨#[]⟩:BA),()))) else if (v.1==(9:Int))=true then k (c,((252:Int),((⟨#[]⟩:BA),()))) else if (v.1==(8:Int))=true then (Xf n c).bind fun v6=>k ((v6.1,(v6.2.1,(v6.2.2.1,((v6.2.2.2.1,(v6.2.2.2.2.1,())),((5:Int),(v6.2.2.2.2.2.2.1,(v6.2.2.2.2.2.2.2.1,((v6.2.2.2.2.2.2.2.2.1,(v6.2.2.2.2.2.2.2.2.2.1,())),(v6.2.2.2.2.2.2.2.2.2.2.2.2.1,(v6.2.2.2.2.2.2.2.2.2.2.2.2.2.1,(v6.2.2.2.2.2.2.2.2.2.2.1,(v6.2.2.2.2.2.2.2.2.2.2.2.1,())))))))))))),((221:Int),((⟨#[]⟩:BA),()))) else if (v.1==(4:Int))=true then (Yu n c v).bind fun v7=>k (c,(v7.1,(v7.2.1,()))) else if (v.1==(5:Int))=true then if (c.2.2.2.2.1 !=(3:Int))=true then k (c,((503:Int),((⟨#[]⟩:BA),()))) else k ((c.1,(c.2.1,(c.2.2.1,(c.2.2.2.1,((4:Int),c.2.2.2.2.2))))),((354:Int),((⟨#[]⟩:BA),()))) else if (c.2.2.2.2.1 !=(1:Int))=true then k (c,((503:Int),((⟨#[]⟩:BA),()))) else if (decide (v.2.2.2.2.1>(8192:Int)))=true then k (c,((552:Int),((⟨#[]⟩:BA),()))) else k (c,((0:Int),((⟨#[109,97,105,108]⟩:BA),())))
def rK (n:Nat) (c:T0) (v:T1):Option U14:=wy n c v some
theorem DZ (n:Nat) {S:Type}:∀ c v (φ:_→Option S),(rK n c v).bind φ=wy n c v φ:=by
  intros;unfold rK wy;first | (simp only [ja,aa,iB,bB,oL,oX,nB,Option.bind_some]) | rfl
def xy (n:Nat):Hint Out:={ live:=fun c=>[],run:=fun c=>none,xm:=fun c q=>none }
theorem gQ (n:Nat):qa tys (ia Out (iE n)) (xy n) n (fa Tryz.f70) 0:=ma (fun _=>rfl) _ _ (by kernel_rfl)
theorem zT (n:Nat):Enters Tryz.prog 70:=enters_of (c:=fa Tryz.f70) Tryz.func70 (by kernel_rfl) (by kernel_rfl)
def fH (n:Nat):Entry:=⟨70,pcT K13 (.many K14) (fun xs=>rK n xs.1 xs.2.1),none,none⟩
theorem LW (n:Nat):EntryOk Tryz.prog gl (fH n):=za (zT n) fun xs y h=>na tys_ok (SC n) mixed (hint:=xy n) (n:=n) Tryz.func70 (Aa (gQ n)) (la (φ:=(fun y=>some (Out.ret (qb (.many K14) y)))) (by kernel_rfl) (DZ n xs.1 xs.2.1 _) h)
def Xu (n:Nat):List Entry:=fH n::iE n
theorem xw (n:Nat):AllOk Tryz.prog gl (Xu n):=.cons (LW n) (SC n)
def Pu (n:Nat) {R:Type} (c c1 c2:Int) (c3:BA) (c4:Bool) (c5:Int) (c6:BA) (c7:Bool) (c8 c9:BA) (c10:Int) (c11:Bool) (r0:(Sq U0)) (r1:(Sq BA)) (k:U2→Option R):Option R:=if (c5 !=(0:Int))=true then if (c5 !=(5:Int))=true then k (c,(c1,(c2,(c3,(c4,((1:Int),(c6,(false,((⟨#[]⟩:BA),((⟨#[]⟩:BA),((0:Int),(false,((⟨0,fun _=>ta (.pair .str (.pair .str .unit))⟩:Sq U0),((⟨0,fun _=>ta .str⟩:Sq BA),())))))))))))))) else k (c,(c1,(c2,(c3,(c4,(c5,(c6,(false,((⟨#[]⟩:BA),((⟨#[]⟩:BA),((0:Int),(false,((⟨0,fun _=>ta (.pair .str (.pair .str .unit))⟩:Sq U0),((⟨0,fun _=>ta .str⟩:Sq BA),())))))))))))))) else k (c,(c1,(c2,(c3,(c4,(c5,(c6,(false,((⟨#[]⟩:BA),((⟨#[]⟩:BA),((0:Int),(false,((⟨0,fun _=>ta (.pair .str (.pair .str .unit))⟩:Sq U0),((⟨0,fun _=>ta .str⟩:Sq BA),()))))))))))))))
def xh (n:Nat) (c c1 c2:Int) (c3:BA) (c4:Bool) (c5:Int) (c6:BA) (c7:Bool) (c8 c9:BA) (c10:Int) (c11:Bool) (r0:(Sq U0)) (r1:(Sq BA)):Option U2:=Pu n c c1 c2 c3 c4 c5 c6 c7 c8 c9 c10 c11 r0 r1 some
theorem J5 (n:Nat) {S:Type}:∀ c c1 c2 c3 c4 c5 c6 c7 c8 c9 c10 c11 r0 r1 (φ:_→Option S),(xh n c c1 c2 c3 c4 c5 c6 c7 c8 c9 c10 c11 r0 r1).bind φ=Pu n c c1 c2 c3 c4 c5 c6 c7 c8 c9 c10 c11 r0 r1 φ:=by
  intros;unfold xh Pu;first | (simp only [ja,aa,iB,bB,oL,oX,nB,Option.bind_some]) | rfl
def NC (n:Nat):Hint OutS:={ live:=fun c=>[],run:=fun c=>none,xm:=fun c q=>none,pr:=[(0,10,25),(0,11,9)] }
theorem qT (n:Nat):qa tys (ia OutS (Xu n)).keep (NC n) n (fa Tryz.f76) 0:=ma (fun _=>rfl) _ _ (by kernel_rfl)
theorem yW (n:Nat):Enters Tryz.prog 76:=enters_of (c:=fa Tryz.f76) Tryz.func76 (by kernel_rfl) (by kernel_rfl)
def wM:List RSp:=[.agg [.dat (.int .i64),.dat (.int .i64),.dat (.int .i64),.dat .str,.dat .bool,.dat (.int .i64),.dat .str,.dat .bool,.dat .str,.dat .str,.row 0,.row 1,.dat (.int .i64),.dat .bool]]
def vM:List RS:=[.row 25 2 (.pair .str (.pair .str .unit)) true true,.row 9 1 .str true true]
def zW:List Sl:=[.top]
def AW:List RSp:=[.agg [.dat (.int .i64),.dat (.int .i64),.dat (.int .i64),.dat .str,.dat .bool,.dat (.int .i64),.dat .str,.dat .bool,.dat .str,.dat .str,.row 0,.row 1,.dat (.int .i64),.dat .bool]]
def Fm:List RS:=[.row 25 2 (.pair .str (.pair .str .unit)) true true,.row 9 1 .str true true]
def dE (y:U2):OutS:=⟨false,bo (Sc Fm (y.2.2.2.2.2.2.2.2.2.2.2.2.1,(y.2.2.2.2.2.2.2.2.2.2.2.2.2.1,()))) zW (),fG (WC (Sc Fm (y.2.2.2.2.2.2.2.2.2.2.2.2.1,(y.2.2.2.2.2.2.2.2.2.2.2.2.2.1,()))) AW ((y.1,(y.2.1,(y.2.2.1,(y.2.2.2.1,(y.2.2.2.2.1,(y.2.2.2.2.2.1,(y.2.2.2.2.2.2.1,(y.2.2.2.2.2.2.2.1,(y.2.2.2.2.2.2.2.2.1,(y.2.2.2.2.2.2.2.2.2.1,(y.2.2.2.2.2.2.2.2.2.2.1,(y.2.2.2.2.2.2.2.2.2.2.2.1,())))))))))))),())),Fu (Sc Fm (y.2.2.2.2.2.2.2.2.2.2.2.2.1,(y.2.2.2.2.2.2.2.2.2.2.2.2.2.1,()))) Fm (y.2.2.2.2.2.2.2.2.2.2.2.2.1,(y.2.2.2.2.2.2.2.2.2.2.2.2.2.1,()))⟩
theorem sZ (n:Nat):EntryOk Tryz.prog gl ⟨76,Sf,none,some (csT wM vM (fun σ ρ=>xh n σ.1.1 σ.1.2.1 σ.1.2.2.1 σ.1.2.2.2.1 σ.1.2.2.2.2.1 σ.1.2.2.2.2.2.1 σ.1.2.2.2.2.2.2.1 σ.1.2.2.2.2.2.2.2.1 σ.1.2.2.2.2.2.2.2.2.1 σ.1.2.2.2.2.2.2.2.2.2.1 σ.1.2.2.2.2.2.2.2.2.2.2.1 σ.1.2.2.2.2.2.2.2.2.2.2.2.1 ρ.1 ρ.2.1) dE)⟩:=Be (yW n) fun σ ρ y h=>Vf tys_ok (xw n) mixed (hint:=NC n) (n:=n) Tryz.func76 (Aa (qT n)) (la (φ:=fun y=>some (dE y)) (by kernel_rfl) (J5 n σ.1.1 σ.1.2.1 σ.1.2.2.1 σ.1.2.2.2.1 σ.1.2.2.2.2.1 σ.1.2.2.2.2.2.1 σ.1.2.2.2.2.2.2.1 σ.1.2.2.2.2.2.2.2.1 σ.1.2.2.2.2.2.2.2.2.1 σ.1.2.2.2.2.2.2.2.2.2.1 σ.1.2.2.2.2.2.2.2.2.2.2.1 σ.1.2.2.2.2.2.2.2.2.2.2.2.1 ρ.1 ρ.2.1 _) h)
def gy (n:Nat):List Entry:=⟨76,Sf,none,some (csT wM vM (fun σ ρ=>xh n σ.1.1 σ.1.2.1 σ.1.2.2.1 σ.1.2.2.2.1 σ.1.2.2.2.2.1 σ.1.2.2.2.2.2.1 σ.1.2.2.2.2.2.2.1 σ.1.2.2.2.2.2.2.2.1 σ.1.2.2.2.2.2.2.2.2.1 σ.1.2.2.2.2.2.2.2.2.2.1 σ.1.2.2.2.2.2.2.2.2.2.2.1 σ.1.2.2.2.2.2.2.2.2.2.2.2.1 ρ.1 ρ.2.1) dE)⟩::Xu n
theorem iy (n:Nat):AllOk Tryz.prog gl (gy n):=.cons (sZ n) (xw n)
def Yf (n:Nat) {R:Type} (c c1 c2:Int) (c3:BA) (c4:Bool) (c5:Int) (c6:BA) (c7:Bool) (c8 c9:BA) (c10:Int) (c11:Bool) (v:T1) (r0:(Sq U0)) (r1:(Sq BA)) (k:U14→Option R):Option R:=if (v.1==(1:Int))=true then (fe n v.2.1).bind fun v1=>if (!v1)=true then k ((c,(c1,(c2,((c3,(c4,())),(c5,(c6,(c7,((c8,(c9,())),(r0,(r1,(c10,(c11,())))))))))))),((501:Int),((⟨#[]⟩:BA),()))) else (xh n c c1 c2 c3 c4 (1:Int) v.2.1 c7 c8 c9 c10 c11 r0 r1).bind fun v2=>k ((v2.1,(v2.2.1,(v2.2.2.1,((v2.2.2.2.1,(v2.2.2.2.2.1,())),(v2.2.2.2.2.2.1,(v2.2.2.2.2.2.2.1,(v2.2.2.2.2.2.2.2.1,((v2.2.2.2.2.2.2.2.2.1,(v2.2.2.2.2.2.2.2.2.2.1,())),(v2.2.2.2.2.2.2.2.2.2.2.2.2.1,(v2.2.2.2.2.2.2.2.2.2.2.2.2.2.1,(v2.2.2.2.2.2.2.2.2.2.2.1,(v2.2.2.2.2.2.2.2.2.2.2.2.1,())))))))))))),((250:Int),((⟨#[]⟩:BA),()))) else if (v.1==(2:Int))=true then (fe n v.2.1).bind fun v3=>if (!v3)=true then k ((c,(c1,(c2,((c3,(c4,())),(c5,(c6,(c7,((c8,(c9,())),(r0,(r1,(c10,(c11,())))))))))))),((501:Int),((⟨#[]⟩:BA),()))) else (xh n c c1 c2 c3 c4 (1:Int) v.2.1 c7 c8 c9 c10 c11 r0 r1).bind fun v4=>k ((v4.1,(v4.2.1,(v4.2.2.1,((v4.2.2.2.1,(v4.2.2.2.2.1,())),(v4.2.2.2.2.2.1,(v4.2.2.2.2.2.2.1,(v4.2.2.2.2.2.2.2.1,((v4.2.2.2.2.2.2.2.2.1,(v4.2.2.2.2.2.2.2.2.2.1,())),(v4.2.2.2.2.2.2.2.2.2.2.2.2.1,(v4.2.2.2.2.2.2.2.2.2.2.2.2.2.1,(v4.2.2.2.2.2.2.2.2.2.2.1,(v4.2.2.2.2.2.2.2.2.2.2.2.1,())))))))))))),((250:Int),((⟨#[]⟩:BA),())))
 else if (v.1==(6:Int))=true then (xh n c c1 c2 c3 c4 c5 c6 c7 c8 c9 c10 c11 r0 r1).bind fun v5=>k ((v5.1,(v5.2.1,(v5.2.2.1,((v5.2.2.2.1,(v5.2.2.2.2.1,())),(v5.2.2.2.2.2.1,(v5.2.2.2.2.2.2.1,(v5.2.2.2.2.2.2.2.1,((v5.2.2.2.2.2.2.2.2.1,(v5.2.2.2.2.2.2.2.2.2.1,())),(v5.2.2.2.2.2.2.2.2.2.2.2.2.1,(v5.2.2.2.2.2.2.2.2.2.2.2.2.2.1,(v5.2.2.2.2.2.2.2.2.2.2.1,(v5.2.2.2.2.2.2.2.2.2.2.2.1,())))))))))))),((250:Int),((⟨#[]⟩:BA),()))) else if (v.1==(7:Int))=true then k ((c,(c1,(c2,((c3,(c4,())),(c5,(c6,(c7,((c8,(c9,())),(r0,(r1,(c10,(c11,())))))))))))),((250:Int),((⟨#[]⟩:BA),()))) else if (v.1==(9:Int))=true then k ((c,(c1,(c2,((c3,(c4,())),(c5,(c6,(c7,((c8,(c9,())),(r0,(r1,(c10,(c11,())))))))))))),((252:Int),((⟨#[]⟩:BA),()))) else if (v.1==(8:Int))=true then (xh n c c1 c2 c3 c4 c5 c6 c7 c8 c9 c10 c11 r0 r1).bind fun v6=>k ((v6.1,(v6.2.1,(v6.2.2.1,((v6.2.2.2.1,(v6.2.2.2.2.1,())),((5:Int),(v6.2.2.2.2.2.2.1,(v6.2.2.2.2.2.2.2.1,((v6.2.2.2.2.2.2.2.2.1,(v6.2.2.2.2.2.2.2.2.2.1,())),(v6.2.2.2.2.2.2.2.2.2.2.2.2.1,(v6.2.2.2.2.2.2.2.2.2.2.2.2.2.1,(v6.2.2.2.2.2.2.2.2.2.2.1,(v6.2.2.2.2.2.2.2.2.2.2.2.1,())))))))))))),((221:Int),((⟨#[]⟩:BA),()))) else if (v.1==(4:Int))=true then (Yu n (c,(c1,(c2,((c3,(c4,())),(c5,(c6,(c7,((c8,(c9,())),(r0,(r1,(c10,(c11,())))))))))))) v).bind fun v7=>k ((c,(c1,(c2,((c3,(c4,())),(c5,(c6,(c7,((c8,(c9,())),(r0,(r1,(c10,(c11,())))))))))))),(v7.1,(v7.2.1,())))
 else if (v.1==(5:Int))=true then if (c5 !=(3:Int))=true then k ((c,(c1,(c2,((c3,(c4,())),(c5,(c6,(c7,((c8,(c9,())),(r0,(r1,(c10,(c11,())))))))))))),((503:Int),((⟨#[]⟩:BA),()))) else k ((c,(c1,(c2,((c3,(c4,())),((4:Int),(c6,(c7,((c8,(c9,())),(r0,(r1,(c10,(c11,())))))))))))),((354:Int),((⟨#[]⟩:BA),()))) else if (c5 !=(1:Int))=true then k ((c,(c1,(c2,((c3,(c4,())),(c5,(c6,(c7,((c8,(c9,())),(r0,(r1,(c10,(c11,())))))))))))),((503:Int),((⟨#[]⟩:BA),()))) else if (decide (v.2.2.2.2.1>(8192:Int)))=true then k ((c,(c1,(c2,((c3,(c4,())),(c5,(c6,(c7,((c8,(c9,())),(r0,(r1,(c10,(c11,())))))))))))),((552:Int),((⟨#[]⟩:BA),()))) else k ((c,(c1,(c2,((c3,(c4,())),(c5,(c6,(c7,((c8,(c9,())),(r0,(r1,(c10,(c11,())))))))))))),((0:Int),((⟨#[109,97,105,108]⟩:BA),())))
def Kc (n:Nat) (c c1 c2:Int) (c3:BA) (c4:Bool) (c5:Int) (c6:BA) (c7:Bool) (c8 c9:BA) (c10:Int) (c11:Bool) (v:T1) (r0:(Sq U0)) (r1:(Sq BA)):Option U14:=Yf n c c1 c2 c3 c4 c5 c6 c7 c8 c9 c10 c11 v r0 r1 some
theorem iQ (n:Nat) {S:Type}:∀ c c1 c2 c3 c4 c5 c6 c7 c8 c9 c10 c11 v r0 r1 (φ:_→Option S),(Kc n c c1 c2 c3 c4 c5 c6 c7 c8 c9 c10 c11 v r0 r1).bind φ=Yf n c c1 c2 c3 c4 c5 c6 c7 c8 c9 c10 c11 v r0 r1 φ:=by
  intros;unfold Kc Yf;first | (simp only [ja,aa,iB,bB,oL,oX,nB,Option.bind_some]) | rfl
def Mp (n:Nat):Hint OutS:={ live:=fun c=>[],run:=fun c=>none,xm:=fun c q=>none,fz:=true }
theorem gH (n:Nat):qa tys (ia OutS (gy n)) (Mp n) n (fa Tryz.f70) 0:=ma (fun _=>rfl) _ _ (by kernel_rfl)
theorem sK (n:Nat):Enters Tryz.prog 70:=enters_of (c:=fa Tryz.f70) Tryz.func70 (by kernel_rfl) (by kernel_rfl)
def zw:List RSp:=[.agg [.dat (.int .i64),.dat (.int .i64),.dat (.int .i64),.dat .str,.dat .bool,.dat (.int .i64),.dat .str,.dat .bool,.dat .str,.dat .str,.row 0,.row 1,.dat (.int .i64),.dat .bool],.one (.dat K2)]
def yw:List RS:=[.row 25 2 (.pair .str (.pair .str .unit)) true true,.row 9 1 .str true true]
def tK:List Sl:=[.top,.top]
def uK:List RSp:=[.one (.dat K0),.one (.dat (.int .i64)),.one (.dat .str)]
def Kg:List RS:=[]
def Tn (y:U14):OutS:=⟨false,bo (Sc Kg ()) tK (),fG (WC (Sc Kg ()) uK ((y.1,()),((y.2.1,()),((y.2.2.1,()),())))),Fu (Sc Kg ()) Kg ()⟩
theorem zN (n:Nat):EntryOk Tryz.prog gl ⟨70,Sf,none,some (csT zw yw (fun σ ρ=>Kc n σ.1.1 σ.1.2.1 σ.1.2.2.1 σ.1.2.2.2.1 σ.1.2.2.2.2.1 σ.1.2.2.2.2.2.1 σ.1.2.2.2.2.2.2.1 σ.1.2.2.2.2.2.2.2.1 σ.1.2.2.2.2.2.2.2.2.1 σ.1.2.2.2.2.2.2.2.2.2.1 σ.1.2.2.2.2.2.2.2.2.2.2.1 σ.1.2.2.2.2.2.2.2.2.2.2.2.1 σ.2.1.1 ρ.1 ρ.2.1) Tn)⟩:=Be (sK n) fun σ ρ y h=>Hb tys_ok (iy n) mixed (hint:=Mp n) (n:=n) Tryz.func70 (Aa (gH n)) (la (φ:=fun y=>some (Tn y)) (by kernel_rfl) (iQ n σ.1.1 σ.1.2.1 σ.1.2.2.1 σ.1.2.2.2.1 σ.1.2.2.2.2.1 σ.1.2.2.2.2.2.1 σ.1.2.2.2.2.2.2.1 σ.1.2.2.2.2.2.2.2.1 σ.1.2.2.2.2.2.2.2.2.1 σ.1.2.2.2.2.2.2.2.2.2.1 σ.1.2.2.2.2.2.2.2.2.2.2.1 σ.1.2.2.2.2.2.2.2.2.2.2.2.1 σ.2.1.1 ρ.1 ρ.2.1 _) h)
def Dl (n:Nat):List Entry:=⟨70,Sf,none,some (csT zw yw (fun σ ρ=>Kc n σ.1.1 σ.1.2.1 σ.1.2.2.1 σ.1.2.2.2.1 σ.1.2.2.2.2.1 σ.1.2.2.2.2.2.1 σ.1.2.2.2.2.2.2.1 σ.1.2.2.2.2.2.2.2.1 σ.1.2.2.2.2.2.2.2.2.1 σ.1.2.2.2.2.2.2.2.2.2.1 σ.1.2.2.2.2.2.2.2.2.2.2.1 σ.1.2.2.2.2.2.2.2.2.2.2.2.1 σ.2.1.1 ρ.1 ρ.2.1) Tn)⟩::gy n
theorem Un (n:Nat):AllOk Tryz.prog gl (Dl n):=.cons (zN n) (iy n)
def Wk (n:Nat) {R:Type} (c c1 c2:Int) (c3:BA) (c4:Bool) (c5:Int) (c6:BA) (c7:Bool) (c8 c9:BA) (c10:Int) (c11:Bool) (l:U9) (r0:(Sq U0)) (r1:(Sq BA)) (k:(T0×Int×BA×T1×Unit)→Option R):Option R:=if (c5==(4:Int))=true then (bg n c c1 c2 c3 c4 c5 c6 c7 c8 c9 c10 c11 l r0 r1).bind fun v=>dup 1 (k (v.1,((0:Int),(v.2.1,(((0:Int),((⟨#[]⟩:BA),(false,(((⟨#[]⟩:BA),((⟨#[]⟩:BA),())),((0:Int),()))))),()))))) else if l.2.1=true then dup 1 (k ((c,(c1,(c2,((c3,(c4,())),(c5,(c6,(c7,((c8,(c9,())),(r0,(r1,(c10,(c11,())))))))))))),((500:Int),((⟨#[]⟩:BA),(((0:Int),((⟨#[]⟩:BA),(false,(((⟨#[]⟩:BA),((⟨#[]⟩:BA),())),((0:Int),()))))),()))))) else (lA n l.1).bind fun v1=>if (v1.2.1==(0:Int))=true then (Kc n c c1 c2 c3 c4 c5 c6 c7 c8 c9 c10 c11 v1.1 r0 r1).bind fun v2=>dup 1 (k (v2.1,(v2.2.1,(v2.2.2.1,(v1.1,()))))) else if (v1.2.1==(3:Int))=true then dup 1 (k ((c,(c1,(c2,((c3,(c4,())),(c5,(c6,(c7,((c8,(c9,())),(r0,(r1,(c10,(c11,())))))))))))),((500:Int),((⟨#[]⟩:BA),(v1.1,()))))) else dup 1 (k ((c,(c1,(c2,((c3,(c4,())),(c5,(c6,(c7,((c8,(c9,())),(r0,(r1,(c10,(c11,())))))))))))),((501:Int),((⟨#[]⟩:BA),(v1.1,())))))
def ce (n:Nat) (c c1 c2:Int) (c3:BA) (c4:Bool) (c5:Int) (c6:BA) (c7:Bool) (c8 c9:BA) (c10:Int) (c11:Bool) (l:U9) (r0:(Sq U0)) (r1:(Sq BA)):Option (T0×Int×BA×T1×Unit):=Wk n c c1 c2 c3 c4 c5 c6 c7 c8 c9 c10 c11 l r0 r1 some
theorem tZ (n:Nat) {S:Type}:∀ c c1 c2 c3 c4 c5 c6 c7 c8 c9 c10 c11 l r0 r1 (φ:_→Option S),(ce n c c1 c2 c3 c4 c5 c6 c7 c8 c9 c10 c11 l r0 r1).bind φ=Wk n c c1 c2 c3 c4 c5 c6 c7 c8 c9 c10 c11 l r0 r1 φ:=by
  intros;unfold ce Wk;first | (simp only [ja,aa,iB,bB,oL,oX,nB,Option.bind_some]) | rfl
def ky (n:Nat):Hint OutS:={ live:=fun c=>[],run:=fun c=>none,xm:=fun c q=>none,sch:=fun c=>(cond (Nat.beq c 8) (some [(0,1),(2,5),(1,7),(3,6),(4,6),(5,2)]) (cond (Nat.beq c 11) (some [(0,1),(2,5),(1,7),(3,6),(4,6),(5,2)]) (cond (Nat.beq c 13) (some [(1,0),(2,0),(0,1),(4,5),(3,7),(5,6),(6,6),(7,2)]) (cond (Nat.beq c 5) (some [(0,1),(2,5),(1,7),(3,6),(4,6),(5,2)]) (cond (Nat.beq c 3) (some [(1,0),(0,1),(3,5),(2,7),(4,6),(5,6),(6,2)]) none))))),fz:=true }
theorem VP (n:Nat):qa tys (ia OutS (Dl n)) (ky n) n (fa Tryz.f37) 0:=ma (fun _=>rfl) _ _ (by kernel_rfl)
theorem rT (n:Nat):Enters Tryz.prog 37:=enters_of (c:=fa Tryz.f37) Tryz.func37 (by kernel_rfl) (by kernel_rfl)
def bH:List RSp:=[.agg [.dat (.int .i64),.dat (.int .i64),.dat (.int .i64),.dat .str,.dat .bool,.dat (.int .i64),.dat .str,.dat .bool,.dat .str,.dat .str,.row 0,.row 1,.dat (.int .i64),.dat .bool],.one (.dat (.pair .str (.pair .bool .unit)))]
def aH:List RS:=[.row 25 2 (.pair .str (.pair .str .unit)) true true,.row 9 1 .str true true]
def sT:List Sl:=[.top,.top]
def tT:List RSp:=[.one (.dat K0),.one (.dat (.int .i64)),.one (.dat .str),.one (.dat K2)]
def fk:List RS:=[]
def jy (y:(T0×Int×BA×T1×Unit)):OutS:=⟨false,bo (Sc fk ()) sT (),fG (WC (Sc fk ()) tT ((y.1,()),((y.2.1,()),((y.2.2.1,()),((y.2.2.2.1,()),()))))),Fu (Sc fk ()) fk ()⟩
theorem BW (n:Nat):EntryOk Tryz.prog gl ⟨37,Sf,none,some (csT bH aH (fun σ ρ=>ce n σ.1.1 σ.1.2.1 σ.1.2.2.1 σ.1.2.2.2.1 σ.1.2.2.2.2.1 σ.1.2.2.2.2.2.1 σ.1.2.2.2.2.2.2.1 σ.1.2.2.2.2.2.2.2.1 σ.1.2.2.2.2.2.2.2.2.1 σ.1.2.2.2.2.2.2.2.2.2.1 σ.1.2.2.2.2.2.2.2.2.2.2.1 σ.1.2.2.2.2.2.2.2.2.2.2.2.1 σ.2.1.1 ρ.1 ρ.2.1) jy)⟩:=Be (rT n) fun σ ρ y h=>Hb tys_ok (Un n) mixed (hint:=ky n) (n:=n) Tryz.func37 (Aa (VP n)) (la (φ:=fun y=>some (jy y)) (by kernel_rfl) (tZ n σ.1.1 σ.1.2.1 σ.1.2.2.1 σ.1.2.2.2.1 σ.1.2.2.2.2.1 σ.1.2.2.2.2.2.1 σ.1.2.2.2.2.2.2.1 σ.1.2.2.2.2.2.2.2.1 σ.1.2.2.2.2.2.2.2.2.1 σ.1.2.2.2.2.2.2.2.2.2.1 σ.1.2.2.2.2.2.2.2.2.2.2.1 σ.1.2.2.2.2.2.2.2.2.2.2.2.1 σ.2.1.1 ρ.1 ρ.2.1 _) h)
def Qu (n:Nat):List Entry:=⟨37,Sf,none,some (csT bH aH (fun σ ρ=>ce n σ.1.1 σ.1.2.1 σ.1.2.2.1 σ.1.2.2.2.1 σ.1.2.2.2.2.1 σ.1.2.2.2.2.2.1 σ.1.2.2.2.2.2.2.1 σ.1.2.2.2.2.2.2.2.1 σ.1.2.2.2.2.2.2.2.2.1 σ.1.2.2.2.2.2.2.2.2.2.1 σ.1.2.2.2.2.2.2.2.2.2.2.1 σ.1.2.2.2.2.2.2.2.2.2.2.2.1 σ.2.1.1 ρ.1 ρ.2.1) jy)⟩::Dl n
theorem vw (n:Nat):AllOk Tryz.prog gl (Qu n):=.cons (BW n) (Un n)
def QA (n:Nat) {R:Type} (c:T0) (l:U9) (k:(T0×Int×BA×Int×Unit)→Option R):Option R:=(ZP n c).bind fun v=>if (!v)=true then k (((0:Int),((0:Int),((0:Int),(((⟨#[]⟩:BA),(false,())),((0:Int),((⟨#[]⟩:BA),(false,(((⟨#[]⟩:BA),((⟨#[]⟩:BA),())),((⟨0,fun _=>ta (.pair .str (.pair .str .unit))⟩:Sq U0),((⟨0,fun _=>ta .str⟩:Sq BA),((0:Int),(false,())))))))))))),((0:Int),((⟨#[]⟩:BA),((1:Int),())))) else if (c.2.2.2.2.1==(5:Int))=true then k (((0:Int),((0:Int),((0:Int),(((⟨#[]⟩:BA),(false,())),((0:Int),((⟨#[]⟩:BA),(false,(((⟨#[]⟩:BA),((⟨#[]⟩:BA),())),((⟨0,fun _=>ta (.pair .str (.pair .str .unit))⟩:Sq U0),((⟨0,fun _=>ta .str⟩:Sq BA),((0:Int),(false,())))))))))))),((0:Int),((⟨#[]⟩:BA),((6:Int),())))) else dup 1 ((Ch n c).bind fun v1=>(ce n v1.1 v1.2.1 v1.2.2.1 v1.2.2.2.1 v1.2.2.2.2.1 v1.2.2.2.2.2.1 v1.2.2.2.2.2.2.1 v1.2.2.2.2.2.2.2.1 v1.2.2.2.2.2.2.2.2.1 v1.2.2.2.2.2.2.2.2.2.1 v1.2.2.2.2.2.2.2.2.2.2.1 v1.2.2.2.2.2.2.2.2.2.2.2.1 l v1.2.2.2.2.2.2.2.2.2.2.2.2.1 v1.2.2.2.2.2.2.2.2.2.2.2.2.2.1).bind fun v2=>(Ch n v2.1).bind fun v3=>k ((v3.1,(v3.2.1,(v3.2.2.1,((v3.2.2.2.1,(v3.2.2.2.2.1,())),(v3.2.2.2.2.2.1,(v3.2.2.2.2.2.2.1,(v3.2.2.2.2.2.2.2.1,((v3.2.2.2.2.2.2.2.2.1,(v3.2.2.2.2.2.2.2.2.2.1,())),(v3.2.2.2.2.2.2.2.2.2.2.2.2.1,(v3.2.2.2.2.2.2.2.2.2.2.2.2.2.1,(v3.2.2.2.2.2.2.2.2.2.2.1,(v3.2.2.2.2.2.2.2.2.2.2.2.1,())))))))))))),(v2.2.1,(v2.2.2.1,((0:Int),())))))
def ly (n:Nat) (c:T0) (l:U9):Option (T0×Int×BA×Int×Unit):=QA n c l some
theorem Pfb (n:Nat) {S:Type}:∀ c l (φ:_→Option S),(ly n c l).bind φ=QA n c l φ:=by
  intros;unfold ly QA;first | (simp only [ja,aa,iB,bB,oL,oX,nB,Option.bind_some]) | rfl
def XP (n:Nat):Hint Out:={ live:=fun c=>[],run:=fun c=>none,xm:=fun c q=>none,sch:=fun c=>(cond (Nat.beq c 5) (some [(0,1),(1,5),(2,7),(3,2),(4,6),(5,6),(6,6),(7,6),(8,6),(9,2),(10,6),(11,6)]) none) }
theorem L5 (n:Nat):qa tys (ia Out (Qu n)) (XP n) n (fa Tryz.f17) 0:=ma (fun _=>rfl) _ _ (by kernel_rfl)
theorem Pab (n:Nat):Enters Tryz.prog 17:=enters_of (c:=fa Tryz.f17) Tryz.func17 (by kernel_rfl) (by kernel_rfl)
def uZ (n:Nat):Entry:=⟨17,pcT K16 (.many K15) (fun xs=>ly n xs.1 xs.2.1),none,none⟩
theorem Ucb (n:Nat):EntryOk Tryz.prog gl (uZ n):=za (Pab n) fun xs y h=>na tys_ok (vw n) mixed (hint:=XP n) (n:=n) Tryz.func17 (Aa (L5 n)) (la (φ:=(fun y=>some (Out.ret (qb (.many K15) y)))) (by kernel_rfl) (Pfb n xs.1 xs.2.1 _) h)
def WP (n:Nat):List Entry:=uZ n::Qu n
theorem xM (n:Nat):AllOk Tryz.prog gl (WP n):=.cons (Ucb n) (vw n)
def EY (n:Nat) {R:Type} (e:Int) (k:Int→Option R):Option R:=k e
def jj (n:Nat) (e:Int):Option Int:=EY n e some
theorem lhb (n:Nat) {S:Type}:∀ e (φ:_→Option S),(jj n e).bind φ=EY n e φ:=by
  intros;unfold jj EY;first | (simp only [ja,aa,iB,bB,oL,oX,nB,Option.bind_some]) | rfl
def SS (n:Nat):Hint Out:={ live:=fun c=>[],run:=fun c=>none,xm:=fun c q=>none }
theorem o8 (n:Nat):qa tys (ia Out (WP n)) (SS n) n (fa Tryz.f18) 0:=ma (fun _=>rfl) _ _ (by kernel_rfl)
theorem tcb (n:Nat):Enters Tryz.prog 18:=enters_of (c:=fa Tryz.f18) Tryz.func18 (by kernel_rfl) (by kernel_rfl)
def L4 (n:Nat):Entry:=⟨18,pcT (.pair (.int .i64) .unit) (.one (.int .i64)) (fun xs=>jj n xs.1),none,none⟩
theorem pfb (n:Nat):EntryOk Tryz.prog gl (L4 n):=za (tcb n) fun xs y h=>na tys_ok (xM n) mixed (hint:=SS n) (n:=n) Tryz.func18 (Aa (o8 n)) (la (φ:=(fun y=>some (Out.ret (qb (.one (.int .i64)) y)))) (by kernel_rfl) (lhb n xs.1 _) h)
def JA (n:Nat):List Entry:=L4 n::WP n
theorem tN (n:Nat):AllOk Tryz.prog gl (JA n):=.cons (pfb n) (xM n)
def Qc (n:Nat) {R:Type} (a1 b1:(Sq U0)) (i:Int) (kn:(Sq U0)→(Sq U0)→Int→Option R) (ko:(Unit)→Option R) (kr:(Bool)→Option R) (kp:Int→Option R):Option R:=if (decide (i<(a1.n:Int)))=true then if 0≤i∧i<(a1.n:Int) then if 0≤i∧i<(b1.n:Int) then if (!(((((a1.at' (Int.toNat i))).1).toList==(((b1.at' (Int.toNat i))).1).toList)&&((((((a1.at' (Int.toNat i))).2).1).toList==((((b1.at' (Int.toNat i))).2).1).toList)&&true)))=true then kr false else kn a1 b1 (IntKind.wrap .i64 (i+(1:Int))) else none else none else ko ()
def Xa (n:Nat):Nat→(Sq U0)→(Sq U0)→Int→Option (Lx (Unit) (Bool))
 | 0,_,_,_=>none
 | m+1,a1,b1,i=>Qc n a1 b1 i (Xa n m) (fun a=>some (.out a)) (fun a=>some (.ret a)) (fun p=>some (.pan p))
theorem rE (n m:Nat) {S:Type}:∀ a1 b1 i (φ:_→Option S),(Xa n (m+1) a1 b1 i).bind φ=Qc n a1 b1 i (fun a1 b1 i=>(Xa n m a1 b1 i).bind φ) (fun a=>φ (.out a)) (fun a=>φ (.ret a)) (fun p=>φ (.pan p)):=by
  intros;first | (simp only [Xa,Qc,ja,aa,iB,bB,oL,oX,nB,Option.bind_some]) | rfl
def th:List Sl:=.dat (.sl (.pair .str (.pair .str .unit)))::.dat (.sl (.pair .str (.pair .str .unit)))::.top::.top::.top::.dat (.int .i64)::tp 20 []
def sh:List RS:=[]
def Gt:List Sl:=tp 26 []
def Ft:List RS:=[]
def It:List Sl:=tp 4 (.dat .bool::tp 21 [])
def Ht:List RS:=[]
def Db (K:XE→List AV→oa→Option Out):Lx (Unit) (Bool)→Option Out:=fun x=>onL x (fun a=>tc Gt Ft () () (K (.exit 0))) (fun a=>tc It Ht (a,()) () (K .ret)) (fun _=>none)
def Eh (n:Nat) {R:Type} (a b:(Sq U0)) (k:Bool→Option R):Option R:=if ((a.n:Int) !=(b.n:Int))=true then k false else (Xa n n a b (0:Int)).bind fun x_1=>onL x_1 (fun a_2=>k true) (fun a_3=>k a_3) (fun _=>none)
def Cf (n:Nat) (a b:(Sq U0)):Option Bool:=Eh n a b some
theorem RN (n:Nat) {S:Type}:∀ a b (φ:_→Option S),(Cf n a b).bind φ=Eh n a b φ:=by
  intros;unfold Cf Eh;first | (simp only [ja,aa,iB,bB,oL,oX,nB,Option.bind_some]) | rfl
def Te (n:Nat):Hint Out:={ live:=fun c=>(cond (Nat.beq c 0) [(0,some (.sl (.pair .str (.pair .str .unit)))),(1,some (.sl (.pair .str (.pair .str .unit)))),(5,none)] []),run:=fun c=>(cond (Nat.beq c 0) (some (Zg th sh fun σ ρ K=>(Xa n n σ.1 σ.2.1 σ.2.2.1).bind (Db K))) none),xm:=fun c q=>(cond (Nat.beq c 0&&Nat.beq (q.getD 1000000) 0&&q.isSome) (some []) (cond (Nat.beq c 1&&q.isNone) (some [(4,none)]) none)) }
def Se (n:Nat) (K:XE→List AV→oa→Option Out) (m:Nat) (a1:(Sq U0)) (b1:(Sq U0)) (i:Int):Option Out:=Nc tys (ia Out (JA n)) (Te n) n (wa [1,1,0,1,0,0] (fa Tryz.f39)) 0 th sh K m (a1,(b1,(i,()))) ()
theorem xo (n:Nat) (K:XE→List AV→oa→Option Out):∀ (m:Nat) a1 b1 i,Se n K m a1 b1 i=(Xa n m a1 b1 i).bind (Db K)
  | 0,_,_,_=>by kernel_rfl
  | m+1,a1,b1,i=>by
    have h1:Se n K (m+1) a1 b1 i=Qc n a1 b1 i (Se n K m) (fun a=>Db K (.out a)) (fun a=>Db K (.ret a)) (fun p=>Db K (.pan p)):=by kernel_rfl
    have h2:Se n K m=fun a1 b1 i=>(Xa n m a1 b1 i).bind (Db K):=by
      repeat (refine funext fun _=>?_)
      exact xo n K m _ _ _
    rw [h1,h2];exact (rE n m _ _ _ (Db K)).symm
theorem aC (n:Nat):Bc tys (ia Out (JA n)) (Te n) n (wa [1,1,0,1,0,0] (fa Tryz.f39)) 0:=Ea (sp:=th) (rp:=sh) (by kernel_rfl) fun K σ ρ=>xo n K n σ.1 σ.2.1 σ.2.2.1
theorem sE (n:Nat):qa tys (ia Out (JA n)) (Te n) n (fa Tryz.f39) 0:=⟨trivial,⟨⟨trivial,⟨⟨trivial,trivial⟩,trivial⟩⟩,⟨⟨trivial,⟨aC n,⟨⟨trivial,⟨trivial,trivial⟩⟩,⟨⟨trivial,⟨⟨trivial,trivial⟩,trivial⟩⟩,trivial⟩⟩⟩⟩,⟨trivial,trivial⟩⟩⟩⟩
theorem HH (n:Nat):Enters Tryz.prog 39:=enters_of (c:=fa Tryz.f39) Tryz.func39 (by kernel_rfl) (by kernel_rfl)
def Jt (n:Nat):Entry:=⟨39,pcT K17 (.one .bool) (fun xs=>Cf n xs.1 xs.2.1),none,none⟩
theorem PK (n:Nat):EntryOk Tryz.prog gl (Jt n):=za (HH n) fun xs y h=>na tys_ok (tN n) mixed (hint:=Te n) (n:=n) Tryz.func39 (Aa (sE n)) (la (φ:=(fun y=>some (Out.ret (qb (.one .bool) y)))) (by kernel_rfl) (RN n xs.1 xs.2.1 _) h)
def le (n:Nat):List Entry:=Jt n::JA n
theorem Zl (n:Nat):AllOk Tryz.prog gl (le n):=.cons (PK n) (tN n)
def me (n:Nat) {R:Type} (a1 b1:(Sq BA)) (i:Int) (kn:(Sq BA)→(Sq BA)→Int→Option R) (ko:(Unit)→Option R) (kr:(Bool)→Option R) (kp:Int→Option R):Option R:=if (decide (i<(a1.n:Int)))=true then if 0≤i∧i<(a1.n:Int) then if 0≤i∧i<(b1.n:Int) then if (!((a1.at' (Int.toNat i)).toList==(b1.at' (Int.toNat i)).toList))=true then kr false else kn a1 b1 (IntKind.wrap .i64 (i+(1:Int))) else none else none else ko ()
def mb (n:Nat):Nat→(Sq BA)→(Sq BA)→Int→Option (Lx (Unit) (Bool))
 | 0,_,_,_=>none
 | m+1,a1,b1,i=>me n a1 b1 i (mb n m) (fun a=>some (.out a)) (fun a=>some (.ret a)) (fun p=>some (.pan p))
theorem QK (n m:Nat) {S:Type}:∀ a1 b1 i (φ:_→Option S),(mb n (m+1) a1 b1 i).bind φ=me n a1 b1 i (fun a1 b1 i=>(mb n m a1 b1 i).bind φ) (fun a=>φ (.out a)) (fun a=>φ (.ret a)) (fun p=>φ (.pan p)):=by
  intros;first | (simp only [mb,me,ja,aa,iB,bB,oL,oX,nB,Option.bind_some]) | rfl
def Li:List Sl:=.dat (.sl .str)::.dat (.sl .str)::.top::.top::.top::.dat (.int .i64)::tp 20 []
def Ki:List RS:=[]
def Vw:List Sl:=tp 26 []
def Uw:List RS:=[]
def Xw:List Sl:=tp 4 (.dat .bool::tp 21 [])
def Ww:List RS:=[]
def fc (K:XE→List AV→oa→Option Out):Lx (Unit) (Bool)→Option Out:=fun x=>onL x (fun a=>tc Vw Uw () () (K (.exit 0))) (fun a=>tc Xw Ww (a,()) () (K .ret)) (fun _=>none)
def rk (n:Nat) {R:Type} (a b:(Sq BA)) (k:Bool→Option R):Option R:=if ((a.n:Int) !=(b.n:Int))=true then k false else (mb n n a b (0:Int)).bind fun x_1=>onL x_1 (fun a_2=>k true) (fun a_3=>k a_3) (fun _=>none)
def ni (n:Nat) (a b:(Sq BA)):Option Bool:=rk n a b some
theorem XT (n:Nat) {S:Type}:∀ a b (φ:_→Option S),(ni n a b).bind φ=rk n a b φ:=by
  intros;unfold ni rk;first | (simp only [ja,aa,iB,bB,oL,oX,nB,Option.bind_some]) | rfl
def Og (n:Nat):Hint Out:={ live:=fun c=>(cond (Nat.beq c 0) [(0,some (.sl .str)),(1,some (.sl .str)),(5,none)] []),run:=fun c=>(cond (Nat.beq c 0) (some (Zg Li Ki fun σ ρ K=>(mb n n σ.1 σ.2.1 σ.2.2.1).bind (fc K))) none),xm:=fun c q=>(cond (Nat.beq c 0&&Nat.beq (q.getD 1000000) 0&&q.isSome) (some []) (cond (Nat.beq c 1&&q.isNone) (some [(4,none)]) none)) }
def Ng (n:Nat) (K:XE→List AV→oa→Option Out) (m:Nat) (a1:(Sq BA)) (b1:(Sq BA)) (i:Int):Option Out:=Nc tys (ia Out (le n)) (Og n) n (wa [1,1,0,1,0,0] (fa Tryz.f40)) 0 Li Ki K m (a1,(b1,(i,()))) ()
theorem Kt (n:Nat) (K:XE→List AV→oa→Option Out):∀ (m:Nat) a1 b1 i,Ng n K m a1 b1 i=(mb n m a1 b1 i).bind (fc K)
  | 0,_,_,_=>by kernel_rfl
  | m+1,a1,b1,i=>by
    have h1:Ng n K (m+1) a1 b1 i=me n a1 b1 i (Ng n K m) (fun a=>fc K (.out a)) (fun a=>fc K (.ret a)) (fun p=>fc K (.pan p)):=by kernel_rfl
    have h2:Ng n K m=fun a1 b1 i=>(mb n m a1 b1 i).bind (fc K):=by
      repeat (refine funext fun _=>?_)
      exact Kt n K m _ _ _
    rw [h1,h2];exact (QK n m _ _ _ (fc K)).symm
theorem IH (n:Nat):Bc tys (ia Out (le n)) (Og n) n (wa [1,1,0,1,0,0] (fa Tryz.f40)) 0:=Ea (sp:=Li) (rp:=Ki) (by kernel_rfl) fun K σ ρ=>Kt n K n σ.1 σ.2.1 σ.2.2.1
theorem RK (n:Nat):qa tys (ia Out (le n)) (Og n) n (fa Tryz.f40) 0:=⟨trivial,⟨⟨trivial,⟨⟨trivial,trivial⟩,trivial⟩⟩,⟨⟨trivial,⟨IH n,⟨⟨trivial,⟨trivial,trivial⟩⟩,⟨⟨trivial,⟨⟨trivial,trivial⟩,trivial⟩⟩,trivial⟩⟩⟩⟩,⟨trivial,trivial⟩⟩⟩⟩
theorem SN (n:Nat):Enters Tryz.prog 40:=enters_of (c:=fa Tryz.f40) Tryz.func40 (by kernel_rfl) (by kernel_rfl)
def dz (n:Nat):Entry:=⟨40,pcT (.pair (.sl .str) (.pair (.sl .str) .unit)) (.one .bool) (fun xs=>ni n xs.1 xs.2.1),none,none⟩
theorem SQ (n:Nat):EntryOk Tryz.prog gl (dz n):=za (SN n) fun xs y h=>na tys_ok (Zl n) mixed (hint:=Og n) (n:=n) Tryz.func40 (Aa (RK n)) (la (φ:=(fun y=>some (Out.ret (qb (.one .bool) y)))) (by kernel_rfl) (XT n xs.1 xs.2.1 _) h)
def yo (n:Nat):List Entry:=dz n::le n
theorem Zp (n:Nat):AllOk Tryz.prog gl (yo n):=.cons (SQ n) (Zl n)
def Km (n:Nat) {R:Type} (a b:T0) (k:Bool→Option R):Option R:=if (a.1==b.1)=true then if (a.2.1==b.2.1)=true then if (a.2.2.1==b.2.2.1)=true then if ((a.2.2.2.1.1.toList==b.2.2.2.1.1.toList)&&((a.2.2.2.1.2.1==b.2.2.2.1.2.1)&&true))=true then if (a.2.2.2.2.1==b.2.2.2.2.1)=true then if (a.2.2.2.2.2.1.toList==b.2.2.2.2.2.1.toList)=true then if (a.2.2.2.2.2.2.1==b.2.2.2.2.2.2.1)=true then if ((a.2.2.2.2.2.2.2.1.1.toList==b.2.2.2.2.2.2.2.1.1.toList)&&((a.2.2.2.2.2.2.2.1.2.1.toList==b.2.2.2.2.2.2.2.1.2.1.toList)&&true))=true then (Cf n a.2.2.2.2.2.2.2.2.1 b.2.2.2.2.2.2.2.2.1).bind fun v=>if v=true then (ni n a.2.2.2.2.2.2.2.2.2.1 b.2.2.2.2.2.2.2.2.2.1).bind fun v1=>if v1=true then if (a.2.2.2.2.2.2.2.2.2.2.1==b.2.2.2.2.2.2.2.2.2.2.1)=true then k (a.2.2.2.2.2.2.2.2.2.2.2.1==b.2.2.2.2.2.2.2.2.2.2.2.1) else k false else k false else k false else k false else k false else k false else k false else k false else k false else k false else k false
def ya (n:Nat) (a b:T0):Option Bool:=Km n a b some
theorem pX (n:Nat) {S:Type}:∀ a b (φ:_→Option S),(ya n a b).bind φ=Km n a b φ:=by
  intros;unfold ya Km;first | (simp only [ja,aa,iB,bB,oL,oX,nB,Option.bind_some]) | rfl
def Ew (n:Nat):Hint Out:={ live:=fun c=>[],run:=fun c=>none,xm:=fun c q=>none }
theorem QN (n:Nat):qa tys (ia Out (yo n)) (Ew n) n (fa Tryz.f19) 0:=ma (fun _=>rfl) _ _ (by kernel_rfl)
theorem RQ (n:Nat):Enters Tryz.prog 19:=enters_of (c:=fa Tryz.f19) Tryz.func19 (by kernel_rfl) (by kernel_rfl)
def bD (n:Nat):Entry:=⟨19,pcT K18 (.one .bool) (fun xs=>ya n xs.1 xs.2.1),none,none⟩
theorem WT (n:Nat):EntryOk Tryz.prog gl (bD n):=za (RQ n) fun xs y h=>na tys_ok (Zp n) mixed (hint:=Ew n) (n:=n) Tryz.func19 (Aa (QN n)) (la (φ:=(fun y=>some (Out.ret (qb (.one .bool) y)))) (by kernel_rfl) (pX n xs.1 xs.2.1 _) h)
def Hr (n:Nat):List Entry:=bD n::yo n
theorem Et (n:Nat):AllOk Tryz.prog gl (Hr n):=.cons (WT n) (Zp n)
def YO (n:Nat) {R:Type} (id tenant ip:Int) (k:(T0×Int×Unit)→Option R):Option R:=(ZP n (id,(tenant,(ip,(((⟨#[]⟩:BA),(false,())),((0:Int),((⟨#[]⟩:BA),(false,(((⟨#[]⟩:BA),((⟨#[]⟩:BA),())),((⟨0,fun _=>ta (.pair .str (.pair .str .unit))⟩:Sq U0),((⟨0,fun _=>ta .str⟩:Sq BA),((0:Int),(false,()))))))))))))).bind fun v=>if (!v)=true then k (((0:Int),((0:Int),((0:Int),(((⟨#[]⟩:BA),(false,())),((0:Int),((⟨#[]⟩:BA),(false,(((⟨#[]⟩:BA),((⟨#[]⟩:BA),())),((⟨0,fun _=>ta (.pair .str (.pair .str .unit))⟩:Sq U0),((⟨0,fun _=>ta .str⟩:Sq BA),((0:Int),(false,())))))))))))),((1:Int),())) else k ((id,(tenant,(ip,(((⟨#[]⟩:BA),(false,())),((0:Int),((⟨#[]⟩:BA),(false,(((⟨#[]⟩:BA),((⟨#[]⟩:BA),())),((⟨0,fun _=>ta (.pair .str (.pair .str .unit))⟩:Sq U0),((⟨0,fun _=>ta .str⟩:Sq BA),((0:Int),(false,())))))))))))),((0:Int),()))
def gV (n:Nat) (id tenant ip:Int):Option (T0×Int×Unit):=YO n id tenant ip some
theorem Rfb (n:Nat) {S:Type}:∀ id tenant ip (φ:_→Option S),(gV n id tenant ip).bind φ=YO n id tenant ip φ:=by
  intros;unfold gV YO;first | (simp only [ja,aa,iB,bB,oL,oX,nB,Option.bind_some]) | rfl
def bQ (n:Nat):Hint Out:={ live:=fun c=>[],run:=fun c=>none,xm:=fun c q=>none }
theorem O5 (n:Nat):qa tys (ia Out (Hr n)) (bQ n) n (fa Tryz.f41) 0:=ma (fun _=>rfl) _ _ (by kernel_rfl)
theorem Rab (n:Nat):Enters Tryz.prog 41:=enters_of (c:=fa Tryz.f41) Tryz.func41 (by kernel_rfl) (by kernel_rfl)
def vZ (n:Nat):Entry:=⟨41,pcT (.pair (.int .i64) (.pair (.int .i64) (.pair (.int .i64) .unit))) (.many K19) (fun xs=>gV n xs.1 xs.2.1 xs.2.2.1),none,none⟩
theorem Wcb (n:Nat):EntryOk Tryz.prog gl (vZ n):=za (Rab n) fun xs y h=>na tys_ok (Et n) mixed (hint:=bQ n) (n:=n) Tryz.func41 (Aa (O5 n)) (la (φ:=(fun y=>some (Out.ret (qb (.many K19) y)))) (by kernel_rfl) (Rfb n xs.1 xs.2.1 xs.2.2.1 _) h)
def aQ (n:Nat):List Entry:=vZ n::Hr n
theorem BM (n:Nat):AllOk Tryz.prog gl (aQ n):=.cons (Wcb n) (Et n)
def NB (n:Nat) {R:Type} (k:Bool→Option R):Option R:=(gV n (1:Int) (0:Int) (5:Int)).bind fun v=>(ly n v.1 ((⟨#[69,72,76,79,32,120]⟩:BA),(false,()))).bind fun v1=>(jj n v.2.1).bind fun v2=>if (v2==(0:Int))=true then (jj n v1.2.2.2.1).bind fun v3=>if (v3==(0:Int))=true then if (v1.2.1==(250:Int))=true then if (v1.2.2.1.toList==(⟨#[]⟩:BA).toList)=true then if (v1.1.2.2.2.2.1==(1:Int))=true then k (v1.1.2.2.2.2.2.1.toList==(⟨#[120]⟩:BA).toList) else k false else k false else k false else k false else k false
def pw (n:Nat):Option Bool:=NB n some
theorem wcb (n:Nat) {S:Type}:∀ (φ:_→Option S),(pw n).bind φ=NB n φ:=by
  intros;unfold pw NB;first | (simp only [ja,aa,iB,bB,oL,oX,nB,Option.bind_some]) | rfl
def fK (n:Nat):Hint Out:={ live:=fun c=>[],run:=fun c=>none,xm:=fun c q=>none }
theorem HY (n:Nat):qa tys (ia Out (aQ n)) (fK n) n (fa Tryz.f20) 0:=ma (fun _=>rfl) _ _ (by kernel_rfl)
theorem P4 (n:Nat):Enters Tryz.prog 20:=enters_of (c:=fa Tryz.f20) Tryz.func20 (by kernel_rfl) (by kernel_rfl)
def TS (n:Nat):Entry:=⟨20,pcT .unit (.one .bool) (fun xs=>pw n),none,none⟩
theorem s8 (n:Nat):EntryOk Tryz.prog gl (TS n):=za (P4 n) fun xs y h=>na tys_ok (BM n) mixed (hint:=fK n) (n:=n) Tryz.func20 (Aa (HY n)) (la (φ:=(fun y=>some (Out.ret (qb (.one .bool) y)))) (by kernel_rfl) (wcb n  _) h)
def Cp (n:Nat):List Entry:=TS n::aQ n
theorem TD (n:Nat):AllOk Tryz.prog gl (Cp n):=.cons (s8 n) (BM n)
def ub (n:Nat) {R:Type} (l1:(Sq U0)) (i:Int) (m0:(Sq U0)) (kn:(Sq U0)→Int→(Sq U0)→Option R) (ko:((Sq U0))→Option R) (kr:Unit→Option R) (kp:Int→Option R):Option R:=if (decide (i<(l1.n:Int)))=true then if 0≤i∧i<(l1.n:Int) then if wb (m0.n+1) 32=true then kn l1 (IntKind.wrap .i64 (i+(1:Int))) (⟨(m0.n+1),fun q=>if q<m0.n then m0.at' q else (fun q=>List.getD (α:=U0) [(((l1.at' (Int.toNat i))).1,((((l1.at' (Int.toNat i))).2).1,()))] q (ta (.pair .str (.pair .str .unit)))) (q - m0.n)⟩:Sq U0) else none else none else ko m0
def Ga (n:Nat):Nat→(Sq U0)→Int→(Sq U0)→Option (Lx ((Sq U0)) Unit)
 | 0,_,_,_=>none
 | m+1,l1,i,m0=>ub n l1 i m0 (Ga n m) (fun a=>some (.out a)) (fun a=>some (.ret a)) (fun p=>some (.pan p))
theorem Ct (n m:Nat) {S:Type}:∀ l1 i m0 (φ:_→Option S),(Ga n (m+1) l1 i m0).bind φ=ub n l1 i m0 (fun l1 i m0=>(Ga n m l1 i m0).bind φ) (fun a=>φ (.out a)) (fun a=>φ (.ret a)) (fun p=>φ (.pan p)):=by
  intros;first | (simp only [Ga,ub,ja,aa,iB,bB,oL,oX,nB,Option.bind_some]) | rfl
def Sd:List Sl:=.dat (.sl (.pair .str (.pair .str .unit)))::.top::.top::.row 0::.dat (.int .i64)::tp 14 []
def Rd:List RS:=[.row 25 2 (.pair .str (.pair .str .unit)) true false,.ghost [.top]]
def Il:List Sl:=.top::.top::.top::.row 0::tp 15 []
def Hl:List RS:=[.row 25 2 (.pair .str (.pair .str .unit)) true false,.ghost [.top]]
def Wa (K:XE→List AV→oa→Option OutS):Lx ((Sq U0)) Unit→Option OutS:=fun x=>onL x (fun a=>tc Il Hl () (a,((),())) (K (.exit 0))) (fun _=>none) (fun _=>none)
def Hd (n:Nat) {R:Type} (l:(Sq U0)) (k:((Sq U0)×Unit)→Option R):Option R:=(Ga n n l (0:Int) (⟨0,fun _=>ta (.pair .str (.pair .str .unit))⟩:Sq U0)).bind fun x_1=>onL x_1 (fun a_2=>k (a_2,())) (fun _=>none) (fun _=>none)
def lb (n:Nat) (l:(Sq U0)):Option ((Sq U0)×Unit):=Hd n l some
theorem Zy (n:Nat) {S:Type}:∀ l (φ:_→Option S),(lb n l).bind φ=Hd n l φ:=by
  intros;unfold lb Hd;first | (simp only [ja,aa,iB,bB,oL,oX,nB,Option.bind_some]) | rfl
def Ec (n:Nat):Hint OutS:={ live:=fun c=>(cond (Nat.beq c 0) [(0,some (.sl (.pair .str (.pair .str .unit)))),(3,some (.sl (.pair .str (.pair .str .unit)))),(4,none)] []),run:=fun c=>(cond (Nat.beq c 0) (some (Zg Sd Rd fun σ ρ K=>(Ga n n σ.1 σ.2.1 ρ.1).bind (Wa K))) none),xm:=fun c q=>(cond (Nat.beq c 0&&Nat.beq (q.getD 1000000) 0&&q.isSome) (some [(3,some (.sl (.pair .str (.pair .str .unit))))]) none) }
def Dc (n:Nat) (K:XE→List AV→oa→Option OutS) (m:Nat) (l1:(Sq U0)) (i:Int) (m0:(Sq U0)):Option OutS:=Nc tys (ia OutS (Cp n)) (Ec n) n (wa [1,1,0,1,0,0] (fa Tryz.f42)) 0 Sd Rd K m (l1,(i,())) (m0,((),()))
theorem mi (n:Nat) (K:XE→List AV→oa→Option OutS):∀ (m:Nat) l1 i m0,Dc n K m l1 i m0=(Ga n m l1 i m0).bind (Wa K)
  | 0,_,_,_=>by kernel_rfl
  | m+1,l1,i,m0=>by
    have h1:Dc n K (m+1) l1 i m0=ub n l1 i m0 (Dc n K m) (fun a=>Wa K (.out a)) (fun a=>Wa K (.ret a)) (fun p=>Wa K (.pan p)):=by kernel_rfl
    have h2:Dc n K m=fun l1 i m0=>(Ga n m l1 i m0).bind (Wa K):=by
      repeat (refine funext fun _=>?_)
      exact mi n K m _ _ _
    rw [h1,h2];exact (Ct n m _ _ _ (Wa K)).symm
theorem Gr (n:Nat):Bc tys (ia OutS (Cp n)) (Ec n) n (wa [1,1,0,1,0,0] (fa Tryz.f42)) 0:=Ea (sp:=Sd) (rp:=Rd) (by kernel_rfl) fun K σ ρ=>mi n K n σ.1 σ.2.1 ρ.1
theorem Dt (n:Nat):qa tys (ia OutS (Cp n)) (Ec n) n (fa Tryz.f42) 0:=⟨trivial,⟨trivial,⟨⟨trivial,⟨Gr n,⟨⟨trivial,⟨trivial,trivial⟩⟩,⟨trivial,trivial⟩⟩⟩⟩,⟨trivial,trivial⟩⟩⟩⟩
theorem tv (n:Nat):Enters Tryz.prog 42:=enters_of (c:=fa Tryz.f42) Tryz.func42 (by kernel_rfl) (by kernel_rfl)
def sj:List RSp:=[.one (.dat (.sl (.pair .str (.pair .str .unit))))]
def rj:List RS:=[]
def uv:List Sl:=[.top]
def wv:List RSp:=[.one (.row 0)]
def Oc:List RS:=[.row 25 2 (.pair .str (.pair .str .unit)) true false]
def kg (y:((Sq U0)×Unit)):OutS:=⟨false,bo (Sc Oc (y.1,())) uv (),fG (WC (Sc Oc (y.1,())) wv ((),())),Fu (Sc Oc (y.1,())) Oc (y.1,())⟩
theorem Rw (n:Nat):EntryOk Tryz.prog gl ⟨42,Sf,none,some (csT sj rj (fun σ ρ=>lb n σ.1.1) kg)⟩:=Be (tv n) fun σ ρ y h=>Hb tys_ok (TD n) mixed (hint:=Ec n) (n:=n) Tryz.func42 (Aa (Dt n)) (la (φ:=fun y=>some (kg y)) (by kernel_rfl) (Zy n σ.1.1 _) h)
def dc (n:Nat):List Entry:=⟨42,Sf,none,some (csT sj rj (fun σ ρ=>lb n σ.1.1) kg)⟩::Cp n
theorem Bh (n:Nat):AllOk Tryz.prog gl (dc n):=.cons (Rw n) (TD n)
def Zb (n:Nat) {R:Type} (l1:(Sq BA)) (i:Int) (m0:(Sq BA)) (kn:(Sq BA)→Int→(Sq BA)→Option R) (ko:((Sq BA))→Option R) (kr:Unit→Option R) (kp:Int→Option R):Option R:=if (decide (i<(l1.n:Int)))=true then if 0≤i∧i<(l1.n:Int) then if wb (m0.n+1) 16=true then kn l1 (IntKind.wrap .i64 (i+(1:Int))) (⟨(m0.n+1),fun q=>if q<m0.n then m0.at' q else (fun q=>List.getD (α:=BA) [(l1.at' (Int.toNat i))] q (ta .str)) (q - m0.n)⟩:Sq BA) else none else none else ko m0
def Ja (n:Nat):Nat→(Sq BA)→Int→(Sq BA)→Option (Lx ((Sq BA)) Unit)
 | 0,_,_,_=>none
 | m+1,l1,i,m0=>Zb n l1 i m0 (Ja n m) (fun a=>some (.out a)) (fun a=>some (.ret a)) (fun p=>some (.pan p))
theorem Sw (n m:Nat) {S:Type}:∀ l1 i m0 (φ:_→Option S),(Ja n (m+1) l1 i m0).bind φ=Zb n l1 i m0 (fun l1 i m0=>(Ja n m l1 i m0).bind φ) (fun a=>φ (.out a)) (fun a=>φ (.ret a)) (fun p=>φ (.pan p)):=by
  intros;first | (simp only [Ja,Zb,ja,aa,iB,bB,oL,oX,nB,Option.bind_some]) | rfl
def Re:List Sl:=.dat (.sl .str)::.top::.top::.row 0::.dat (.int .i64)::tp 14 []
def Qe:List RS:=[.row 9 1 .str true false,.ghost [.top]]
def wo:List Sl:=.top::.top::.top::.row 0::tp 15 []
def vo:List RS:=[.row 9 1 .str true false,.ghost [.top]]
def ib (K:XE→List AV→oa→Option OutS):Lx ((Sq BA)) Unit→Option OutS:=fun x=>onL x (fun a=>tc wo vo () (a,((),())) (K (.exit 0))) (fun _=>none) (fun _=>none)
def Pe (n:Nat) {R:Type} (l:(Sq BA)) (k:((Sq BA)×Unit)→Option R):Option R:=(Ja n n l (0:Int) (⟨0,fun _=>ta .str⟩:Sq BA)).bind fun x_1=>onL x_1 (fun a_2=>k (a_2,())) (fun _=>none) (fun _=>none)
def Ib (n:Nat) (l:(Sq BA)):Option ((Sq BA)×Unit):=Pe n l some
theorem qE (n:Nat) {S:Type}:∀ l (φ:_→Option S),(Ib n l).bind φ=Pe n l φ:=by
  intros;unfold Ib Pe;first | (simp only [ja,aa,iB,bB,oL,oX,nB,Option.bind_some]) | rfl
def xd (n:Nat):Hint OutS:={ live:=fun c=>(cond (Nat.beq c 0) [(0,some (.sl .str)),(3,some (.sl .str)),(4,none)] []),run:=fun c=>(cond (Nat.beq c 0) (some (Zg Re Qe fun σ ρ K=>(Ja n n σ.1 σ.2.1 ρ.1).bind (ib K))) none),xm:=fun c q=>(cond (Nat.beq c 0&&Nat.beq (q.getD 1000000) 0&&q.isSome) (some [(3,some (.sl .str))]) none) }
def wd (n:Nat) (K:XE→List AV→oa→Option OutS) (m:Nat) (l1:(Sq BA)) (i:Int) (m0:(Sq BA)):Option OutS:=Nc tys (ia OutS (dc n)) (xd n) n (wa [1,1,0,1,0,0] (fa Tryz.f43)) 0 Re Qe K m (l1,(i,())) (m0,((),()))
theorem tj (n:Nat) (K:XE→List AV→oa→Option OutS):∀ (m:Nat) l1 i m0,wd n K m l1 i m0=(Ja n m l1 i m0).bind (ib K)
  | 0,_,_,_=>by kernel_rfl
  | m+1,l1,i,m0=>by
    have h1:wd n K (m+1) l1 i m0=Zb n l1 i m0 (wd n K m) (fun a=>ib K (.out a)) (fun a=>ib K (.ret a)) (fun p=>ib K (.pan p)):=by kernel_rfl
    have h2:wd n K m=fun l1 i m0=>(Ja n m l1 i m0).bind (ib K):=by
      repeat (refine funext fun _=>?_)
      exact tj n K m _ _ _
    rw [h1,h2];exact (Sw n m _ _ _ (ib K)).symm
theorem xv (n:Nat):Bc tys (ia OutS (dc n)) (xd n) n (wa [1,1,0,1,0,0] (fa Tryz.f43)) 0:=Ea (sp:=Re) (rp:=Qe) (by kernel_rfl) fun K σ ρ=>tj n K n σ.1 σ.2.1 ρ.1
theorem Tw (n:Nat):qa tys (ia OutS (dc n)) (xd n) n (fa Tryz.f43) 0:=⟨trivial,⟨trivial,⟨⟨trivial,⟨xv n,⟨⟨trivial,⟨trivial,trivial⟩⟩,⟨trivial,trivial⟩⟩⟩⟩,⟨trivial,trivial⟩⟩⟩⟩
theorem az (n:Nat):Enters Tryz.prog 43:=enters_of (c:=fa Tryz.f43) Tryz.func43 (by kernel_rfl) (by kernel_rfl)
def Yl:List RSp:=[.one (.dat (.sl .str))]
def Xl:List RS:=[]
def bz:List Sl:=[.top]
def cz:List RSp:=[.one (.row 0)]
def Id:List RS:=[.row 9 1 .str true false]
def Uh (y:((Sq BA)×Unit)):OutS:=⟨false,bo (Sc Id (y.1,())) bz (),fG (WC (Sc Id (y.1,())) cz ((),())),Fu (Sc Id (y.1,())) Id (y.1,())⟩
theorem ZB (n:Nat):EntryOk Tryz.prog gl ⟨43,Sf,none,some (csT Yl Xl (fun σ ρ=>Ib n σ.1.1) Uh)⟩:=Be (az n) fun σ ρ y h=>Hb tys_ok (Bh n) mixed (hint:=xd n) (n:=n) Tryz.func43 (Aa (Tw n)) (la (φ:=fun y=>some (Uh y)) (by kernel_rfl) (qE n σ.1.1 _) h)
def rh (n:Nat):List Entry:=⟨43,Sf,none,some (csT Yl Xl (fun σ ρ=>Ib n σ.1.1) Uh)⟩::dc n
theorem Ji (n:Nat):AllOk Tryz.prog gl (rh n):=.cons (ZB n) (Bh n)
def Hi (n:Nat) {R:Type} (a:T0) (k:T0→Option R):Option R:=(lb n a.2.2.2.2.2.2.2.2.1).bind fun v=>(Ib n a.2.2.2.2.2.2.2.2.2.1).bind fun v1=>k (a.1,(a.2.1,(a.2.2.1,(a.2.2.2.1,(a.2.2.2.2.1,(a.2.2.2.2.2.1,(a.2.2.2.2.2.2.1,(a.2.2.2.2.2.2.2.1,(v.1,(v1.1,a.2.2.2.2.2.2.2.2.2.2))))))))))
def Mg (n:Nat) (a:T0):Option T0:=Hi n a some
theorem QQ (n:Nat) {S:Type}:∀ a (φ:_→Option S),(Mg n a).bind φ=Hi n a φ:=by
  intros;unfold Mg Hi;first | (simp only [ja,aa,iB,bB,oL,oX,nB,Option.bind_some]) | rfl
def Yp (n:Nat):Hint Out:={ live:=fun c=>[],run:=fun c=>none,xm:=fun c q=>none }
theorem FH (n:Nat):qa tys (ia Out (rh n)) (Yp n) n (fa Tryz.f23) 0:=ma (fun _=>rfl) _ _ (by kernel_rfl)
theorem OK (n:Nat):Enters Tryz.prog 23:=enters_of (c:=fa Tryz.f23) Tryz.func23 (by kernel_rfl) (by kernel_rfl)
def Dw (n:Nat):Entry:=⟨23,pcT K1 (.one K0) (fun xs=>Mg n xs.1),none,none⟩
theorem PN (n:Nat):EntryOk Tryz.prog gl (Dw n):=za (OK n) fun xs y h=>na tys_ok (Ji n) mixed (hint:=Yp n) (n:=n) Tryz.func23 (Aa (FH n)) (la (φ:=(fun y=>some (Out.ret (qb (.one K0) y)))) (by kernel_rfl) (QQ n xs.1 _) h)
def Gl (n:Nat):List Entry:=Dw n::rh n
theorem qo (n:Nat):AllOk Tryz.prog gl (Gl n):=.cons (PN n) (Ji n)
def lw (n:Nat) {R:Type} (i n0:Int) (k:Int→Option R):Option R:=if (IntKind.wrap .u64 n0)=0 then none else k (IntKind.wrap .i64 (Int.tmod (IntKind.wrap .u64 i) (IntKind.wrap .u64 n0)))
def xu (n:Nat) (i n0:Int):Option Int:=lw n i n0 some
theorem m8 (n:Nat) {S:Type}:∀ i n0 (φ:_→Option S),(xu n i n0).bind φ=lw n i n0 φ:=by
  intros;unfold xu lw;first | (simp only [ja,aa,iB,bB,oL,oX,nB,Option.bind_some]) | rfl
def RD (n:Nat):Hint Out:={ live:=fun c=>[],run:=fun c=>none,xm:=fun c q=>none }
theorem NU (n:Nat):qa tys (ia Out (Gl n)) (RD n) n (fa Tryz.f44) 0:=ma (fun _=>rfl) _ _ (by kernel_rfl)
theorem zY (n:Nat):Enters Tryz.prog 44:=enters_of (c:=fa Tryz.f44) Tryz.func44 (by kernel_rfl) (by kernel_rfl)
def sN (n:Nat):Entry:=⟨44,pcT (.pair (.int .i64) (.pair (.int .i64) .unit)) (.one (.int .i64)) (fun xs=>xu n xs.1 xs.2.1),none,none⟩
theorem I4 (n:Nat):EntryOk Tryz.prog gl (sN n):=za (zY n) fun xs y h=>na tys_ok (qo n) mixed (hint:=RD n) (n:=n) Tryz.func44 (Aa (NU n)) (la (φ:=(fun y=>some (Out.ret (qb (.one (.int .i64)) y)))) (by kernel_rfl) (m8 n xs.1 xs.2.1 _) h)
def vl (n:Nat):List Entry:=sN n::Gl n
theorem EA (n:Nat):AllOk Tryz.prog gl (vl n):=.cons (I4 n) (qo n)
def Cj (n:Nat) {R:Type} (s1:BA) (low1 i:Int) (kn:BA→Int→Int→Option R) (ko:(Unit)→Option R) (kr:(Bool)→Option R) (kp:Int→Option R):Option R:=if (decide (i<(s1.size:Int)))=true then if 0≤i∧i<(s1.size:Int) then if (decide ((bt s1 i)<low1))=false then if 0≤i∧i<(s1.size:Int) then if (decide ((bt s1 i)>(126:Int)))=true then kr false else kn s1 low1 (IntKind.wrap .i64 (i+(1:Int))) else none else kr false else none else ko ()
def cd (n:Nat):Nat→BA→Int→Int→Option (Lx (Unit) (Bool))
 | 0,_,_,_=>none
 | m+1,s1,low1,i=>Cj n s1 low1 i (cd n m) (fun a=>some (.out a)) (fun a=>some (.ret a)) (fun p=>some (.pan p))
theorem tX (n m:Nat) {S:Type}:∀ s1 low1 i (φ:_→Option S),(cd n (m+1) s1 low1 i).bind φ=Cj n s1 low1 i (fun s1 low1 i=>(cd n m s1 low1 i).bind φ) (fun a=>φ (.out a)) (fun a=>φ (.ret a)) (fun p=>φ (.pan p)):=by
  intros;first | (simp only [cd,Cj,ja,aa,iB,bB,oL,oX,nB,Option.bind_some]) | rfl
def Lr:List Sl:=.dat .str::.dat (.int .u8)::.top::.top::.top::.dat (.int .i64)::tp 17 []
def Kr:List RS:=[]
def QH:List Sl:=tp 23 []
def PH:List RS:=[]
def SH:List Sl:=tp 4 (.dat .bool::tp 18 [])
def RH:List RS:=[]
def Xe (K:XE→List AV→oa→Option Out):Lx (Unit) (Bool)→Option Out:=fun x=>onL x (fun a=>tc QH PH () () (K (.exit 0))) (fun a=>tc SH RH (a,()) () (K .ret)) (fun _=>none)
def kB (n:Nat) {R:Type} (s:BA) (low:Int) (k:Bool→Option R):Option R:=(cd n n s low (0:Int)).bind fun x_1=>onL x_1 (fun a_2=>k true) (fun a_3=>k a_3) (fun _=>none)
def jB (n:Nat) (s:BA) (low:Int):Option Bool:=kB n s low some
theorem tbb (n:Nat) {S:Type}:∀ s low (φ:_→Option S),(jB n s low).bind φ=kB n s low φ:=by
  intros;unfold jB kB;first | (simp only [ja,aa,iB,bB,oL,oX,nB,Option.bind_some]) | rfl
def Om (n:Nat):Hint Out:={ live:=fun c=>(cond (Nat.beq c 0) (lv [0,1,5]) []),run:=fun c=>(cond (Nat.beq c 0) (some (Zg Lr Kr fun σ ρ K=>(cd n n σ.1 σ.2.1 σ.2.2.1).bind (Xe K))) none),xm:=fun c q=>(cond (Nat.beq c 0&&Nat.beq (q.getD 1000000) 0&&q.isSome) (some []) (cond (Nat.beq c 1&&q.isNone) (some [(4,none)]) none)) }
def Nm (n:Nat) (K:XE→List AV→oa→Option Out) (m:Nat) (s1:BA) (low1:Int) (i:Int):Option Out:=Nc tys (ia Out (vl n)) (Om n) n (wa [1,0,1,0,0] (fa Tryz.f134)) 0 Lr Kr K m (s1,(low1,(i,()))) ()
theorem OH (n:Nat) (K:XE→List AV→oa→Option Out):∀ (m:Nat) s1 low1 i,Nm n K m s1 low1 i=(cd n m s1 low1 i).bind (Xe K)
  | 0,_,_,_=>by kernel_rfl
  | m+1,s1,low1,i=>by
    have h1:Nm n K (m+1) s1 low1 i=Cj n s1 low1 i (Nm n K m) (fun a=>Xe K (.out a)) (fun a=>Xe K (.ret a)) (fun p=>Xe K (.pan p)):=by kernel_rfl
    have h2:Nm n K m=fun s1 low1 i=>(cd n m s1 low1 i).bind (Xe K):=by
      repeat (refine funext fun _=>?_)
      exact OH n K m _ _ _
    rw [h1,h2];exact (tX n m _ _ _ (Xe K)).symm
theorem aU (n:Nat):Bc tys (ia Out (vl n)) (Om n) n (wa [1,0,1,0,0] (fa Tryz.f134)) 0:=Ea (sp:=Lr) (rp:=Kr) (by kernel_rfl) fun K σ ρ=>OH n K n σ.1 σ.2.1 σ.2.2.1
theorem uX (n:Nat):qa tys (ia Out (vl n)) (Om n) n (fa Tryz.f134) 0:=⟨trivial,⟨⟨trivial,⟨aU n,⟨⟨trivial,⟨trivial,trivial⟩⟩,⟨⟨trivial,⟨⟨trivial,trivial⟩,trivial⟩⟩,trivial⟩⟩⟩⟩,⟨trivial,trivial⟩⟩⟩
theorem B1 (n:Nat):Enters Tryz.prog 134:=enters_of (c:=fa Tryz.f134) Tryz.func134 (by kernel_rfl) (by kernel_rfl)
def YQ (n:Nat):Entry:=⟨134,pcT (.pair .str (.pair (.int .u8) .unit)) (.one .bool) (fun xs=>jB n xs.1 xs.2.1),none,none⟩
theorem N6 (n:Nat):EntryOk Tryz.prog gl (YQ n):=za (B1 n) fun xs y h=>na tys_ok (EA n) mixed (hint:=Om n) (n:=n) Tryz.func134 (Aa (uX n)) (la (φ:=(fun y=>some (Out.ret (qb (.one .bool) y)))) (by kernel_rfl) (tbb n xs.1 xs.2.1 _) h)
def zo (n:Nat):List Entry:=YQ n::vl n
theorem dD (n:Nat):AllOk Tryz.prog gl (zo n):=.cons (N6 n) (EA n)
def Lj (n:Nat) {R:Type} (l:(Sq BA)) (i:Int) (kn:(Sq BA)→Int→Option R) (ko:(Unit)→Option R) (kr:(Bool)→Option R) (kp:Int→Option R):Option R:=if (decide (i<(l.n:Int)))=true then if 0≤i∧i<(l.n:Int) then if ((l.at' (Int.toNat i)).toList==(⟨#[]⟩:BA).toList)=false then if 0≤i∧i<(l.n:Int) then (jB n (l.at' (Int.toNat i)) (33:Int)).bind fun v1=>if (!v1)=true then kr false else kn l (IntKind.wrap .i64 (i+(1:Int))) else none else kr false else none else ko ()
def vd (n:Nat):Nat→(Sq BA)→Int→Option (Lx (Unit) (Bool))
 | 0,_,_=>none
 | m+1,l,i=>Lj n l i (vd n m) (fun a=>some (.out a)) (fun a=>some (.ret a)) (fun p=>some (.pan p))
theorem aY (n m:Nat) {S:Type}:∀ l i (φ:_→Option S),(vd n (m+1) l i).bind φ=Lj n l i (fun l i=>(vd n m l i).bind φ) (fun a=>φ (.out a)) (fun a=>φ (.ret a)) (fun p=>φ (.pan p)):=by
  intros;first | (simp only [vd,Lj,ja,aa,iB,bB,oL,oX,nB,Option.bind_some]) | rfl
def Fs:List Sl:=.top::.top::.top::.dat (.sl .str)::.dat (.int .i64)::tp 24 []
def Es:List RS:=[]
def kJ:List Sl:=tp 29 []
def jJ:List RS:=[]
def mJ:List Sl:=.top::.top::.dat .bool::tp 26 []
def lJ:List RS:=[]
def gf (K:XE→List AV→oa→Option Out):Lx (Unit) (Bool)→Option Out:=fun x=>onL x (fun a=>tc kJ jJ () () (K (.exit 0))) (fun a=>tc mJ lJ (a,()) () (K .ret)) (fun _=>none)
def BB (n:Nat) {R:Type} (s:BA) (k:Bool→Option R):Option R:=if (decide ((s.size:Int)>(64:Int)))=true then k false else (Pm n s (32:Int)).bind fun v=>(vd n n v (0:Int)).bind fun x_1=>onL x_1 (fun a_2=>k true) (fun a_3=>k a_3) (fun _=>none)
def Rv (n:Nat) (s:BA):Option Bool:=BB n s some
theorem Kbb (n:Nat) {S:Type}:∀ s (φ:_→Option S),(Rv n s).bind φ=BB n s φ:=by
  intros;unfold Rv BB;first | (simp only [ja,aa,iB,bB,oL,oX,nB,Option.bind_some]) | rfl
def tn (n:Nat):Hint Out:={ live:=fun c=>(cond (Nat.beq c 0) [(3,some (.sl .str)),(4,none)] []),run:=fun c=>(cond (Nat.beq c 0) (some (Zg Fs Es fun σ ρ K=>(vd n n σ.1 σ.2.1).bind (gf K))) none),xm:=fun c q=>(cond (Nat.beq c 0&&Nat.beq (q.getD 1000000) 0&&q.isSome) (some []) (cond (Nat.beq c 1&&q.isNone) (some [(2,none)]) none)) }
def sn (n:Nat) (K:XE→List AV→oa→Option Out) (m:Nat) (l:(Sq BA)) (i:Int):Option Out:=Nc tys (ia Out (zo n)) (tn n) n (wa [1,1,1,0,1,0,0] (fa Tryz.f101)) 0 Fs Es K m (l,(i,())) ()
theorem iJ (n:Nat) (K:XE→List AV→oa→Option Out):∀ (m:Nat) l i,sn n K m l i=(vd n m l i).bind (gf K)
  | 0,_,_=>by kernel_rfl
  | m+1,l,i=>by
    have h1:sn n K (m+1) l i=Lj n l i (sn n K m) (fun a=>gf K (.out a)) (fun a=>gf K (.ret a)) (fun p=>gf K (.pan p)):=by kernel_rfl
    have h2:sn n K m=fun l i=>(vd n m l i).bind (gf K):=by
      repeat (refine funext fun _=>?_)
      exact iJ n K m _ _
    rw [h1,h2];exact (aY n m _ _ (gf K)).symm
theorem BU (n:Nat):Bc tys (ia Out (zo n)) (tn n) n (wa [1,1,1,0,1,0,0] (fa Tryz.f101)) 0:=Ea (sp:=Fs) (rp:=Es) (by kernel_rfl) fun K σ ρ=>iJ n K n σ.1 σ.2.1
theorem bY (n:Nat):qa tys (ia Out (zo n)) (tn n) n (fa Tryz.f101) 0:=⟨trivial,⟨⟨trivial,⟨⟨trivial,trivial⟩,trivial⟩⟩,⟨trivial,⟨⟨trivial,⟨BU n,⟨⟨trivial,⟨trivial,trivial⟩⟩,⟨⟨trivial,⟨⟨trivial,trivial⟩,trivial⟩⟩,trivial⟩⟩⟩⟩,⟨trivial,trivial⟩⟩⟩⟩⟩
theorem S2 (n:Nat):Enters Tryz.prog 101:=enters_of (c:=fa Tryz.f101) Tryz.func101 (by kernel_rfl) (by kernel_rfl)
def QR (n:Nat):Entry:=⟨101,pcT (.pair .str .unit) (.one .bool) (fun xs=>Rv n xs.1),none,none⟩
theorem z7 (n:Nat):EntryOk Tryz.prog gl (QR n):=za (S2 n) fun xs y h=>na tys_ok (dD n) mixed (hint:=tn n) (n:=n) Tryz.func101 (Aa (bY n)) (la (φ:=(fun y=>some (Out.ret (qb (.one .bool) y)))) (by kernel_rfl) (Kbb n xs.1 _) h)
def QF (n:Nat):List Entry:=QR n::zo n
theorem GD (n:Nat):AllOk Tryz.prog gl (QF n):=.cons (z7 n) (dD n)
def HI (n:Nat) {R:Type} (v:T1) (k:Bool→Option R):Option R:=if (v.1==(1:Int))=true then if ((v.1==v.1)&&((v.2.1.toList==v.2.1.toList)&&((v.2.2.1==false)&&(((v.2.2.2.1.1.toList==(⟨#[]⟩:BA).toList)&&((v.2.2.2.1.2.1.toList==(⟨#[]⟩:BA).toList)&&true))&&((v.2.2.2.2.1==(0:Int))&&true)))))=true then (Qi n v.2.1).bind fun v1=>k v1 else k false else if (v.1==(2:Int))=true then if ((v.1==v.1)&&((v.2.1.toList==v.2.1.toList)&&((v.2.2.1==false)&&(((v.2.2.2.1.1.toList==(⟨#[]⟩:BA).toList)&&((v.2.2.2.1.2.1.toList==(⟨#[]⟩:BA).toList)&&true))&&((v.2.2.2.2.1==(0:Int))&&true)))))=true then (Qi n v.2.1).bind fun v2=>k v2 else k false else if (v.1==(3:Int))=true then UP (UP (if v.2.2.1=true then if ((v.2.2.2.1.1.toList==(⟨#[]⟩:BA).toList)&&((v.2.2.2.1.2.1.toList==(⟨#[]⟩:BA).toList)&&true))=false then if (!v.2.2.1)=true then (ne n (v.2.2.2.1.1,(v.2.2.2.1.2.1,()))).bind fun v3=>if ((v.1==v.1)&&((v.2.1.toList==(⟨#[]⟩:BA).toList)&&((v.2.2.1==v.2.2.1)&&(((v.2.2.2.1.1.toList==v.2.2.2.1.1.toList)&&((v.2.2.2.1.2.1.toList==v.2.2.2.1.2.1.toList)&&true))&&((v.2.2.2.2.1==v.2.2.2.2.1)&&true)))))=true then if v3=true then if (decide (v.2.2.2.2.1≥(-1:Int)))=true then k (decide (v.2.2.2.2.1≤(1073741824:Int))) else k false else k false else k false
 else if ((v.1==v.1)&&((v.2.1.toList==(⟨#[]⟩:BA).toList)&&((v.2.2.1==v.2.2.1)&&(((v.2.2.2.1.1.toList==v.2.2.2.1.1.toList)&&((v.2.2.2.1.2.1.toList==v.2.2.2.1.2.1.toList)&&true))&&((v.2.2.2.2.1==v.2.2.2.2.1)&&true)))))=true then k false else k false else if ((v.1==v.1)&&((v.2.1.toList==(⟨#[]⟩:BA).toList)&&((v.2.2.1==v.2.2.1)&&(((v.2.2.2.1.1.toList==v.2.2.2.1.1.toList)&&((v.2.2.2.1.2.1.toList==v.2.2.2.1.2.1.toList)&&true))&&((v.2.2.2.2.1==v.2.2.2.2.1)&&true)))))=true then if (decide (v.2.2.2.2.1≥(-1:Int)))=true then k (decide (v.2.2.2.2.1≤(1073741824:Int))) else k false else k false else if (!v.2.2.1)=true then (ne n (v.2.2.2.1.1,(v.2.2.2.1.2.1,()))).bind fun v4=>if ((v.1==v.1)&&((v.2.1.toList==(⟨#[]⟩:BA).toList)&&((v.2.2.1==v.2.2.1)&&(((v.2.2.2.1.1.toList==v.2.2.2.1.1.toList)&&((v.2.2.2.1.2.1.toList==v.2.2.2.1.2.1.toList)&&true))&&((v.2.2.2.2.1==v.2.2.2.2.1)&&true)))))=true then if v4=true then if (decide (v.2.2.2.2.1≥(-1:Int)))=true then k (decide (v.2.2.2.2.1≤(1073741824:Int))) else k false else k false else k false else if ((v.1==v.1)&&((v.2.1.toList==(⟨#[]⟩:BA).toList)&&((v.2.2.1==v.2.2.1)&&(((v.2.2.2.1.1.toList==v.2.2.2.1.1.toList)&&((v.2.2.2.1.2.1.toList==v.2.2.2.1.2.1.toList)&&true))&&((v.2.2.2.2.1==v.2.2.2.2.1)&&true)))))=true then k false else k false) (dup 1 (if v.2.2.1=true then if ((v.2.2.2.1.1.toList==(⟨#[]⟩:BA).toList)&&((v.2.2.2.1.2.1.toList==(⟨#[]⟩:BA).toList)&&true))=false then
 if (!v.2.2.1)=true then (ne n (v.2.2.2.1.1,(v.2.2.2.1.2.1,()))).bind fun v5=>if ((v.1==v.1)&&((v.2.1.toList==(⟨#[]⟩:BA).toList)&&((v.2.2.1==v.2.2.1)&&(((v.2.2.2.1.1.toList==v.2.2.2.1.1.toList)&&((v.2.2.2.1.2.1.toList==v.2.2.2.1.2.1.toList)&&true))&&((v.2.2.2.2.1==v.2.2.2.2.1)&&true)))))=true then if v5=true then if (decide (v.2.2.2.2.1≥(-1:Int)))=true then k (decide (v.2.2.2.2.1≤(1073741824:Int))) else k false else k false else k false else if ((v.1==v.1)&&((v.2.1.toList==(⟨#[]⟩:BA).toList)&&((v.2.2.1==v.2.2.1)&&(((v.2.2.2.1.1.toList==v.2.2.2.1.1.toList)&&((v.2.2.2.1.2.1.toList==v.2.2.2.1.2.1.toList)&&true))&&((v.2.2.2.2.1==v.2.2.2.2.1)&&true)))))=true then k false else k false else if ((v.1==v.1)&&((v.2.1.toList==(⟨#[]⟩:BA).toList)&&((v.2.2.1==v.2.2.1)&&(((v.2.2.2.1.1.toList==v.2.2.2.1.1.toList)&&((v.2.2.2.1.2.1.toList==v.2.2.2.1.2.1.toList)&&true))&&((v.2.2.2.2.1==v.2.2.2.2.1)&&true)))))=true then if (decide (v.2.2.2.2.1≥(-1:Int)))=true then k (decide (v.2.2.2.2.1≤(1073741824:Int))) else k false else k false else if (!v.2.2.1)=true then (ne n (v.2.2.2.1.1,(v.2.2.2.1.2.1,()))).bind fun v6=>if ((v.1==v.1)&&((v.2.1.toList==(⟨#[]⟩:BA).toList)&&((v.2.2.1==v.2.2.1)&&(((v.2.2.2.1.1.toList==v.2.2.2.1.1.toList)&&((v.2.2.2.1.2.1.toList==v.2.2.2.1.2.1.toList)&&true))&&((v.2.2.2.2.1==v.2.2.2.2.1)&&true)))))=true then
 if v6=true then if (decide (v.2.2.2.2.1≥(-1:Int)))=true then k (decide (v.2.2.2.2.1≤(1073741824:Int))) else k false else k false else k false else if ((v.1==v.1)&&((v.2.1.toList==(⟨#[]⟩:BA).toList)&&((v.2.2.1==v.2.2.1)&&(((v.2.2.2.1.1.toList==v.2.2.2.1.1.toList)&&((v.2.2.2.1.2.1.toList==v.2.2.2.1.2.1.toList)&&true))&&((v.2.2.2.2.1==v.2.2.2.2.1)&&true)))))=true then k false else k false))) (UP (dup 1 (if v.2.2.1=true then if ((v.2.2.2.1.1.toList==(⟨#[]⟩:BA).toList)&&((v.2.2.2.1.2.1.toList==(⟨#[]⟩:BA).toList)&&true))=false then if (!v.2.2.1)=true then (ne n (v.2.2.2.1.1,(v.2.2.2.1.2.1,()))).bind fun v9=>if ((v.1==v.1)&&((v.2.1.toList==(⟨#[]⟩:BA).toList)&&((v.2.2.1==v.2.2.1)&&(((v.2.2.2.1.1.toList==v.2.2.2.1.1.toList)&&((v.2.2.2.1.2.1.toList==v.2.2.2.1.2.1.toList)&&true))&&((v.2.2.2.2.1==v.2.2.2.2.1)&&true)))))=true then if v9=true then if (decide (v.2.2.2.2.1≥(-1:Int)))=true then k (decide (v.2.2.2.2.1≤(1073741824:Int))) else k false else k false else k false else if ((v.1==v.1)&&((v.2.1.toList==(⟨#[]⟩:BA).toList)&&((v.2.2.1==v.2.2.1)&&(((v.2.2.2.1.1.toList==v.2.2.2.1.1.toList)&&((v.2.2.2.1.2.1.toList==v.2.2.2.1.2.1.toList)&&true))&&((v.2.2.2.2.1==v.2.2.2.2.1)&&true)))))=true then k false else k false else if ((v.1==v.1)&&((v.2.1.toList==(⟨#[]⟩:BA).toList)&&((v.2.2.1==v.2.2.1)&&(((v.2.2.2.1.1.toList==v.2.2.2.1.1.toList)&&((v.2.2.2.1.2.1.toList==v.2.2.2.1.2.1.toList)&&true))&&((v.2.2.2.2.1==v.2.2.2.2.1)&&true)))))=true then
 if (decide (v.2.2.2.2.1≥(-1:Int)))=true then k (decide (v.2.2.2.2.1≤(1073741824:Int))) else k false else k false else if (!v.2.2.1)=true then (ne n (v.2.2.2.1.1,(v.2.2.2.1.2.1,()))).bind fun v10=>if ((v.1==v.1)&&((v.2.1.toList==(⟨#[]⟩:BA).toList)&&((v.2.2.1==v.2.2.1)&&(((v.2.2.2.1.1.toList==v.2.2.2.1.1.toList)&&((v.2.2.2.1.2.1.toList==v.2.2.2.1.2.1.toList)&&true))&&((v.2.2.2.2.1==v.2.2.2.2.1)&&true)))))=true then if v10=true then if (decide (v.2.2.2.2.1≥(-1:Int)))=true then k (decide (v.2.2.2.2.1≤(1073741824:Int))) else k false else k false else k false else if ((v.1==v.1)&&((v.2.1.toList==(⟨#[]⟩:BA).toList)&&((v.2.2.1==v.2.2.1)&&(((v.2.2.2.1.1.toList==v.2.2.2.1.1.toList)&&((v.2.2.2.1.2.1.toList==v.2.2.2.1.2.1.toList)&&true))&&((v.2.2.2.2.1==v.2.2.2.2.1)&&true)))))=true then k false else k false)) (UP (dup 1 (if v.2.2.1=true then if ((v.2.2.2.1.1.toList==(⟨#[]⟩:BA).toList)&&((v.2.2.2.1.2.1.toList==(⟨#[]⟩:BA).toList)&&true))=false then if (!v.2.2.1)=true then (ne n (v.2.2.2.1.1,(v.2.2.2.1.2.1,()))).bind fun v13=>if ((v.1==v.1)&&((v.2.1.toList==(⟨#[]⟩:BA).toList)&&((v.2.2.1==v.2.2.1)&&(((v.2.2.2.1.1.toList==v.2.2.2.1.1.toList)&&((v.2.2.2.1.2.1.toList==v.2.2.2.1.2.1.toList)&&true))&&((v.2.2.2.2.1==v.2.2.2.2.1)&&true)))))=true then if v13=true then if (decide (v.2.2.2.2.1≥(-1:Int)))=true then
 k (decide (v.2.2.2.2.1≤(1073741824:Int))) else k false else k false else k false else if ((v.1==v.1)&&((v.2.1.toList==(⟨#[]⟩:BA).toList)&&((v.2.2.1==v.2.2.1)&&(((v.2.2.2.1.1.toList==v.2.2.2.1.1.toList)&&((v.2.2.2.1.2.1.toList==v.2.2.2.1.2.1.toList)&&true))&&((v.2.2.2.2.1==v.2.2.2.2.1)&&true)))))=true then k false else k false else if ((v.1==v.1)&&((v.2.1.toList==(⟨#[]⟩:BA).toList)&&((v.2.2.1==v.2.2.1)&&(((v.2.2.2.1.1.toList==v.2.2.2.1.1.toList)&&((v.2.2.2.1.2.1.toList==v.2.2.2.1.2.1.toList)&&true))&&((v.2.2.2.2.1==v.2.2.2.2.1)&&true)))))=true then if (decide (v.2.2.2.2.1≥(-1:Int)))=true then k (decide (v.2.2.2.2.1≤(1073741824:Int))) else k false else k false else if (!v.2.2.1)=true then (ne n (v.2.2.2.1.1,(v.2.2.2.1.2.1,()))).bind fun v14=>if ((v.1==v.1)&&((v.2.1.toList==(⟨#[]⟩:BA).toList)&&((v.2.2.1==v.2.2.1)&&(((v.2.2.2.1.1.toList==v.2.2.2.1.1.toList)&&((v.2.2.2.1.2.1.toList==v.2.2.2.1.2.1.toList)&&true))&&((v.2.2.2.2.1==v.2.2.2.2.1)&&true)))))=true then if v14=true then if (decide (v.2.2.2.2.1≥(-1:Int)))=true then k (decide (v.2.2.2.2.1≤(1073741824:Int))) else k false else k false else k false else if ((v.1==v.1)&&((v.2.1.toList==(⟨#[]⟩:BA).toList)&&((v.2.2.1==v.2.2.1)&&(((v.2.2.2.1.1.toList==v.2.2.2.1.1.toList)&&((v.2.2.2.1.2.1.toList==v.2.2.2.1.2.1.toList)&&true))&&((v.2.2.2.2.1==v.2.2.2.2.1)&&true)))))=true then
 k false else k false)) (if v.2.2.1=true then if ((v.2.2.2.1.1.toList==(⟨#[]⟩:BA).toList)&&((v.2.2.2.1.2.1.toList==(⟨#[]⟩:BA).toList)&&true))=false then if (!v.2.2.1)=true then (ne n (v.2.2.2.1.1,(v.2.2.2.1.2.1,()))).bind fun v17=>if ((v.1==v.1)&&((v.2.1.toList==(⟨#[]⟩:BA).toList)&&((v.2.2.1==v.2.2.1)&&(((v.2.2.2.1.1.toList==v.2.2.2.1.1.toList)&&((v.2.2.2.1.2.1.toList==v.2.2.2.1.2.1.toList)&&true))&&((v.2.2.2.2.1==v.2.2.2.2.1)&&true)))))=true then if v17=true then if (decide (v.2.2.2.2.1≥(-1:Int)))=true then k (decide (v.2.2.2.2.1≤(1073741824:Int))) else k false else k false else k false else if ((v.1==v.1)&&((v.2.1.toList==(⟨#[]⟩:BA).toList)&&((v.2.2.1==v.2.2.1)&&(((v.2.2.2.1.1.toList==v.2.2.2.1.1.toList)&&((v.2.2.2.1.2.1.toList==v.2.2.2.1.2.1.toList)&&true))&&((v.2.2.2.2.1==v.2.2.2.2.1)&&true)))))=true then k false else k false else if ((v.1==v.1)&&((v.2.1.toList==(⟨#[]⟩:BA).toList)&&((v.2.2.1==v.2.2.1)&&(((v.2.2.2.1.1.toList==v.2.2.2.1.1.toList)&&((v.2.2.2.1.2.1.toList==v.2.2.2.1.2.1.toList)&&true))&&((v.2.2.2.2.1==v.2.2.2.2.1)&&true)))))=true then if (decide (v.2.2.2.2.1≥(-1:Int)))=true then k (decide (v.2.2.2.2.1≤(1073741824:Int))) else k false else k false else if (!v.2.2.1)=true then (ne n (v.2.2.2.1.1,(v.2.2.2.1.2.1,()))).bind fun v18=>if ((v.1==v.1)&&((v.2.1.toList==(⟨#[]⟩:BA).toList)&&((v.2.2.1==v.2.2.1)&&(((v.2.2.2.1.1.toList==v.2.2.2.1.1.toList)&&((v.2.2.2.1.2.1.toList==v.2.2.2.1.2.1.toList)&&true))&&((v.2.2.2.2.1==v.2.2.2.2.1)&&true)))))=true then
 if v18=true then if (decide (v.2.2.2.2.1≥(-1:Int)))=true then k (decide (v.2.2.2.2.1≤(1073741824:Int))) else k false else k false else k false else if ((v.1==v.1)&&((v.2.1.toList==(⟨#[]⟩:BA).toList)&&((v.2.2.1==v.2.2.1)&&(((v.2.2.2.1.1.toList==v.2.2.2.1.1.toList)&&((v.2.2.2.1.2.1.toList==v.2.2.2.1.2.1.toList)&&true))&&((v.2.2.2.2.1==v.2.2.2.2.1)&&true)))))=true then k false else k false))) else if (v.1==(4:Int))=true then if ((v.1==v.1)&&((v.2.1.toList==(⟨#[]⟩:BA).toList)&&((v.2.2.1==false)&&(((v.2.2.2.1.1.toList==v.2.2.2.1.1.toList)&&((v.2.2.2.1.2.1.toList==v.2.2.2.1.2.1.toList)&&true))&&((v.2.2.2.2.1==(0:Int))&&true)))))=true then (ne n (v.2.2.2.1.1,(v.2.2.2.1.2.1,()))).bind fun v19=>k v19 else k false else if (v.1==(7:Int))=true then if ((v.1==v.1)&&((v.2.1.toList==v.2.1.toList)&&((v.2.2.1==false)&&(((v.2.2.2.1.1.toList==(⟨#[]⟩:BA).toList)&&((v.2.2.2.1.2.1.toList==(⟨#[]⟩:BA).toList)&&true))&&((v.2.2.2.2.1==(0:Int))&&true)))))=true then if (v.2.1.toList==(⟨#[]⟩:BA).toList)=false then (Rv n v.2.1).bind fun v20=>k v20 else k true else k false else if (v.1==(9:Int))=true then if ((v.1==v.1)&&((v.2.1.toList==v.2.1.toList)&&((v.2.2.1==false)&&(((v.2.2.2.1.1.toList==(⟨#[]⟩:BA).toList)&&((v.2.2.2.1.2.1.toList==(⟨#[]⟩:BA).toList)&&true))&&((v.2.2.2.2.1==(0:Int))&&true)))))=true then
 (Rv n v.2.1).bind fun v21=>k v21 else k false else if (v.1==(5:Int))=true then k ((v.1==v.1)&&((v.2.1.toList==(⟨#[]⟩:BA).toList)&&((v.2.2.1==false)&&(((v.2.2.2.1.1.toList==(⟨#[]⟩:BA).toList)&&((v.2.2.2.1.2.1.toList==(⟨#[]⟩:BA).toList)&&true))&&((v.2.2.2.2.1==(0:Int))&&true))))) else if (v.1==(6:Int))=true then k ((v.1==v.1)&&((v.2.1.toList==(⟨#[]⟩:BA).toList)&&((v.2.2.1==false)&&(((v.2.2.2.1.1.toList==(⟨#[]⟩:BA).toList)&&((v.2.2.2.1.2.1.toList==(⟨#[]⟩:BA).toList)&&true))&&((v.2.2.2.2.1==(0:Int))&&true))))) else if (v.1==(8:Int))=true then k ((v.1==v.1)&&((v.2.1.toList==(⟨#[]⟩:BA).toList)&&((v.2.2.1==false)&&(((v.2.2.2.1.1.toList==(⟨#[]⟩:BA).toList)&&((v.2.2.2.1.2.1.toList==(⟨#[]⟩:BA).toList)&&true))&&((v.2.2.2.2.1==(0:Int))&&true))))) else k false
def NF (n:Nat) (v:T1):Option Bool:=HI n v some
theorem reb (n:Nat) {S:Type}:∀ v (φ:_→Option S),(NF n v).bind φ=HI n v φ:=by
  intros;unfold NF HI;first | (simp only [ja,aa,iB,bB,oL,oX,nB,Option.bind_some]) | rfl
def aN (n:Nat):Hint Out:={ live:=fun c=>[],run:=fun c=>none,xm:=fun c q=>none,sch:=fun c=>(cond (Nat.beq c 8) (some [(0,0),(2,0),(4,0),(1,1),(6,0),(7,5),(3,7),(5,7),(8,6),(9,2),(10,6),(11,2)]) none) }
theorem C2 (n:Nat):qa tys (ia Out (QF n)) (aN n) n (fa Tryz.f73) 0:=ma (fun _=>rfl) _ _ (by kernel_rfl)
theorem l7 (n:Nat):Enters Tryz.prog 73:=enters_of (c:=fa Tryz.f73) Tryz.func73 (by kernel_rfl) (by kernel_rfl)
def CV (n:Nat):Entry:=⟨73,pcT K11 (.one .bool) (fun xs=>NF n xs.1),none,none⟩
theorem Ebb (n:Nat):EntryOk Tryz.prog gl (CV n):=za (l7 n) fun xs y h=>na tys_ok (GD n) mixed (hint:=aN n) (n:=n) Tryz.func73 (Aa (C2 n)) (la (φ:=(fun y=>some (Out.ret (qb (.one .bool) y)))) (by kernel_rfl) (reb n xs.1 _) h)
def vB (n:Nat):List Entry:=CV n::QF n
theorem Iv (n:Nat):AllOk Tryz.prog gl (vB n):=.cons (Ebb n) (GD n)
def Kf (n:Nat) {R:Type} (a:T0) (k:U2→Option R):Option R:=(lb n a.2.2.2.2.2.2.2.2.1).bind fun v=>(Ib n a.2.2.2.2.2.2.2.2.2.1).bind fun v1=>k (a.1,(a.2.1,(a.2.2.1,(a.2.2.2.1.1,(a.2.2.2.1.2.1,(a.2.2.2.2.1,(a.2.2.2.2.2.1,(a.2.2.2.2.2.2.1,(a.2.2.2.2.2.2.2.1.1,(a.2.2.2.2.2.2.2.1.2.1,(a.2.2.2.2.2.2.2.2.2.2.1,(a.2.2.2.2.2.2.2.2.2.2.2.1,(v.1,(v1.1,()))))))))))))))
def zb (n:Nat) (a:T0):Option U2:=Kf n a some
theorem GH (n:Nat) {S:Type}:∀ a (φ:_→Option S),(zb n a).bind φ=Kf n a φ:=by
  intros;unfold zb Kf;first | (simp only [ja,aa,iB,bB,oL,oX,nB,Option.bind_some]) | rfl
def bl (n:Nat):Hint OutS:={ live:=fun c=>[],run:=fun c=>none,xm:=fun c q=>none,pr:=[(0,10,25),(0,11,9)] }
theorem Yy (n:Nat):qa tys (ia OutS (vB n)).keep (bl n) n (fa Tryz.f23) 0:=ma (fun _=>rfl) _ _ (by kernel_rfl)
theorem WB (n:Nat):Enters Tryz.prog 23:=enters_of (c:=fa Tryz.f23) Tryz.func23 (by kernel_rfl) (by kernel_rfl)
def uo:List RSp:=[.one (.dat K0)]
def ro:List RS:=[]
def XB:List Sl:=[.top]
def YB:List RSp:=[.agg [.dat (.int .i64),.dat (.int .i64),.dat (.int .i64),.dat .str,.dat .bool,.dat (.int .i64),.dat .str,.dat .bool,.dat .str,.dat .str,.row 0,.row 1,.dat (.int .i64),.dat .bool]]
def Zd:List RS:=[.row 25 2 (.pair .str (.pair .str .unit)) true false,.row 9 1 .str true false]
def Ii (y:U2):OutS:=⟨false,bo (Sc Zd (y.2.2.2.2.2.2.2.2.2.2.2.2.1,(y.2.2.2.2.2.2.2.2.2.2.2.2.2.1,()))) XB (),fG (WC (Sc Zd (y.2.2.2.2.2.2.2.2.2.2.2.2.1,(y.2.2.2.2.2.2.2.2.2.2.2.2.2.1,()))) YB ((y.1,(y.2.1,(y.2.2.1,(y.2.2.2.1,(y.2.2.2.2.1,(y.2.2.2.2.2.1,(y.2.2.2.2.2.2.1,(y.2.2.2.2.2.2.2.1,(y.2.2.2.2.2.2.2.2.1,(y.2.2.2.2.2.2.2.2.2.1,(y.2.2.2.2.2.2.2.2.2.2.1,(y.2.2.2.2.2.2.2.2.2.2.2.1,())))))))))))),())),Fu (Sc Zd (y.2.2.2.2.2.2.2.2.2.2.2.2.1,(y.2.2.2.2.2.2.2.2.2.2.2.2.2.1,()))) Zd (y.2.2.2.2.2.2.2.2.2.2.2.2.1,(y.2.2.2.2.2.2.2.2.2.2.2.2.2.1,()))⟩
theorem pE (n:Nat):EntryOk Tryz.prog gl ⟨23,Sf,none,some (csT uo ro (fun σ ρ=>zb n σ.1.1) Ii)⟩:=Be (WB n) fun σ ρ y h=>Vf tys_ok (Iv n) mixed (hint:=bl n) (n:=n) Tryz.func23 (Aa (Yy n)) (la (φ:=fun y=>some (Ii y)) (by kernel_rfl) (GH n σ.1.1 _) h)
def Th (n:Nat):List Entry:=⟨23,Sf,none,some (csT uo ro (fun σ ρ=>zb n σ.1.1) Ii)⟩::vB n
theorem qj (n:Nat):AllOk Tryz.prog gl (Th n):=.cons (pE n) (Iv n)
def gP (n:Nat) {R:Type} (c:T0) (v:T1) (k:(T0×Int×Unit)→Option R):Option R:=(NF n v).bind fun v1=>if (!v1)=false then if (v.1 !=(3:Int))=true then if (v.1 !=(4:Int))=true then k (c,((1:Int),())) else (zb n c).bind fun v2=>if (v.1==(3:Int))=true then if (c.2.2.2.2.1 !=(1:Int))=true then k (c,((6:Int),())) else UP (UP (k ((v2.1,(v2.2.1,(v2.2.2.1,((v2.2.2.2.1,(v2.2.2.2.2.1,())),((2:Int),(v2.2.2.2.2.2.2.1,(v.2.2.1,(v.2.2.2.1,(v2.2.2.2.2.2.2.2.2.2.2.2.2.1,(v2.2.2.2.2.2.2.2.2.2.2.2.2.2.1,(v2.2.2.2.2.2.2.2.2.2.2.1,(v2.2.2.2.2.2.2.2.2.2.2.2.1,())))))))))))),((0:Int),()))) (dup 1 (k ((v2.1,(v2.2.1,(v2.2.2.1,((v2.2.2.2.1,(v2.2.2.2.2.1,())),((2:Int),(v2.2.2.2.2.2.2.1,(v.2.2.1,(v.2.2.2.1,(v2.2.2.2.2.2.2.2.2.2.2.2.2.1,(v2.2.2.2.2.2.2.2.2.2.2.2.2.2.1,(v2.2.2.2.2.2.2.2.2.2.2.1,(v2.2.2.2.2.2.2.2.2.2.2.2.1,())))))))))))),((0:Int),()))))) (UP (dup 1 (k ((v2.1,(v2.2.1,(v2.2.2.1,((v2.2.2.2.1,(v2.2.2.2.2.1,())),((2:Int),(v2.2.2.2.2.2.2.1,(v.2.2.1,(v.2.2.2.1,(v2.2.2.2.2.2.2.2.2.2.2.2.2.1,(v2.2.2.2.2.2.2.2.2.2.2.2.2.2.1,(v2.2.2.2.2.2.2.2.2.2.2.1,(v2.2.2.2.2.2.2.2.2.2.2.2.1,())))))))))))),((0:Int),())))) (UP (dup 1 (k ((v2.1,(v2.2.1,(v2.2.2.1,((v2.2.2.2.1,(v2.2.2.2.2.1,())),((2:Int),(v2.2.2.2.2.2.2.1,(v.2.2.1,(v.2.2.2.1,(v2.2.2.2.2.2.2.2.2.2.2.2.2.1,(v2.2.2.2.2.2.2.2.2.2.2.2.2.2.1,(v2.2.2.2.2.2.2.2.2.2.2.1,(v2.2.2.2.2.2.2.2.2.2.2.2.1,())))))))))))),((0:Int),())))) (
 k ((v2.1,(v2.2.1,(v2.2.2.1,((v2.2.2.2.1,(v2.2.2.2.2.1,())),((2:Int),(v2.2.2.2.2.2.2.1,(v.2.2.1,(v.2.2.2.1,(v2.2.2.2.2.2.2.2.2.2.2.2.2.1,(v2.2.2.2.2.2.2.2.2.2.2.2.2.2.1,(v2.2.2.2.2.2.2.2.2.2.2.1,(v2.2.2.2.2.2.2.2.2.2.2.2.1,())))))))))))),((0:Int),()))))) else if (c.2.2.2.2.1 !=(2:Int))=true then if (c.2.2.2.2.1 !=(3:Int))=true then k (c,((6:Int),())) else (Bd n c.2.2.2.2.2.2.2.2.1 v.2.2.2.1).bind fun v3=>if (decide (v3≥(0:Int)))=true then k (c,((4:Int),())) else if (decide ((c.2.2.2.2.2.2.2.2.1.n:Int)≥(8:Int)))=true then k (c,((5:Int),())) else if wb (v2.2.2.2.2.2.2.2.2.2.2.2.2.1.n+1) 32=true then k ((v2.1,(v2.2.1,(v2.2.2.1,((v2.2.2.2.1,(v2.2.2.2.2.1,())),((3:Int),(v2.2.2.2.2.2.2.1,(v2.2.2.2.2.2.2.2.1,((v2.2.2.2.2.2.2.2.2.1,(v2.2.2.2.2.2.2.2.2.2.1,())),((⟨(v2.2.2.2.2.2.2.2.2.2.2.2.2.1.n+1),fun q=>if q<v2.2.2.2.2.2.2.2.2.2.2.2.2.1.n then v2.2.2.2.2.2.2.2.2.2.2.2.2.1.at' q else (fun q=>List.getD (α:=U0) [v.2.2.2.1] q (ta (.pair .str (.pair .str .unit)))) (q - v2.2.2.2.2.2.2.2.2.2.2.2.2.1.n)⟩:Sq U0),(v2.2.2.2.2.2.2.2.2.2.2.2.2.2.1,(v2.2.2.2.2.2.2.2.2.2.2.1,(v2.2.2.2.2.2.2.2.2.2.2.2.1,())))))))))))),((0:Int),())) else none else (Bd n c.2.2.2.2.2.2.2.2.1 v.2.2.2.1).bind fun v4=>if (decide (v4≥(0:Int)))=true then k (c,((4:Int),())) else if (decide ((c.2.2.2.2.2.2.2.2.1.n:Int)≥(8:Int)))=true then
 k (c,((5:Int),())) else if wb (v2.2.2.2.2.2.2.2.2.2.2.2.2.1.n+1) 32=true then k ((v2.1,(v2.2.1,(v2.2.2.1,((v2.2.2.2.1,(v2.2.2.2.2.1,())),((3:Int),(v2.2.2.2.2.2.2.1,(v2.2.2.2.2.2.2.2.1,((v2.2.2.2.2.2.2.2.2.1,(v2.2.2.2.2.2.2.2.2.2.1,())),((⟨(v2.2.2.2.2.2.2.2.2.2.2.2.2.1.n+1),fun q=>if q<v2.2.2.2.2.2.2.2.2.2.2.2.2.1.n then v2.2.2.2.2.2.2.2.2.2.2.2.2.1.at' q else (fun q=>List.getD (α:=U0) [v.2.2.2.1] q (ta (.pair .str (.pair .str .unit)))) (q - v2.2.2.2.2.2.2.2.2.2.2.2.2.1.n)⟩:Sq U0),(v2.2.2.2.2.2.2.2.2.2.2.2.2.2.1,(v2.2.2.2.2.2.2.2.2.2.2.1,(v2.2.2.2.2.2.2.2.2.2.2.2.1,())))))))))))),((0:Int),())) else none else (zb n c).bind fun v5=>if (v.1==(3:Int))=true then if (c.2.2.2.2.1 !=(1:Int))=true then k (c,((6:Int),())) else UP (UP (k ((v5.1,(v5.2.1,(v5.2.2.1,((v5.2.2.2.1,(v5.2.2.2.2.1,())),((2:Int),(v5.2.2.2.2.2.2.1,(v.2.2.1,(v.2.2.2.1,(v5.2.2.2.2.2.2.2.2.2.2.2.2.1,(v5.2.2.2.2.2.2.2.2.2.2.2.2.2.1,(v5.2.2.2.2.2.2.2.2.2.2.1,(v5.2.2.2.2.2.2.2.2.2.2.2.1,())))))))))))),((0:Int),()))) (dup 1 (k ((v5.1,(v5.2.1,(v5.2.2.1,((v5.2.2.2.1,(v5.2.2.2.2.1,())),((2:Int),(v5.2.2.2.2.2.2.1,(v.2.2.1,(v.2.2.2.1,(v5.2.2.2.2.2.2.2.2.2.2.2.2.1,(v5.2.2.2.2.2.2.2.2.2.2.2.2.2.1,(v5.2.2.2.2.2.2.2.2.2.2.1,(v5.2.2.2.2.2.2.2.2.2.2.2.1,())))))))))))),((0:Int),()))))) (UP (dup 1 (k ((v5.1,(v5.2.1,(v5.2.2.1,((v5.2.2.2.1,(v5.2.2.2.2.1,())),((2:Int),(v5.2.2.2.2.2.2.1,(v.2.2.1,(v.2.2.2.1,(v5.2.2.2.2.2.2.2.2.2.2.2.2.1,(v5.2.2.2.2.2.2.2.2.2.2.2.2.2.1,(v5.2.2.2.2.2.2.2.2.2.2.1,(v5.2.2.2.2.2.2.2.2.2.2.2.1,())))))))))))),((0:Int),())))) (
 UP (dup 1 (k ((v5.1,(v5.2.1,(v5.2.2.1,((v5.2.2.2.1,(v5.2.2.2.2.1,())),((2:Int),(v5.2.2.2.2.2.2.1,(v.2.2.1,(v.2.2.2.1,(v5.2.2.2.2.2.2.2.2.2.2.2.2.1,(v5.2.2.2.2.2.2.2.2.2.2.2.2.2.1,(v5.2.2.2.2.2.2.2.2.2.2.1,(v5.2.2.2.2.2.2.2.2.2.2.2.1,())))))))))))),((0:Int),())))) (k ((v5.1,(v5.2.1,(v5.2.2.1,((v5.2.2.2.1,(v5.2.2.2.2.1,())),((2:Int),(v5.2.2.2.2.2.2.1,(v.2.2.1,(v.2.2.2.1,(v5.2.2.2.2.2.2.2.2.2.2.2.2.1,(v5.2.2.2.2.2.2.2.2.2.2.2.2.2.1,(v5.2.2.2.2.2.2.2.2.2.2.1,(v5.2.2.2.2.2.2.2.2.2.2.2.1,())))))))))))),((0:Int),()))))) else if (c.2.2.2.2.1 !=(2:Int))=true then if (c.2.2.2.2.1 !=(3:Int))=true then k (c,((6:Int),())) else (Bd n c.2.2.2.2.2.2.2.2.1 v.2.2.2.1).bind fun v6=>if (decide (v6≥(0:Int)))=true then k (c,((4:Int),())) else if (decide ((c.2.2.2.2.2.2.2.2.1.n:Int)≥(8:Int)))=true then k (c,((5:Int),())) else if wb (v5.2.2.2.2.2.2.2.2.2.2.2.2.1.n+1) 32=true then k ((v5.1,(v5.2.1,(v5.2.2.1,((v5.2.2.2.1,(v5.2.2.2.2.1,())),((3:Int),(v5.2.2.2.2.2.2.1,(v5.2.2.2.2.2.2.2.1,((v5.2.2.2.2.2.2.2.2.1,(v5.2.2.2.2.2.2.2.2.2.1,())),((⟨(v5.2.2.2.2.2.2.2.2.2.2.2.2.1.n+1),fun q=>if q<v5.2.2.2.2.2.2.2.2.2.2.2.2.1.n then v5.2.2.2.2.2.2.2.2.2.2.2.2.1.at' q else (fun q=>List.getD (α:=U0) [v.2.2.2.1] q (ta (.pair .str (.pair .str .unit)))) (q - v5.2.2.2.2.2.2.2.2.2.2.2.2.1.n)⟩:Sq U0),(v5.2.2.2.2.2.2.2.2.2.2.2.2.2.1,(v5.2.2.2.2.2.2.2.2.2.2.1,(v5.2.2.2.2.2.2.2.2.2.2.2.1,())))))))))))),((0:Int),()))
 else none else (Bd n c.2.2.2.2.2.2.2.2.1 v.2.2.2.1).bind fun v7=>if (decide (v7≥(0:Int)))=true then k (c,((4:Int),())) else if (decide ((c.2.2.2.2.2.2.2.2.1.n:Int)≥(8:Int)))=true then k (c,((5:Int),())) else if wb (v5.2.2.2.2.2.2.2.2.2.2.2.2.1.n+1) 32=true then k ((v5.1,(v5.2.1,(v5.2.2.1,((v5.2.2.2.1,(v5.2.2.2.2.1,())),((3:Int),(v5.2.2.2.2.2.2.1,(v5.2.2.2.2.2.2.2.1,((v5.2.2.2.2.2.2.2.2.1,(v5.2.2.2.2.2.2.2.2.2.1,())),((⟨(v5.2.2.2.2.2.2.2.2.2.2.2.2.1.n+1),fun q=>if q<v5.2.2.2.2.2.2.2.2.2.2.2.2.1.n then v5.2.2.2.2.2.2.2.2.2.2.2.2.1.at' q else (fun q=>List.getD (α:=U0) [v.2.2.2.1] q (ta (.pair .str (.pair .str .unit)))) (q - v5.2.2.2.2.2.2.2.2.2.2.2.2.1.n)⟩:Sq U0),(v5.2.2.2.2.2.2.2.2.2.2.2.2.2.1,(v5.2.2.2.2.2.2.2.2.2.2.1,(v5.2.2.2.2.2.2.2.2.2.2.2.1,())))))))))))),((0:Int),())) else none else k (c,((1:Int),()))
def VM (n:Nat) (c:T0) (v:T1):Option (T0×Int×Unit):=gP n c v some
theorem tgb (n:Nat) {S:Type}:∀ c v (φ:_→Option S),(VM n c v).bind φ=gP n c v φ:=by
  intros;unfold VM gP;first | (simp only [ja,aa,iB,bB,oL,oX,nB,Option.bind_some]) | rfl
def wR (n:Nat):Hint Out:={ live:=fun c=>[],run:=fun c=>none,xm:=fun c q=>none,sch:=fun c=>(cond (Nat.beq c 7) (some [(0,0),(2,0),(4,0),(5,5),(1,7),(3,7),(6,6),(7,2),(8,6),(9,2)]) none) }
theorem Y6 (n:Nat):qa tys (ia Out (Th n)) (wR n) n (fa Tryz.f45) 0:=ma (fun _=>rfl) _ _ (by kernel_rfl)
theorem zbb (n:Nat):Enters Tryz.prog 45:=enters_of (c:=fa Tryz.f45) Tryz.func45 (by kernel_rfl) (by kernel_rfl)
def uR (n:Nat):Entry:=⟨45,pcT K13 (.many K19) (fun xs=>VM n xs.1 xs.2.1),none,none⟩
theorem Q1 (n:Nat):EntryOk Tryz.prog gl (uR n):=za (zbb n) fun xs y h=>na tys_ok (qj n) mixed (hint:=wR n) (n:=n) Tryz.func45 (Aa (Y6 n)) (la (φ:=(fun y=>some (Out.ret (qb (.many K19) y)))) (by kernel_rfl) (tgb n xs.1 xs.2.1 _) h)
def vR (n:Nat):List Entry:=uR n::Th n
theorem WM (n:Nat):AllOk Tryz.prog gl (vR n):=.cons (Q1 n) (qj n)
def Zs (n:Nat) {R:Type} (c:T0) (v:T1) (k:U3→Option R):Option R:=(ZP n c).bind fun v1=>if (!v1)=false then (uh n v).bind fun v2=>if (!v2)=true then k ((0:Int),((0:Int),((0:Int),((⟨#[]⟩:BA),(false,((0:Int),((⟨#[]⟩:BA),(false,((⟨#[]⟩:BA),((⟨#[]⟩:BA),((0:Int),(false,((1:Int),((⟨0,fun _=>ta (.pair .str (.pair .str .unit))⟩:Sq U0),((⟨0,fun _=>ta .str⟩:Sq BA),()))))))))))))))) else (Ch n c).bind fun v3=>if (v.1==(3:Int))=true then if (v3.2.2.2.2.2.1 !=(1:Int))=true then k ((0:Int),((0:Int),((0:Int),((⟨#[]⟩:BA),(false,((0:Int),((⟨#[]⟩:BA),(false,((⟨#[]⟩:BA),((⟨#[]⟩:BA),((0:Int),(false,((6:Int),((⟨0,fun _=>ta (.pair .str (.pair .str .unit))⟩:Sq U0),((⟨0,fun _=>ta .str⟩:Sq BA),()))))))))))))))) else UP (UP (k (v3.1,(v3.2.1,(v3.2.2.1,(v3.2.2.2.1,(v3.2.2.2.2.1,((2:Int),(v3.2.2.2.2.2.2.1,(v.2.2.1,(v.2.2.2.1.1,(v.2.2.2.1.2.1,(v3.2.2.2.2.2.2.2.2.2.2.1,(v3.2.2.2.2.2.2.2.2.2.2.2.1,((0:Int),(v3.2.2.2.2.2.2.2.2.2.2.2.2.1,(v3.2.2.2.2.2.2.2.2.2.2.2.2.2.1,())))))))))))))))) (dup 1 (k (v3.1,(v3.2.1,(v3.2.2.1,(v3.2.2.2.1,(v3.2.2.2.2.1,((2:Int),(v3.2.2.2.2.2.2.1,(v.2.2.1,(v.2.2.2.1.1,(v.2.2.2.1.2.1,(v3.2.2.2.2.2.2.2.2.2.2.1,(v3.2.2.2.2.2.2.2.2.2.2.2.1,((0:Int),(v3.2.2.2.2.2.2.2.2.2.2.2.2.1,(v3.2.2.2.2.2.2.2.2.2.2.2.2.2.1,())))))))))))))))))) (
 UP (dup 1 (k (v3.1,(v3.2.1,(v3.2.2.1,(v3.2.2.2.1,(v3.2.2.2.2.1,((2:Int),(v3.2.2.2.2.2.2.1,(v.2.2.1,(v.2.2.2.1.1,(v.2.2.2.1.2.1,(v3.2.2.2.2.2.2.2.2.2.2.1,(v3.2.2.2.2.2.2.2.2.2.2.2.1,((0:Int),(v3.2.2.2.2.2.2.2.2.2.2.2.2.1,(v3.2.2.2.2.2.2.2.2.2.2.2.2.2.1,()))))))))))))))))) (UP (dup 1 (k (v3.1,(v3.2.1,(v3.2.2.1,(v3.2.2.2.1,(v3.2.2.2.2.1,((2:Int),(v3.2.2.2.2.2.2.1,(v.2.2.1,(v.2.2.2.1.1,(v.2.2.2.1.2.1,(v3.2.2.2.2.2.2.2.2.2.2.1,(v3.2.2.2.2.2.2.2.2.2.2.2.1,((0:Int),(v3.2.2.2.2.2.2.2.2.2.2.2.2.1,(v3.2.2.2.2.2.2.2.2.2.2.2.2.2.1,()))))))))))))))))) (k (v3.1,(v3.2.1,(v3.2.2.1,(v3.2.2.2.1,(v3.2.2.2.2.1,((2:Int),(v3.2.2.2.2.2.2.1,(v.2.2.1,(v.2.2.2.1.1,(v.2.2.2.1.2.1,(v3.2.2.2.2.2.2.2.2.2.2.1,(v3.2.2.2.2.2.2.2.2.2.2.2.1,((0:Int),(v3.2.2.2.2.2.2.2.2.2.2.2.2.1,(v3.2.2.2.2.2.2.2.2.2.2.2.2.2.1,())))))))))))))))))) else if (v.1==(4:Int))=true then if (v3.2.2.2.2.2.1 !=(2:Int))=true then if (v3.2.2.2.2.2.1 !=(3:Int))=true then k ((0:Int),((0:Int),((0:Int),((⟨#[]⟩:BA),(false,((0:Int),((⟨#[]⟩:BA),(false,((⟨#[]⟩:BA),((⟨#[]⟩:BA),((0:Int),(false,((6:Int),((⟨0,fun _=>ta (.pair .str (.pair .str .unit))⟩:Sq U0),((⟨0,fun _=>ta .str⟩:Sq BA),()))))))))))))))) else (sCn n v3.2.2.2.2.2.2.2.2.2.2.2.2.1 v.2.2.2.1).bind fun v4=>if v4=true then k ((0:Int),((0:Int),((0:Int),((⟨#[]⟩:BA),(false,((0:Int),((⟨#[]⟩:BA),(false,((⟨#[]⟩:BA),((⟨#[]⟩:BA),((0:Int),(false,((4:Int),((⟨0,fun _=>ta (.pair .str (.pair .str .unit))⟩:Sq U0),((⟨0,fun _=>ta .str⟩:Sq BA),())))))))))))))))
 else if ((v3.2.2.2.2.2.2.2.2.2.2.2.2.1.n:Int)==(8:Int))=true then k ((0:Int),((0:Int),((0:Int),((⟨#[]⟩:BA),(false,((0:Int),((⟨#[]⟩:BA),(false,((⟨#[]⟩:BA),((⟨#[]⟩:BA),((0:Int),(false,((5:Int),((⟨0,fun _=>ta (.pair .str (.pair .str .unit))⟩:Sq U0),((⟨0,fun _=>ta .str⟩:Sq BA),()))))))))))))))) else if wb (v3.2.2.2.2.2.2.2.2.2.2.2.2.1.n+1) 32=true then k (v3.1,(v3.2.1,(v3.2.2.1,(v3.2.2.2.1,(v3.2.2.2.2.1,((3:Int),(v3.2.2.2.2.2.2.1,(v3.2.2.2.2.2.2.2.1,(v3.2.2.2.2.2.2.2.2.1,(v3.2.2.2.2.2.2.2.2.2.1,(v3.2.2.2.2.2.2.2.2.2.2.1,(v3.2.2.2.2.2.2.2.2.2.2.2.1,((0:Int),((⟨(v3.2.2.2.2.2.2.2.2.2.2.2.2.1.n+1),fun q=>if q<v3.2.2.2.2.2.2.2.2.2.2.2.2.1.n then v3.2.2.2.2.2.2.2.2.2.2.2.2.1.at' q else (fun q=>List.getD (α:=U0) [v.2.2.2.1] q (ta (.pair .str (.pair .str .unit)))) (q - v3.2.2.2.2.2.2.2.2.2.2.2.2.1.n)⟩:Sq U0),(v3.2.2.2.2.2.2.2.2.2.2.2.2.2.1,()))))))))))))))) else none else (sCn n v3.2.2.2.2.2.2.2.2.2.2.2.2.1 v.2.2.2.1).bind fun v5=>if v5=true then k ((0:Int),((0:Int),((0:Int),((⟨#[]⟩:BA),(false,((0:Int),((⟨#[]⟩:BA),(false,((⟨#[]⟩:BA),((⟨#[]⟩:BA),((0:Int),(false,((4:Int),((⟨0,fun _=>ta (.pair .str (.pair .str .unit))⟩:Sq U0),((⟨0,fun _=>ta .str⟩:Sq BA),())))))))))))))))
 else if ((v3.2.2.2.2.2.2.2.2.2.2.2.2.1.n:Int)==(8:Int))=true then k ((0:Int),((0:Int),((0:Int),((⟨#[]⟩:BA),(false,((0:Int),((⟨#[]⟩:BA),(false,((⟨#[]⟩:BA),((⟨#[]⟩:BA),((0:Int),(false,((5:Int),((⟨0,fun _=>ta (.pair .str (.pair .str .unit))⟩:Sq U0),((⟨0,fun _=>ta .str⟩:Sq BA),()))))))))))))))) else if wb (v3.2.2.2.2.2.2.2.2.2.2.2.2.1.n+1) 32=true then k (v3.1,(v3.2.1,(v3.2.2.1,(v3.2.2.2.1,(v3.2.2.2.2.1,((3:Int),(v3.2.2.2.2.2.2.1,(v3.2.2.2.2.2.2.2.1,(v3.2.2.2.2.2.2.2.2.1,(v3.2.2.2.2.2.2.2.2.2.1,(v3.2.2.2.2.2.2.2.2.2.2.1,(v3.2.2.2.2.2.2.2.2.2.2.2.1,((0:Int),((⟨(v3.2.2.2.2.2.2.2.2.2.2.2.2.1.n+1),fun q=>if q<v3.2.2.2.2.2.2.2.2.2.2.2.2.1.n then v3.2.2.2.2.2.2.2.2.2.2.2.2.1.at' q else (fun q=>List.getD (α:=U0) [v.2.2.2.1] q (ta (.pair .str (.pair .str .unit)))) (q - v3.2.2.2.2.2.2.2.2.2.2.2.2.1.n)⟩:Sq U0),(v3.2.2.2.2.2.2.2.2.2.2.2.2.2.1,()))))))))))))))) else none else k ((0:Int),((0:Int),((0:Int),((⟨#[]⟩:BA),(false,((0:Int),((⟨#[]⟩:BA),(false,((⟨#[]⟩:BA),((⟨#[]⟩:BA),((0:Int),(false,((1:Int),((⟨0,fun _=>ta (.pair .str (.pair .str .unit))⟩:Sq U0),((⟨0,fun _=>ta .str⟩:Sq BA),()))))))))))))))) else k ((0:Int),((0:Int),((0:Int),((⟨#[]⟩:BA),(false,((0:Int),((⟨#[]⟩:BA),(false,((⟨#[]⟩:BA),((⟨#[]⟩:BA),((0:Int),(false,((1:Int),((⟨0,fun _=>ta (.pair .str (.pair .str .unit))⟩:Sq U0),((⟨0,fun _=>ta .str⟩:Sq BA),())))))))))))))))
def If (n:Nat) (c:T0) (v:T1):Option U3:=Zs n c v some
theorem Uab (n:Nat) {S:Type}:∀ c v (φ:_→Option S),(If n c v).bind φ=Zs n c v φ:=by
  intros;unfold If Zs;first | (simp only [ja,aa,iB,bB,oL,oX,nB,Option.bind_some]) | rfl
def eH (n:Nat):Hint OutS:={ live:=fun c=>[],run:=fun c=>none,xm:=fun c q=>none,sch:=fun c=>(cond (Nat.beq c 8) (some [(0,0),(2,0),(4,0),(5,5),(1,7),(3,7),(6,6),(7,2),(8,6),(9,2)]) none),pr:=[(0,10,25),(0,11,9)] }
theorem KW (n:Nat):qa tys (ia OutS (vR n)).keep (eH n) n (fa Tryz.f46) 0:=ma (fun _=>rfl) _ _ (by kernel_rfl)
theorem AZ (n:Nat):Enters Tryz.prog 46:=enters_of (c:=fa Tryz.f46) Tryz.func46 (by kernel_rfl) (by kernel_rfl)
def gE:List RSp:=[.one (.dat K0),.one (.dat K2)]
def fE:List RS:=[]
def BZ:List Sl:=[.top,.top]
def CZ:List RSp:=[.agg [.dat (.int .i64),.dat (.int .i64),.dat (.int .i64),.dat .str,.dat .bool,.dat (.int .i64),.dat .str,.dat .bool,.dat .str,.dat .str,.row 0,.row 1,.dat (.int .i64),.dat .bool],.one (.dat (.int .i64))]
def Lp:List RS:=[.row 25 2 (.pair .str (.pair .str .unit)) true true,.row 9 1 .str true true]
def SA (y:U3):OutS:=⟨false,bo (Sc Lp (y.2.2.2.2.2.2.2.2.2.2.2.2.2.1,(y.2.2.2.2.2.2.2.2.2.2.2.2.2.2.1,()))) BZ (),fG (WC (Sc Lp (y.2.2.2.2.2.2.2.2.2.2.2.2.2.1,(y.2.2.2.2.2.2.2.2.2.2.2.2.2.2.1,()))) CZ ((y.1,(y.2.1,(y.2.2.1,(y.2.2.2.1,(y.2.2.2.2.1,(y.2.2.2.2.2.1,(y.2.2.2.2.2.2.1,(y.2.2.2.2.2.2.2.1,(y.2.2.2.2.2.2.2.2.1,(y.2.2.2.2.2.2.2.2.2.1,(y.2.2.2.2.2.2.2.2.2.2.1,(y.2.2.2.2.2.2.2.2.2.2.2.1,())))))))))))),((y.2.2.2.2.2.2.2.2.2.2.2.2.1,()),()))),Fu (Sc Lp (y.2.2.2.2.2.2.2.2.2.2.2.2.2.1,(y.2.2.2.2.2.2.2.2.2.2.2.2.2.2.1,()))) Lp (y.2.2.2.2.2.2.2.2.2.2.2.2.2.1,(y.2.2.2.2.2.2.2.2.2.2.2.2.2.2.1,()))⟩
theorem fQ (n:Nat):EntryOk Tryz.prog gl ⟨46,Sf,none,some (csT gE fE (fun σ ρ=>If n σ.1.1 σ.2.1.1) SA)⟩:=Be (AZ n) fun σ ρ y h=>Vf tys_ok (WM n) mixed (hint:=eH n) (n:=n) Tryz.func46 (Aa (KW n)) (la (φ:=fun y=>some (SA y)) (by kernel_rfl) (Uab n σ.1.1 σ.2.1.1 _) h)
def Sn (n:Nat):List Entry:=⟨46,Sf,none,some (csT gE fE (fun σ ρ=>If n σ.1.1 σ.2.1.1) SA)⟩::vR n
theorem RC (n:Nat):AllOk Tryz.prog gl (Sn n):=.cons (fQ n) (WM n)
def Ed (n:Nat) {R:Type} (i:Int) (l:(Sq BA)) (kn:Int→(Sq BA)→Option R) (ko:((Sq BA))→Option R) (kr:Unit→Option R) (kp:Int→Option R):Option R:=if (decide (i<(l.n:Int)))=true then if 0≤i∧i<(l.n:Int) then kn (IntKind.wrap .i64 (i+(1:Int))) (⟨l.n,fun q=>if q=(Int.toNat i)∧q<l.n then (⟨#[63]⟩:BA) else l.at' q⟩:Sq BA) else none else ko l
def db (n:Nat):Nat→Int→(Sq BA)→Option (Lx ((Sq BA)) Unit)
 | 0,_,_=>none
 | m+1,i,l=>Ed n i l (db n m) (fun a=>some (.out a)) (fun a=>some (.ret a)) (fun p=>some (.pan p))
theorem OJ (n m:Nat) {S:Type}:∀ i l (φ:_→Option S),(db n (m+1) i l).bind φ=Ed n i l (fun i l=>(db n m i l).bind φ) (fun a=>φ (.out a)) (fun a=>φ (.ret a)) (fun p=>φ (.pan p)):=by
  intros;first | (simp only [db,Ed,ja,aa,iB,bB,oL,oX,nB,Option.bind_some]) | rfl
def di:List Sl:=.row 0::.top::.dat (.int .i64)::tp 12 []
def ci:List RS:=[.row 9 1 .str true true,.ghost [.top]]
def iw:List Sl:=.row 0::tp 14 []
def gw:List RS:=[.row 9 1 .str true true,.ghost [.top]]
def Wb (K:XE→List AV→oa→Option OutS):Lx ((Sq BA)) Unit→Option OutS:=fun x=>onL x (fun a=>tc iw gw () (a,((),())) (K (.exit 0))) (fun _=>none) (fun _=>none)
def ej (n:Nat) {R:Type} (r0:(Sq BA)) (k:Unit→Option R):Option R:=(db n n (0:Int) r0).bind fun x_1=>onL x_1 (fun a_2=>if wb (a_2.n+1) 16=true then k () else none) (fun _=>none) (fun _=>none)
def Md (n:Nat) (r0:(Sq BA)):Option Unit:=ej n r0 some
theorem NS (n:Nat) {S:Type}:∀ r0 (φ:_→Option S),(Md n r0).bind φ=ej n r0 φ:=by
  intros;unfold Md ej;first | (simp only [ja,aa,iB,bB,oL,oX,nB,Option.bind_some]) | rfl
def Nf (n:Nat):Hint OutS:={ live:=fun c=>(cond (Nat.beq c 0) [(0,some (.sl .str)),(2,none)] []),run:=fun c=>(cond (Nat.beq c 0) (some (Zg di ci fun σ ρ K=>(db n n σ.1 ρ.1).bind (Wb K))) none),xm:=fun c q=>(cond (Nat.beq c 0&&Nat.beq (q.getD 1000000) 0&&q.isSome) (some [(0,some (.sl .str))]) none) }
def Mf (n:Nat) (K:XE→List AV→oa→Option OutS) (m:Nat) (i:Int) (l:(Sq BA)):Option OutS:=Nc tys (ia OutS (Sn n)) (Nf n) n (wa [0,1,0,0] (fa Tryz.f79)) 0 di ci K m (i,()) (l,((),()))
theorem dr (n:Nat) (K:XE→List AV→oa→Option OutS):∀ (m:Nat) i l,Mf n K m i l=(db n m i l).bind (Wb K)
  | 0,_,_=>by kernel_rfl
  | m+1,i,l=>by
    have h1:Mf n K (m+1) i l=Ed n i l (Mf n K m) (fun a=>Wb K (.out a)) (fun a=>Wb K (.ret a)) (fun p=>Wb K (.pan p)):=by kernel_rfl
    have h2:Mf n K m=fun i l=>(db n m i l).bind (Wb K):=by
      repeat (refine funext fun _=>?_)
      exact dr n K m _ _
    rw [h1,h2];exact (OJ n m _ _ (Wb K)).symm
theorem mG (n:Nat):Bc tys (ia OutS (Sn n)) (Nf n) n (wa [0,1,0,0] (fa Tryz.f79)) 0:=Ea (sp:=di) (rp:=ci) (by kernel_rfl) fun K σ ρ=>dr n K n σ.1 ρ.1
theorem PJ (n:Nat):qa tys (ia OutS (Sn n)) (Nf n) n (fa Tryz.f79) 0:=⟨⟨trivial,⟨mG n,⟨⟨trivial,⟨trivial,trivial⟩⟩,⟨trivial,trivial⟩⟩⟩⟩,trivial⟩
theorem SL (n:Nat):Enters Tryz.prog 79:=enters_of (c:=fa Tryz.f79) Tryz.func79 (by kernel_rfl) (by kernel_rfl)
def Vl:List RSp:=[.one (.row 0)]
def Ul:List RS:=[.row 9 1 .str true true]
def UL:List Sl:=[.top]
def VL:List RSp:=[]
def fh:List RS:=[]
def fj (y:Unit):OutS:=⟨false,bo (Sc fh ()) UL (),fG (WC (Sc fh ()) VL ()),Fu (Sc fh ()) fh ()⟩
theorem Pw (n:Nat):EntryOk Tryz.prog gl ⟨79,Sf,none,some (csT Vl Ul (fun σ ρ=>Md n ρ.1) fj)⟩:=Be (SL n) fun σ ρ y h=>Hb tys_ok (RC n) mixed (hint:=Nf n) (n:=n) Tryz.func79 (Aa (PJ n)) (la (φ:=fun y=>some (fj y)) (by kernel_rfl) (NS n ρ.1 _) h)
def Af (n:Nat):List Entry:=⟨79,Sf,none,some (csT Vl Ul (fun σ ρ=>Md n ρ.1) fj)⟩::Sn n
theorem pp (n:Nat):AllOk Tryz.prog gl (Af n):=.cons (Pw n) (RC n)
def ze (n:Nat) {R:Type} (i c12 c13 c14:Int) (c15:BA) (c16:Bool) (c17:Int) (c18:BA) (c19:Bool) (c20 c21:BA) (c22:Int) (c23:Bool) (r11:(Sq U0)) (r2:(Sq BA)) (kn:Int→Int→Int→Int→BA→Bool→Int→BA→Bool→BA→BA→Int→Bool→(Sq U0)→(Sq BA)→Option R) (ko:U13→Option R) (kr:Unit→Option R) (kp:Int→Option R):Option R:=if (decide (i<(r11.n:Int)))=true then if 0≤i∧i<(r11.n:Int) then kn (IntKind.wrap .i64 (i+(1:Int))) c12 c13 c14 c15 c16 c17 c18 c19 c20 c21 c22 c23 (⟨r11.n,fun q=>if q=(Int.toNat i)∧q<r11.n then ((⟨#[63]⟩:BA),((⟨#[]⟩:BA),())) else r11.at' q⟩:Sq U0) r2 else none else ko (c12,c13,c14,c15,c16,c17,c18,c19,c20,c21,c22,c23,r11,r2)
def nb (n:Nat):Nat→Int→Int→Int→Int→BA→Bool→Int→BA→Bool→BA→BA→Int→Bool→(Sq U0)→(Sq BA)→Option (Lx U13 Unit)
 | 0,_,_,_,_,_,_,_,_,_,_,_,_,_,_,_=>none
 | m+1,i,c12,c13,c14,c15,c16,c17,c18,c19,c20,c21,c22,c23,r11,r2=>ze n i c12 c13 c14 c15 c16 c17 c18 c19 c20 c21 c22 c23 r11 r2 (nb n m) (fun a=>some (.out a)) (fun a=>some (.ret a)) (fun p=>some (.pan p))
theorem QL (n m:Nat) {S:Type}:∀ i c12 c13 c14 c15 c16 c17 c18 c19 c20 c21 c22 c23 r11 r2 (φ:_→Option S),(nb n (m+1) i c12 c13 c14 c15 c16 c17 c18 c19 c20 c21 c22 c23 r11 r2).bind φ=ze n i c12 c13 c14 c15 c16 c17 c18 c19 c20 c21 c22 c23 r11 r2 (fun i c12 c13 c14 c15 c16 c17 c18 c19 c20 c21 c22 c23 r11 r2=>(nb n m i c12 c13 c14 c15 c16 c17 c18 c19 c20 c21 c22 c23 r11 r2).bind φ) (fun a=>φ (.out a)) (fun a=>φ (.ret a)) (fun p=>φ (.pan p)):=by
  intros;first | (simp only [nb,ze,ja,aa,iB,bB,oL,oX,nB,Option.bind_some]) | rfl
def dj:List Sl:=.top::.ptr 0 0 0::.dat (.int .i64)::tp 15 []
def cj:List RS:=[.box 29 14 false [.dat (.int .i64),.dat (.int .i64),.dat (.int .i64),.dat .str,.dat .bool,.dat (.int .i64),.dat .str,.dat .bool,.dat .str,.dat .str,.row 1,.row 2,.dat (.int .i64),.dat .bool],.row 25 2 (.pair .str (.pair .str .unit)) true true,.row 9 1 .str true true,.ghost [.top]]
def Kx:List Sl:=.top::.ptr 0 0 0::tp 16 []
def Ix:List RS:=[.box 29 14 false [.dat (.int .i64),.dat (.int .i64),.dat (.int .i64),.dat .str,.dat .bool,.dat (.int .i64),.dat .str,.dat .bool,.dat .str,.dat .str,.row 1,.row 2,.dat (.int .i64),.dat .bool],.row 25 2 (.pair .str (.pair .str .unit)) true true,.row 9 1 .str true true,.ghost [.top]]
def nc (K:XE→List AV→oa→Option OutS):Lx U13 Unit→Option OutS:=fun x=>onL x (fun a=>tc Kx Ix () ((a.1,(a.2.1,(a.2.2.1,(a.2.2.2.1,(a.2.2.2.2.1,(a.2.2.2.2.2.1,(a.2.2.2.2.2.2.1,(a.2.2.2.2.2.2.2.1,(a.2.2.2.2.2.2.2.2.1,(a.2.2.2.2.2.2.2.2.2.1,(a.2.2.2.2.2.2.2.2.2.2.1,(a.2.2.2.2.2.2.2.2.2.2.2.1,())))))))))))),(a.2.2.2.2.2.2.2.2.2.2.2.2.1,(a.2.2.2.2.2.2.2.2.2.2.2.2.2,((),())))) (K (.exit 0))) (fun _=>none) (fun _=>none)
def Rk (n:Nat) {R:Type} (c c1 c2:Int) (c3:BA) (c4:Bool) (c5:Int) (c6:BA) (c7:Bool) (c8 c9:BA) (c10:Int) (c11:Bool) (r0:(Sq U0)) (r1:(Sq BA)) (k:Unit→Option R):Option R:=(nb n n (0:Int) c c1 c2 c3 c4 c5 c6 c7 c8 c9 c10 c11 r0 r1).bind fun x_1=>onL x_1 (fun a_2=>(Md n a_2.2.2.2.2.2.2.2.2.2.2.2.2.2).bind fun v=>k ()) (fun _=>none) (fun _=>none)
def Qa (n:Nat) (c c1 c2:Int) (c3:BA) (c4:Bool) (c5:Int) (c6:BA) (c7:Bool) (c8 c9:BA) (c10:Int) (c11:Bool) (r0:(Sq U0)) (r1:(Sq BA)):Option Unit:=Rk n c c1 c2 c3 c4 c5 c6 c7 c8 c9 c10 c11 r0 r1 some
theorem MU (n:Nat) {S:Type}:∀ c c1 c2 c3 c4 c5 c6 c7 c8 c9 c10 c11 r0 r1 (φ:_→Option S),(Qa n c c1 c2 c3 c4 c5 c6 c7 c8 c9 c10 c11 r0 r1).bind φ=Rk n c c1 c2 c3 c4 c5 c6 c7 c8 c9 c10 c11 r0 r1 φ:=by
  intros;unfold Qa Rk;first | (simp only [ja,aa,iB,bB,oL,oX,nB,Option.bind_some]) | rfl
def eh (n:Nat):Hint OutS:={ live:=fun c=>(cond (Nat.beq c 0) [(1,none),(2,none)] []),run:=fun c=>(cond (Nat.beq c 0) (some (Zg dj cj fun σ ρ K=>(nb n n σ.1 ρ.1.1 ρ.1.2.1 ρ.1.2.2.1 ρ.1.2.2.2.1 ρ.1.2.2.2.2.1 ρ.1.2.2.2.2.2.1 ρ.1.2.2.2.2.2.2.1 ρ.1.2.2.2.2.2.2.2.1 ρ.1.2.2.2.2.2.2.2.2.1 ρ.1.2.2.2.2.2.2.2.2.2.1 ρ.1.2.2.2.2.2.2.2.2.2.2.1 ρ.1.2.2.2.2.2.2.2.2.2.2.2.1 ρ.2.1 ρ.2.2.1).bind (nc K))) none),xm:=fun c q=>(cond (Nat.beq c 0&&Nat.beq (q.getD 1000000) 0&&q.isSome) (some [(1,none)]) none) }
def dh (n:Nat) (K:XE→List AV→oa→Option OutS) (m:Nat) (i:Int) (c12:Int) (c13:Int) (c14:Int) (c15:BA) (c16:Bool) (c17:Int) (c18:BA) (c19:Bool) (c20:BA) (c21:BA) (c22:Int) (c23:Bool) (r11:(Sq U0)) (r2:(Sq BA)):Option OutS:=Nc tys (ia OutS (Af n)) (eh n) n (wa [1,0,1,0,0] (fa Tryz.f52)) 0 dj cj K m (i,()) ((c12,(c13,(c14,(c15,(c16,(c17,(c18,(c19,(c20,(c21,(c22,(c23,())))))))))))),(r11,(r2,((),()))))
theorem wu (n:Nat) (K:XE→List AV→oa→Option OutS):∀ (m:Nat) i c12 c13 c14 c15 c16 c17 c18 c19 c20 c21 c22 c23 r11 r2,dh n K m i c12 c13 c14 c15 c16 c17 c18 c19 c20 c21 c22 c23 r11 r2=(nb n m i c12 c13 c14 c15 c16 c17 c18 c19 c20 c21 c22 c23 r11 r2).bind (nc K)
  | 0,_,_,_,_,_,_,_,_,_,_,_,_,_,_,_=>by kernel_rfl
  | m+1,i,c12,c13,c14,c15,c16,c17,c18,c19,c20,c21,c22,c23,r11,r2=>by
    have h1:dh n K (m+1) i c12 c13 c14 c15 c16 c17 c18 c19 c20 c21 c22 c23 r11 r2=ze n i c12 c13 c14 c15 c16 c17 c18 c19 c20 c21 c22 c23 r11 r2 (dh n K m) (fun a=>nc K (.out a)) (fun a=>nc K (.ret a)) (fun p=>nc K (.pan p)):=by kernel_rfl
    have h2:dh n K m=fun i c12 c13 c14 c15 c16 c17 c18 c19 c20 c21 c22 c23 r11 r2=>(nb n m i c12 c13 c14 c15 c16 c17 c18 c19 c20 c21 c22 c23 r11 r2).bind (nc K):=by
      repeat (refine funext fun _=>?_)
      exact wu n K m _ _ _ _ _ _ _ _ _ _ _ _ _ _ _
    rw [h1,h2];exact (QL n m _ _ _ _ _ _ _ _ _ _ _ _ _ _ _ (nc K)).symm
theorem NJ (n:Nat):Bc tys (ia OutS (Af n)) (eh n) n (wa [1,0,1,0,0] (fa Tryz.f52)) 0:=Ea (sp:=dj) (rp:=cj) (by kernel_rfl) fun K σ ρ=>wu n K n σ.1 ρ.1.1 ρ.1.2.1 ρ.1.2.2.1 ρ.1.2.2.2.1 ρ.1.2.2.2.2.1 ρ.1.2.2.2.2.2.1 ρ.1.2.2.2.2.2.2.1 ρ.1.2.2.2.2.2.2.2.1 ρ.1.2.2.2.2.2.2.2.2.1 ρ.1.2.2.2.2.2.2.2.2.2.1 ρ.1.2.2.2.2.2.2.2.2.2.2.1 ρ.1.2.2.2.2.2.2.2.2.2.2.2.1 ρ.2.1 ρ.2.2.1
theorem RL (n:Nat):qa tys (ia OutS (Af n)) (eh n) n (fa Tryz.f52) 0:=⟨trivial,⟨⟨trivial,⟨NJ n,⟨⟨trivial,⟨trivial,trivial⟩⟩,⟨trivial,trivial⟩⟩⟩⟩,trivial⟩⟩
theorem HO (n:Nat):Enters Tryz.prog 52:=enters_of (c:=fa Tryz.f52) Tryz.func52 (by kernel_rfl) (by kernel_rfl)
def lp:List RSp:=[.agg [.dat (.int .i64),.dat (.int .i64),.dat (.int .i64),.dat .str,.dat .bool,.dat (.int .i64),.dat .str,.dat .bool,.dat .str,.dat .str,.row 0,.row 1,.dat (.int .i64),.dat .bool]]
def jp:List RS:=[.row 25 2 (.pair .str (.pair .str .unit)) true true,.row 9 1 .str true true]
def JO:List Sl:=[.top]
def KO:List RSp:=[]
def Lh:List RS:=[]
def Sk (y:Unit):OutS:=⟨false,bo (Sc Lh ()) JO (),fG (WC (Sc Lh ()) KO ()),Fu (Sc Lh ()) Lh ()⟩
theorem DA (n:Nat):EntryOk Tryz.prog gl ⟨52,Sf,none,some (csT lp jp (fun σ ρ=>Qa n σ.1.1 σ.1.2.1 σ.1.2.2.1 σ.1.2.2.2.1 σ.1.2.2.2.2.1 σ.1.2.2.2.2.2.1 σ.1.2.2.2.2.2.2.1 σ.1.2.2.2.2.2.2.2.1 σ.1.2.2.2.2.2.2.2.2.1 σ.1.2.2.2.2.2.2.2.2.2.1 σ.1.2.2.2.2.2.2.2.2.2.2.1 σ.1.2.2.2.2.2.2.2.2.2.2.2.1 ρ.1 ρ.2.1) Sk)⟩:=Be (HO n) fun σ ρ y h=>Hb tys_ok (pp n) mixed (hint:=eh n) (n:=n) Tryz.func52 (Aa (RL n)) (la (φ:=fun y=>some (Sk y)) (by kernel_rfl) (MU n σ.1.1 σ.1.2.1 σ.1.2.2.1 σ.1.2.2.2.1 σ.1.2.2.2.2.1 σ.1.2.2.2.2.2.1 σ.1.2.2.2.2.2.2.1 σ.1.2.2.2.2.2.2.2.1 σ.1.2.2.2.2.2.2.2.2.1 σ.1.2.2.2.2.2.2.2.2.2.1 σ.1.2.2.2.2.2.2.2.2.2.2.1 σ.1.2.2.2.2.2.2.2.2.2.2.2.1 ρ.1 ρ.2.1 _) h)
def gp (n:Nat):List Entry:=⟨52,Sf,none,some (csT lp jp (fun σ ρ=>Qa n σ.1.1 σ.1.2.1 σ.1.2.2.1 σ.1.2.2.2.1 σ.1.2.2.2.2.1 σ.1.2.2.2.2.2.1 σ.1.2.2.2.2.2.2.1 σ.1.2.2.2.2.2.2.2.1 σ.1.2.2.2.2.2.2.2.2.1 σ.1.2.2.2.2.2.2.2.2.2.1 σ.1.2.2.2.2.2.2.2.2.2.2.1 σ.1.2.2.2.2.2.2.2.2.2.2.2.1 ρ.1 ρ.2.1) Sk)⟩::Af n
theorem br (n:Nat):AllOk Tryz.prog gl (gp n):=.cons (DA n) (pp n)
def qB (n:Nat) {R:Type} (c:T0) (k:T0→Option R):Option R:=if (c.2.2.2.2.1 !=(0:Int))=true then if (c.2.2.2.2.1 !=(5:Int))=true then k (c.1,(c.2.1,(c.2.2.1,(c.2.2.2.1,((1:Int),(c.2.2.2.2.2.1,(false,(((⟨#[]⟩:BA),((⟨#[]⟩:BA),())),((⟨0,fun _=>ta (.pair .str (.pair .str .unit))⟩:Sq U0),((⟨0,fun _=>ta .str⟩:Sq BA),((0:Int),(false,())))))))))))) else k (c.1,(c.2.1,(c.2.2.1,(c.2.2.2.1,(c.2.2.2.2.1,(c.2.2.2.2.2.1,(false,(((⟨#[]⟩:BA),((⟨#[]⟩:BA),())),((⟨0,fun _=>ta (.pair .str (.pair .str .unit))⟩:Sq U0),((⟨0,fun _=>ta .str⟩:Sq BA),((0:Int),(false,())))))))))))) else k (c.1,(c.2.1,(c.2.2.1,(c.2.2.2.1,(c.2.2.2.2.1,(c.2.2.2.2.2.1,(false,(((⟨#[]⟩:BA),((⟨#[]⟩:BA),())),((⟨0,fun _=>ta (.pair .str (.pair .str .unit))⟩:Sq U0),((⟨0,fun _=>ta .str⟩:Sq BA),((0:Int),(false,()))))))))))))
def Cv (n:Nat) (c:T0):Option T0:=qB n c some
theorem ybb (n:Nat) {S:Type}:∀ c (φ:_→Option S),(Cv n c).bind φ=qB n c φ:=by
  intros;unfold Cv qB;first | (simp only [ja,aa,iB,bB,oL,oX,nB,Option.bind_some]) | rfl
def oI (n:Nat):Hint Out:={ live:=fun c=>[],run:=fun c=>none,xm:=fun c q=>none }
theorem FX (n:Nat):qa tys (ia Out (gp n)) (oI n) n (fa Tryz.f47) 0:=ma (fun _=>rfl) _ _ (by kernel_rfl)
theorem P1 (n:Nat):Enters Tryz.prog 47:=enters_of (c:=fa Tryz.f47) Tryz.func47 (by kernel_rfl) (by kernel_rfl)
def rF (n:Nat):Entry:=⟨47,pcT K1 (.one K0) (fun xs=>Cv n xs.1),none,none⟩
theorem qR (n:Nat):EntryOk Tryz.prog gl (rF n):=za (P1 n) fun xs y h=>na tys_ok (br n) mixed (hint:=oI n) (n:=n) Tryz.func47 (Aa (FX n)) (la (φ:=(fun y=>some (Out.ret (qb (.one K0) y)))) (by kernel_rfl) (ybb n xs.1 _) h)
def sF (n:Nat):List Entry:=rF n::gp n
theorem tD (n:Nat):AllOk Tryz.prog gl (sF n):=.cons (qR n) (br n)
def Xk (n:Nat) {R:Type} (c:T0) (k:U3→Option R):Option R:=(ZP n c).bind fun v=>if (!v)=true then k ((0:Int),((0:Int),((0:Int),((⟨#[]⟩:BA),(false,((0:Int),((⟨#[]⟩:BA),(false,((⟨#[]⟩:BA),((⟨#[]⟩:BA),((0:Int),(false,((1:Int),((⟨0,fun _=>ta (.pair .str (.pair .str .unit))⟩:Sq U0),((⟨0,fun _=>ta .str⟩:Sq BA),()))))))))))))))) else (Xf n c).bind fun v1=>k (v1.1,(v1.2.1,(v1.2.2.1,(v1.2.2.2.1,(v1.2.2.2.2.1,(v1.2.2.2.2.2.1,(v1.2.2.2.2.2.2.1,(v1.2.2.2.2.2.2.2.1,(v1.2.2.2.2.2.2.2.2.1,(v1.2.2.2.2.2.2.2.2.2.1,(v1.2.2.2.2.2.2.2.2.2.2.1,(v1.2.2.2.2.2.2.2.2.2.2.2.1,((0:Int),(v1.2.2.2.2.2.2.2.2.2.2.2.2.1,(v1.2.2.2.2.2.2.2.2.2.2.2.2.2.1,())))))))))))))))
def de (n:Nat) (c:T0):Option U3:=Xk n c some
theorem zZ (n:Nat) {S:Type}:∀ c (φ:_→Option S),(de n c).bind φ=Xk n c φ:=by
  intros;unfold de Xk;first | (simp only [ja,aa,iB,bB,oL,oX,nB,Option.bind_some]) | rfl
def uy (n:Nat):Hint OutS:={ live:=fun c=>[],run:=fun c=>none,xm:=fun c q=>none,pr:=[(0,10,25),(0,11,9)] }
theorem eQ (n:Nat):qa tys (ia OutS (sF n)).keep (uy n) n (fa Tryz.f48) 0:=ma (fun _=>rfl) _ _ (by kernel_rfl)
theorem wT (n:Nat):Enters Tryz.prog 48:=enters_of (c:=fa Tryz.f48) Tryz.func48 (by kernel_rfl) (by kernel_rfl)
def Wu:List RSp:=[.one (.dat K0)]
def Vu:List RS:=[]
def xT:List Sl:=[.top]
def yT:List RSp:=[.agg [.dat (.int .i64),.dat (.int .i64),.dat (.int .i64),.dat .str,.dat .bool,.dat (.int .i64),.dat .str,.dat .bool,.dat .str,.dat .str,.row 0,.row 1,.dat (.int .i64),.dat .bool],.one (.dat (.int .i64))]
def ik:List RS:=[.row 25 2 (.pair .str (.pair .str .unit)) true true,.row 9 1 .str true true]
def Kp (y:U3):OutS:=⟨false,bo (Sc ik (y.2.2.2.2.2.2.2.2.2.2.2.2.2.1,(y.2.2.2.2.2.2.2.2.2.2.2.2.2.2.1,()))) xT (),fG (WC (Sc ik (y.2.2.2.2.2.2.2.2.2.2.2.2.2.1,(y.2.2.2.2.2.2.2.2.2.2.2.2.2.2.1,()))) yT ((y.1,(y.2.1,(y.2.2.1,(y.2.2.2.1,(y.2.2.2.2.1,(y.2.2.2.2.2.1,(y.2.2.2.2.2.2.1,(y.2.2.2.2.2.2.2.1,(y.2.2.2.2.2.2.2.2.1,(y.2.2.2.2.2.2.2.2.2.1,(y.2.2.2.2.2.2.2.2.2.2.1,(y.2.2.2.2.2.2.2.2.2.2.2.1,())))))))))))),((y.2.2.2.2.2.2.2.2.2.2.2.2.1,()),()))),Fu (Sc ik (y.2.2.2.2.2.2.2.2.2.2.2.2.2.1,(y.2.2.2.2.2.2.2.2.2.2.2.2.2.2.1,()))) ik (y.2.2.2.2.2.2.2.2.2.2.2.2.2.1,(y.2.2.2.2.2.2.2.2.2.2.2.2.2.2.1,()))⟩
theorem dH (n:Nat):EntryOk Tryz.prog gl ⟨48,Sf,none,some (csT Wu Vu (fun σ ρ=>de n σ.1.1) Kp)⟩:=Be (wT n) fun σ ρ y h=>Vf tys_ok (tD n) mixed (hint:=uy n) (n:=n) Tryz.func48 (Aa (eQ n)) (la (φ:=fun y=>some (Kp y)) (by kernel_rfl) (zZ n σ.1.1 _) h)
def Uu (n:Nat):List Entry:=⟨48,Sf,none,some (csT Wu Vu (fun σ ρ=>de n σ.1.1) Kp)⟩::sF n
theorem ww (n:Nat):AllOk Tryz.prog gl (Uu n):=.cons (dH n) (tD n)
def bq (n:Nat) {R:Type} (id tenant ip:Int) (k:Bool→Option R):Option R:=if (decide (id≥(1:Int)))=true then if (decide (id≤(1099511627776:Int)))=true then (NH n tenant (3:Int)).bind fun v=>if v=true then (NH n ip (1099511627776:Int)).bind fun v1=>k v1 else k false else k false else k false
def En (n:Nat) (id tenant ip:Int):Option Bool:=bq n id tenant ip some
theorem N1 (n:Nat) {S:Type}:∀ id tenant ip (φ:_→Option S),(En n id tenant ip).bind φ=bq n id tenant ip φ:=by
  intros;unfold En bq;first | (simp only [ja,aa,iB,bB,oL,oX,nB,Option.bind_some]) | rfl
def Dz (n:Nat):Hint Out:={ live:=fun c=>[],run:=fun c=>none,xm:=fun c q=>none }
theorem oR (n:Nat):qa tys (ia Out (Uu n)) (Dz n) n (fa Tryz.f49) 0:=ma (fun _=>rfl) _ _ (by kernel_rfl)
theorem kU (n:Nat):Enters Tryz.prog 49:=enters_of (c:=fa Tryz.f49) Tryz.func49 (by kernel_rfl) (by kernel_rfl)
def Av (n:Nat):Entry:=⟨49,pcT (.pair (.int .i64) (.pair (.int .i64) (.pair (.int .i64) .unit))) (.one .bool) (fun xs=>En n xs.1 xs.2.1 xs.2.2.1),none,none⟩
theorem mI (n:Nat):EntryOk Tryz.prog gl (Av n):=za (kU n) fun xs y h=>na tys_ok (ww n) mixed (hint:=Dz n) (n:=n) Tryz.func49 (Aa (oR n)) (la (φ:=(fun y=>some (Out.ret (qb (.one .bool) y)))) (by kernel_rfl) (N1 n xs.1 xs.2.1 xs.2.2.1 _) h)
def Bv (n:Nat):List Entry:=Av n::Uu n
theorem Gw (n:Nat):AllOk Tryz.prog gl (Bv n):=.cons (mI n) (ww n)
def pR (n:Nat) {R:Type} (id tenant ip:Int) (k:T0→Option R):Option R:=k (id,(tenant,(ip,(((⟨#[]⟩:BA),(false,())),((0:Int),((⟨#[]⟩:BA),(false,(((⟨#[]⟩:BA),((⟨#[]⟩:BA),())),((⟨0,fun _=>ta (.pair .str (.pair .str .unit))⟩:Sq U0),((⟨0,fun _=>ta .str⟩:Sq BA),((0:Int),(false,()))))))))))))
def EX (n:Nat) (id tenant ip:Int):Option T0:=pR n id tenant ip some
theorem oeb (n:Nat) {S:Type}:∀ id tenant ip (φ:_→Option S),(EX n id tenant ip).bind φ=pR n id tenant ip φ:=by
  intros;unfold EX pR;first | (simp only [ja,aa,iB,bB,oL,oX,nB,Option.bind_some]) | rfl
def UM (n:Nat):Hint Out:={ live:=fun c=>[],run:=fun c=>none,xm:=fun c q=>none }
theorem O1 (n:Nat):qa tys (ia Out (Bv n)) (UM n) n (fa Tryz.f50) 0:=ma (fun _=>rfl) _ _ (by kernel_rfl)
theorem X6 (n:Nat):Enters Tryz.prog 50:=enters_of (c:=fa Tryz.f50) Tryz.func50 (by kernel_rfl) (by kernel_rfl)
def YK (n:Nat):Entry:=⟨50,pcT (.pair (.int .i64) (.pair (.int .i64) (.pair (.int .i64) .unit))) (.one K0) (fun xs=>EX n xs.1 xs.2.1 xs.2.2.1),none,none⟩
theorem zV (n:Nat):EntryOk Tryz.prog gl (YK n):=za (X6 n) fun xs y h=>na tys_ok (Gw n) mixed (hint:=UM n) (n:=n) Tryz.func50 (Aa (O1 n)) (la (φ:=(fun y=>some (Out.ret (qb (.one K0) y)))) (by kernel_rfl) (oeb n xs.1 xs.2.1 xs.2.2.1 _) h)
def ZK (n:Nat):List Entry:=YK n::Bv n
theorem nI (n:Nat):AllOk Tryz.prog gl (ZK n):=.cons (zV n) (Gw n)
def Su (n:Nat) {R:Type} (id tenant ip:Int) (k:U3→Option R):Option R:=(ZP n (id,(tenant,(ip,(((⟨#[]⟩:BA),(false,())),((0:Int),((⟨#[]⟩:BA),(false,(((⟨#[]⟩:BA),((⟨#[]⟩:BA),())),((⟨0,fun _=>ta (.pair .str (.pair .str .unit))⟩:Sq U0),((⟨0,fun _=>ta .str⟩:Sq BA),((0:Int),(false,()))))))))))))).bind fun v=>if (!v)=true then k ((0:Int),((0:Int),((0:Int),((⟨#[]⟩:BA),(false,((0:Int),((⟨#[]⟩:BA),(false,((⟨#[]⟩:BA),((⟨#[]⟩:BA),((0:Int),(false,((1:Int),((⟨0,fun _=>ta (.pair .str (.pair .str .unit))⟩:Sq U0),((⟨0,fun _=>ta .str⟩:Sq BA),()))))))))))))))) else k (id,(tenant,(ip,((⟨#[]⟩:BA),(false,((0:Int),((⟨#[]⟩:BA),(false,((⟨#[]⟩:BA),((⟨#[]⟩:BA),((0:Int),(false,((0:Int),((⟨0,fun _=>ta (.pair .str (.pair .str .unit))⟩:Sq U0),((⟨0,fun _=>ta .str⟩:Sq BA),())))))))))))))))
def Fi (n:Nat) (id tenant ip:Int):Option U3:=Su n id tenant ip some
theorem P5 (n:Nat) {S:Type}:∀ id tenant ip (φ:_→Option S),(Fi n id tenant ip).bind φ=Su n id tenant ip φ:=by
  intros;unfold Fi Su;first | (simp only [ja,aa,iB,bB,oL,oX,nB,Option.bind_some]) | rfl
def PC (n:Nat):Hint OutS:={ live:=fun c=>[],run:=fun c=>none,xm:=fun c q=>none,pr:=[(0,10,25),(0,11,9)] }
theorem vT (n:Nat):qa tys (ia OutS (ZK n)).keep (PC n) n (fa Tryz.f41) 0:=ma (fun _=>rfl) _ _ (by kernel_rfl)
theorem GW (n:Nat):Enters Tryz.prog 41:=enters_of (c:=fa Tryz.f41) Tryz.func41 (by kernel_rfl) (by kernel_rfl)
def sy:List RSp:=[.one (.dat (.int .i64)),.one (.dat (.int .i64)),.one (.dat (.int .i64))]
def ry:List RS:=[]
def HW:List Sl:=[.top,.top,.top]
def IW:List RSp:=[.agg [.dat (.int .i64),.dat (.int .i64),.dat (.int .i64),.dat .str,.dat .bool,.dat (.int .i64),.dat .str,.dat .bool,.dat .str,.dat .str,.row 0,.row 1,.dat (.int .i64),.dat .bool],.one (.dat (.int .i64))]
def Hm:List RS:=[.row 25 2 (.pair .str (.pair .str .unit)) true true,.row 9 1 .str true true]
def Tu (y:U3):OutS:=⟨false,bo (Sc Hm (y.2.2.2.2.2.2.2.2.2.2.2.2.2.1,(y.2.2.2.2.2.2.2.2.2.2.2.2.2.2.1,()))) HW (),fG (WC (Sc Hm (y.2.2.2.2.2.2.2.2.2.2.2.2.2.1,(y.2.2.2.2.2.2.2.2.2.2.2.2.2.2.1,()))) IW ((y.1,(y.2.1,(y.2.2.1,(y.2.2.2.1,(y.2.2.2.2.1,(y.2.2.2.2.2.1,(y.2.2.2.2.2.2.1,(y.2.2.2.2.2.2.2.1,(y.2.2.2.2.2.2.2.2.1,(y.2.2.2.2.2.2.2.2.2.1,(y.2.2.2.2.2.2.2.2.2.2.1,(y.2.2.2.2.2.2.2.2.2.2.2.1,())))))))))))),((y.2.2.2.2.2.2.2.2.2.2.2.2.1,()),()))),Fu (Sc Hm (y.2.2.2.2.2.2.2.2.2.2.2.2.2.1,(y.2.2.2.2.2.2.2.2.2.2.2.2.2.2.1,()))) Hm (y.2.2.2.2.2.2.2.2.2.2.2.2.2.1,(y.2.2.2.2.2.2.2.2.2.2.2.2.2.2.1,()))⟩
theorem CM (n:Nat):EntryOk Tryz.prog gl ⟨41,Sf,none,some (csT sy ry (fun σ ρ=>Fi n σ.1.1 σ.2.1.1 σ.2.2.1.1) Tu)⟩:=Be (GW n) fun σ ρ y h=>Vf tys_ok (nI n) mixed (hint:=PC n) (n:=n) Tryz.func41 (Aa (vT n)) (la (φ:=fun y=>some (Tu y)) (by kernel_rfl) (P5 n σ.1.1 σ.2.1.1 σ.2.2.1.1 _) h)
def oy (n:Nat):List Entry:=⟨41,Sf,none,some (csT sy ry (fun σ ρ=>Fi n σ.1.1 σ.2.1.1 σ.2.2.1.1) Tu)⟩::ZK n
theorem qy (n:Nat):AllOk Tryz.prog gl (oy n):=.cons (CM n) (nI n)
def gI (n:Nat) {R:Type} (line:BA) (k:(BA×Bool×Unit)→Option R):Option R:=if (line.toList==(⟨#[46]⟩:BA).toList)=true then k ((⟨#[]⟩:BA),(true,())) else if (decide ((line.size:Int)>(0:Int)))=true then if 0≤(0:Int)∧(0:Int)<(line.size:Int) then if ((bt line (0:Int))==(46:Int))=true then if 0≤(1:Int)∧(1:Int)≤(line.size:Int) then k ((line.extract (Int.toNat (1:Int)) (Int.toNat (line.size:Int))),(false,())) else none else k (line,(false,())) else none else k (line,(false,()))
def SK (n:Nat) (line:BA):Option (BA×Bool×Unit):=gI n line some
theorem leb (n:Nat) {S:Type}:∀ line (φ:_→Option S),(SK n line).bind φ=gI n line φ:=by
  intros;unfold SK gI;first | (simp only [ja,aa,iB,bB,oL,oX,nB,Option.bind_some]) | rfl
def QM (n:Nat):Hint Out:={ live:=fun c=>[],run:=fun c=>none,xm:=fun c q=>none }
theorem H1 (n:Nat):qa tys (ia Out (oy n)) (QM n) n (fa Tryz.f104) 0:=ma (fun _=>rfl) _ _ (by kernel_rfl)
theorem S6 (n:Nat):Enters Tryz.prog 104:=enters_of (c:=fa Tryz.f104) Tryz.func104 (by kernel_rfl) (by kernel_rfl)
def TK (n:Nat):Entry:=⟨104,pcT (.pair .str .unit) (.many (.pair .str (.pair .bool .unit))) (fun xs=>SK n xs.1),none,none⟩
theorem wV (n:Nat):EntryOk Tryz.prog gl (TK n):=za (S6 n) fun xs y h=>na tys_ok (qy n) mixed (hint:=QM n) (n:=n) Tryz.func104 (Aa (H1 n)) (la (φ:=(fun y=>some (Out.ret (qb (.many (.pair .str (.pair .bool .unit))) y)))) (by kernel_rfl) (leb n xs.1 _) h)
def UK (n:Nat):List Entry:=TK n::oy n
theorem iI (n:Nat):AllOk Tryz.prog gl (UK n):=.cons (wV n) (qy n)
def cq (n:Nat) {R:Type} (c c1 c2:Int) (c3:BA) (c4:Bool) (c5:Int) (c6:BA) (c7:Bool) (c8 c9:BA) (c10:Int) (c11:Bool) (l:U9) (r0:(Sq U0)) (r1:(Sq BA)) (k:U14→Option R):Option R:=(SK n l.1).bind fun v=>if (!l.2.1)=true then if v.2.1=true then k ((c,(c1,(c2,((c3,(c4,())),(c5,(c6,(c7,((c8,(c9,())),(r0,(r1,(c10,(c11,())))))))))))),((0:Int),((⟨#[115,101,110,100]⟩:BA),()))) else if c11=true then k ((c,(c1,(c2,((c3,(c4,())),(c5,(c6,(c7,((c8,(c9,())),(r0,(r1,(c10,(c11,())))))))))))),((0:Int),((⟨#[]⟩:BA),()))) else if l.2.1=false then (Um n v.1).bind fun v1=>if (!v1)=false then if (decide ((IntKind.wrap .i64 ((IntKind.wrap .i64 (c10+(v.1.size:Int)))+(2:Int)))>(8192:Int)))=true then k ((c,(c1,(c2,((c3,(c4,())),(c5,(c6,(c7,((c8,(c9,())),(r0,((⟨0,fun _=>ta .str⟩:Sq BA),((0:Int),(true,())))))))))))),((0:Int),((⟨#[]⟩:BA),()))) else if wb (r1.n+1) 16=true then k ((c,(c1,(c2,((c3,(c4,())),(c5,(c6,(c7,((c8,(c9,())),(r0,((⟨(r1.n+1),fun q=>if q<r1.n then r1.at' q else (fun q=>List.getD (α:=BA) [v.1] q (ta .str)) (q - r1.n)⟩:Sq BA),((IntKind.wrap .i64 ((IntKind.wrap .i64 (c10+(v.1.size:Int)))+(2:Int))),(c11,())))))))))))),((0:Int),((⟨#[]⟩:BA),())))
 else none else k ((c,(c1,(c2,((c3,(c4,())),(c5,(c6,(c7,((c8,(c9,())),(r0,((⟨0,fun _=>ta .str⟩:Sq BA),((0:Int),(true,())))))))))))),((0:Int),((⟨#[]⟩:BA),()))) else k ((c,(c1,(c2,((c3,(c4,())),(c5,(c6,(c7,((c8,(c9,())),(r0,((⟨0,fun _=>ta .str⟩:Sq BA),((0:Int),(true,())))))))))))),((0:Int),((⟨#[]⟩:BA),()))) else if c11=true then k ((c,(c1,(c2,((c3,(c4,())),(c5,(c6,(c7,((c8,(c9,())),(r0,(r1,(c10,(c11,())))))))))))),((0:Int),((⟨#[]⟩:BA),()))) else if l.2.1=false then (Um n v.1).bind fun v2=>if (!v2)=false then if (decide ((IntKind.wrap .i64 ((IntKind.wrap .i64 (c10+(v.1.size:Int)))+(2:Int)))>(8192:Int)))=true then k ((c,(c1,(c2,((c3,(c4,())),(c5,(c6,(c7,((c8,(c9,())),(r0,((⟨0,fun _=>ta .str⟩:Sq BA),((0:Int),(true,())))))))))))),((0:Int),((⟨#[]⟩:BA),()))) else if wb (r1.n+1) 16=true then k ((c,(c1,(c2,((c3,(c4,())),(c5,(c6,(c7,((c8,(c9,())),(r0,((⟨(r1.n+1),fun q=>if q<r1.n then r1.at' q else (fun q=>List.getD (α:=BA) [v.1] q (ta .str)) (q - r1.n)⟩:Sq BA),((IntKind.wrap .i64 ((IntKind.wrap .i64 (c10+(v.1.size:Int)))+(2:Int))),(c11,())))))))))))),((0:Int),((⟨#[]⟩:BA),()))) else none else k ((c,(c1,(c2,((c3,(c4,())),(c5,(c6,(c7,((c8,(c9,())),(r0,((⟨0,fun _=>ta .str⟩:Sq BA),((0:Int),(true,())))))))))))),((0:Int),((⟨#[]⟩:BA),())))
 else k ((c,(c1,(c2,((c3,(c4,())),(c5,(c6,(c7,((c8,(c9,())),(r0,((⟨0,fun _=>ta .str⟩:Sq BA),((0:Int),(true,())))))))))))),((0:Int),((⟨#[]⟩:BA),())))
def wi (n:Nat) (c c1 c2:Int) (c3:BA) (c4:Bool) (c5:Int) (c6:BA) (c7:Bool) (c8 c9:BA) (c10:Int) (c11:Bool) (l:U9) (r0:(Sq U0)) (r1:(Sq BA)):Option U14:=cq n c c1 c2 c3 c4 c5 c6 c7 c8 c9 c10 c11 l r0 r1 some
theorem S1 (n:Nat) {S:Type}:∀ c c1 c2 c3 c4 c5 c6 c7 c8 c9 c10 c11 l r0 r1 (φ:_→Option S),(wi n c c1 c2 c3 c4 c5 c6 c7 c8 c9 c10 c11 l r0 r1).bind φ=cq n c c1 c2 c3 c4 c5 c6 c7 c8 c9 c10 c11 l r0 r1 φ:=by
  intros;unfold wi cq;first | (simp only [ja,aa,iB,bB,oL,oX,nB,Option.bind_some]) | rfl
def Ez (n:Nat):Hint OutS:={ live:=fun c=>[],run:=fun c=>none,xm:=fun c q=>none,fz:=true }
theorem yR (n:Nat):qa tys (ia OutS (UK n)) (Ez n) n (fa Tryz.f77) 0:=ma (fun _=>rfl) _ _ (by kernel_rfl)
theorem lU (n:Nat):Enters Tryz.prog 77:=enters_of (c:=fa Tryz.f77) Tryz.func77 (by kernel_rfl) (by kernel_rfl)
def Fv:List RSp:=[.agg [.dat (.int .i64),.dat (.int .i64),.dat (.int .i64),.dat .str,.dat .bool,.dat (.int .i64),.dat .str,.dat .bool,.dat .str,.dat .str,.row 0,.row 1,.dat (.int .i64),.dat .bool],.one (.dat (.pair .str (.pair .bool .unit)))]
def Ev:List RS:=[.row 25 2 (.pair .str (.pair .str .unit)) true false,.row 9 1 .str true false]
def mU:List Sl:=[.top,.top]
def nU:List RSp:=[.one (.dat K0),.one (.dat (.int .i64)),.one (.dat .str)]
def Fk:List RS:=[]
def dq (y:U14):OutS:=⟨false,bo (Sc Fk ()) mU (),fG (WC (Sc Fk ()) nU ((y.1,()),((y.2.1,()),((y.2.2.1,()),())))),Fu (Sc Fk ()) Fk ()⟩
theorem qI (n:Nat):EntryOk Tryz.prog gl ⟨77,Sf,none,some (csT Fv Ev (fun σ ρ=>wi n σ.1.1 σ.1.2.1 σ.1.2.2.1 σ.1.2.2.2.1 σ.1.2.2.2.2.1 σ.1.2.2.2.2.2.1 σ.1.2.2.2.2.2.2.1 σ.1.2.2.2.2.2.2.2.1 σ.1.2.2.2.2.2.2.2.2.1 σ.1.2.2.2.2.2.2.2.2.2.1 σ.1.2.2.2.2.2.2.2.2.2.2.1 σ.1.2.2.2.2.2.2.2.2.2.2.2.1 σ.2.1.1 ρ.1 ρ.2.1) dq)⟩:=Be (lU n) fun σ ρ y h=>Hb tys_ok (iI n) mixed (hint:=Ez n) (n:=n) Tryz.func77 (Aa (yR n)) (la (φ:=fun y=>some (dq y)) (by kernel_rfl) (S1 n σ.1.1 σ.1.2.1 σ.1.2.2.1 σ.1.2.2.2.1 σ.1.2.2.2.2.1 σ.1.2.2.2.2.2.1 σ.1.2.2.2.2.2.2.1 σ.1.2.2.2.2.2.2.2.1 σ.1.2.2.2.2.2.2.2.2.1 σ.1.2.2.2.2.2.2.2.2.2.1 σ.1.2.2.2.2.2.2.2.2.2.2.1 σ.1.2.2.2.2.2.2.2.2.2.2.2.1 σ.2.1.1 ρ.1 ρ.2.1 _) h)
def Dv (n:Nat):List Entry:=⟨77,Sf,none,some (csT Fv Ev (fun σ ρ=>wi n σ.1.1 σ.1.2.1 σ.1.2.2.1 σ.1.2.2.2.1 σ.1.2.2.2.2.1 σ.1.2.2.2.2.2.1 σ.1.2.2.2.2.2.2.1 σ.1.2.2.2.2.2.2.2.1 σ.1.2.2.2.2.2.2.2.2.1 σ.1.2.2.2.2.2.2.2.2.2.1 σ.1.2.2.2.2.2.2.2.2.2.2.1 σ.1.2.2.2.2.2.2.2.2.2.2.2.1 σ.2.1.1 ρ.1 ρ.2.1) dq)⟩::UK n
theorem Iw (n:Nat):AllOk Tryz.prog gl (Dv n):=.cons (qI n) (iI n)
def KR (n:Nat) {R:Type} (kind:Int) (k:BA→Option R):Option R:=if (kind==(1:Int))=true then k (⟨#[72,69,76,79]⟩:BA) else if (kind==(2:Int))=true then k (⟨#[69,72,76,79]⟩:BA) else if (kind==(3:Int))=true then k (⟨#[77,65,73,76]⟩:BA) else if (kind==(4:Int))=true then k (⟨#[82,67,80,84]⟩:BA) else if (kind==(5:Int))=true then k (⟨#[68,65,84,65]⟩:BA) else if (kind==(6:Int))=true then k (⟨#[82,83,69,84]⟩:BA) else if (kind==(7:Int))=true then k (⟨#[78,79,79,80]⟩:BA) else if (kind==(8:Int))=true then k (⟨#[81,85,73,84]⟩:BA) else k (⟨#[86,82,70,89]⟩:BA)
def JR (n:Nat) (kind:Int):Option BA:=KR n kind some
theorem seb (n:Nat) {S:Type}:∀ kind (φ:_→Option S),(JR n kind).bind φ=KR n kind φ:=by
  intros;unfold JR KR;first | (simp only [ja,aa,iB,bB,oL,oX,nB,Option.bind_some]) | rfl
def dN (n:Nat):Hint Out:={ live:=fun c=>[],run:=fun c=>none,xm:=fun c q=>none }
theorem I2 (n:Nat):qa tys (ia Out (Dv n)) (dN n) n (fa Tryz.f106) 0:=ma (fun _=>rfl) _ _ (by kernel_rfl)
theorem s7 (n:Nat):Enters Tryz.prog 106:=enters_of (c:=fa Tryz.f106) Tryz.func106 (by kernel_rfl) (by kernel_rfl)
def dL (n:Nat):Entry:=⟨106,pcT (.pair (.int .i64) .unit) (.one .str) (fun xs=>JR n xs.1),none,none⟩
theorem DV (n:Nat):EntryOk Tryz.prog gl (dL n):=za (s7 n) fun xs y h=>na tys_ok (Iw n) mixed (hint:=dN n) (n:=n) Tryz.func106 (Aa (I2 n)) (la (φ:=(fun y=>some (Out.ret (qb (.one .str) y)))) (by kernel_rfl) (seb n xs.1 _) h)
def cu (n:Nat):List Entry:=dL n::Dv n
theorem OI (n:Nat):AllOk Tryz.prog gl (cu n):=.cons (DV n) (Iw n)
def mg (n:Nat) {R:Type} (i:Int) (b:(Sq Int)) (kn:Int→(Sq Int)→Option R) (ko:((Sq Int))→Option R) (kr:Unit→Option R) (kp:Int→Option R):Option R:=if (decide (i<(b.n:Int)))=true then if 0≤i∧i<(b.n:Int) then if (decide ((b.at' (Int.toNat i))≥(65:Int)))=true then if 0≤i∧i<(b.n:Int) then if (decide ((b.at' (Int.toNat i))≤(90:Int)))=true then if 0≤i∧i<(b.n:Int) then if 0≤i∧i<(b.n:Int) then kn (IntKind.wrap .i64 (i+(1:Int))) (⟨b.n,fun q=>if q=(Int.toNat i)∧q<b.n then (IntKind.wrap .u8 ((b.at' (Int.toNat i))+(32:Int))) else b.at' q⟩:Sq Int) else none else none else kn (IntKind.wrap .i64 (i+(1:Int))) b else none else kn (IntKind.wrap .i64 (i+(1:Int))) b else none else ko b
def Rb (n:Nat):Nat→Int→(Sq Int)→Option (Lx ((Sq Int)) Unit)
 | 0,_,_=>none
 | m+1,i,b=>mg n i b (Rb n m) (fun a=>some (.out a)) (fun a=>some (.ret a)) (fun p=>some (.pan p))
theorem rX (n m:Nat) {S:Type}:∀ i b (φ:_→Option S),(Rb n (m+1) i b).bind φ=mg n i b (fun i b=>(Rb n m i b).bind φ) (fun a=>φ (.out a)) (fun a=>φ (.ret a)) (fun p=>φ (.pan p)):=by
  intros;first | (simp only [Rb,mg,ja,aa,iB,bB,oL,oX,nB,Option.bind_some]) | rfl
def Jr:List Sl:=.top::.top::.top::.row 0::.dat (.int .i64)::tp 30 []
def Ir:List RS:=[.row 5 1 (.int .u8) false true]
def MH:List Sl:=.top::.top::.top::.row 0::tp 31 []
def LH:List RS:=[.row 5 1 (.int .u8) false true]
def We (K:XE→List AV→oa→Option Out):Lx ((Sq Int)) Unit→Option Out:=fun x=>onL x (fun a=>tc MH LH () (a,()) (K (.exit 0))) (fun _=>none) (fun _=>none)
def gB (n:Nat) {R:Type} (s:BA) (k:BA→Option R):Option R:=(Rb n n (0:Int) (⟨s.size,fun q=>bt s q⟩:Sq Int)).bind fun x_1=>onL x_1 (fun a_2=>k (uC a_2.n a_2.at')) (fun _=>none) (fun _=>none)
def Ve (n:Nat) (s:BA):Option BA:=gB n s some
theorem rbb (n:Nat) {S:Type}:∀ s (φ:_→Option S),(Ve n s).bind φ=gB n s φ:=by
  intros;unfold Ve gB;first | (simp only [ja,aa,iB,bB,oL,oX,nB,Option.bind_some]) | rfl
def Mm (n:Nat):Hint Out:={ live:=fun c=>(cond (Nat.beq c 0) [(3,some (.sl (.int .u8))),(4,none)] []),run:=fun c=>(cond (Nat.beq c 0) (some (Zg Jr Ir fun σ ρ K=>(Rb n n σ.1 ρ.1).bind (We K))) none),xm:=fun c q=>(cond (Nat.beq c 0&&Nat.beq (q.getD 1000000) 0&&q.isSome) (some [(3,some (.sl (.int .u8)))]) none) }
def Lm (n:Nat) (K:XE→List AV→oa→Option Out) (m:Nat) (i:Int) (b:(Sq Int)):Option Out:=Nc tys (ia Out (cu n)) (Mm n) n (wa [1,1,0,1,0,0] (fa Tryz.f107)) 0 Jr Ir K m (i,()) (b,())
theorem KH (n:Nat) (K:XE→List AV→oa→Option Out):∀ (m:Nat) i b,Lm n K m i b=(Rb n m i b).bind (We K)
  | 0,_,_=>by kernel_rfl
  | m+1,i,b=>by
    have h1:Lm n K (m+1) i b=mg n i b (Lm n K m) (fun a=>We K (.out a)) (fun a=>We K (.ret a)) (fun p=>We K (.pan p)):=by kernel_rfl
    have h2:Lm n K m=fun i b=>(Rb n m i b).bind (We K):=by
      repeat (refine funext fun _=>?_)
      exact KH n K m _ _
    rw [h1,h2];exact (rX n m _ _ (We K)).symm
theorem ZT (n:Nat):Bc tys (ia Out (cu n)) (Mm n) n (wa [1,1,0,1,0,0] (fa Tryz.f107)) 0:=Ea (sp:=Jr) (rp:=Ir) (by kernel_rfl) fun K σ ρ=>KH n K n σ.1 ρ.1
theorem sX (n:Nat):qa tys (ia Out (cu n)) (Mm n) n (fa Tryz.f107) 0:=⟨trivial,⟨trivial,⟨⟨trivial,⟨ZT n,⟨⟨trivial,⟨trivial,trivial⟩⟩,⟨⟨trivial,⟨trivial,trivial⟩⟩,trivial⟩⟩⟩⟩,⟨trivial,trivial⟩⟩⟩⟩
theorem Z0 (n:Nat):Enters Tryz.prog 107:=enters_of (c:=fa Tryz.f107) Tryz.func107 (by kernel_rfl) (by kernel_rfl)
def uE (n:Nat):Entry:=⟨107,pcT (.pair .str .unit) (.one .str) (fun xs=>Ve n xs.1),none,none⟩
theorem VQ (n:Nat):EntryOk Tryz.prog gl (uE n):=za (Z0 n) fun xs y h=>na tys_ok (OI n) mixed (hint:=Mm n) (n:=n) Tryz.func107 (Aa (sX n)) (la (φ:=(fun y=>some (Out.ret (qb (.one .str) y)))) (by kernel_rfl) (rbb n xs.1 _) h)
def vE (n:Nat):List Entry:=uE n::cu n
theorem cD (n:Nat):AllOk Tryz.prog gl (vE n):=.cons (VQ n) (OI n)
def Jv (n:Nat) {R:Type} (s with0:BA) (k:Bool→Option R):Option R:=if (decide ((s.size:Int)≥(with0.size:Int)))=true then if 0≤(with0.size:Int)∧(with0.size:Int)≤(s.size:Int) then (Ve n (s.extract (Int.toNat (0:Int)) (Int.toNat (with0.size:Int)))).bind fun v=>(Ve n with0).bind fun v1=>k (v.toList==v1.toList) else none else k false
def Vi (n:Nat) (s with0:BA):Option Bool:=Jv n s with0 some
theorem m7 (n:Nat) {S:Type}:∀ s with0 (φ:_→Option S),(Vi n s with0).bind φ=Jv n s with0 φ:=by
  intros;unfold Vi Jv;first | (simp only [ja,aa,iB,bB,oL,oX,nB,Option.bind_some]) | rfl
def AD (n:Nat):Hint Out:={ live:=fun c=>[],run:=fun c=>none,xm:=fun c q=>none }
theorem uU (n:Nat):qa tys (ia Out (vE n)) (AD n) n (fa Tryz.f105) 0:=ma (fun _=>rfl) _ _ (by kernel_rfl)
theorem OX (n:Nat):Enters Tryz.prog 105:=enters_of (c:=fa Tryz.f105) Tryz.func105 (by kernel_rfl) (by kernel_rfl)
def Lz (n:Nat):Entry:=⟨105,pcT (.pair .str (.pair .str .unit)) (.one .bool) (fun xs=>Vi n xs.1 xs.2.1),none,none⟩
theorem bN (n:Nat):EntryOk Tryz.prog gl (Lz n):=za (OX n) fun xs y h=>na tys_ok (cD n) mixed (hint:=AD n) (n:=n) Tryz.func105 (Aa (uU n)) (la (φ:=(fun y=>some (Out.ret (qb (.one .bool) y)))) (by kernel_rfl) (m7 n xs.1 xs.2.1 _) h)
def dl (n:Nat):List Entry:=Lz n::vE n
theorem Mz (n:Nat):AllOk Tryz.prog gl (dl n):=.cons (bN n) (cD n)
def Bb (n:Nat) {R:Type} (s1:BA) (quoted:Bool) (i:Int) (kn:BA→Bool→Int→Option R) (ko:(BA)→Option R) (kr:(Int)→Option R) (kp:Int→Option R):Option R:=if (decide (i<(s1.size:Int)))=true then if quoted=true then if 0≤i∧i<(s1.size:Int) then if ((bt s1 i)==(92:Int))=true then kn s1 quoted (IntKind.wrap .i64 ((IntKind.wrap .i64 (i+(1:Int)))+(1:Int))) else if 0≤i∧i<(s1.size:Int) then if ((bt s1 i)==(34:Int))=true then if 0≤i∧i<(s1.size:Int) then if ((bt s1 i)==(62:Int))=true then if (!(!quoted))=true then kr (IntKind.wrap .i64 (i+(1:Int))) else kn s1 (!quoted) (IntKind.wrap .i64 (i+(1:Int))) else kn s1 (!quoted) (IntKind.wrap .i64 (i+(1:Int))) else none else if 0≤i∧i<(s1.size:Int) then if ((bt s1 i)==(62:Int))=true then if (!quoted)=true then kr (IntKind.wrap .i64 (i+(1:Int))) else kn s1 quoted (IntKind.wrap .i64 (i+(1:Int))) else kn s1 quoted (IntKind.wrap .i64 (i+(1:Int))) else none else none else none else if 0≤i∧i<(s1.size:Int) then if ((bt s1 i)==(34:Int))=true then if 0≤i∧i<(s1.size:Int) then if ((bt s1 i)==(62:Int))=true then if (!(!quoted))=true then kr (IntKind.wrap .i64 (i+(1:Int))) else kn s1 (!quoted) (IntKind.wrap .i64 (i+(1:Int))) else kn s1 (!quoted) (IntKind.wrap .i64 (i+(1:Int))) else none else if 0≤i∧i<(s1.size:Int) then if ((bt s1 i)==(62:Int))=true then
 if (!quoted)=true then kr (IntKind.wrap .i64 (i+(1:Int))) else kn s1 quoted (IntKind.wrap .i64 (i+(1:Int))) else kn s1 quoted (IntKind.wrap .i64 (i+(1:Int))) else none else none else ko s1
def Sa (n:Nat):Nat→BA→Bool→Int→Option (Lx (BA) (Int))
 | 0,_,_,_=>none
 | m+1,s1,quoted,i=>Bb n s1 quoted i (Sa n m) (fun a=>some (.out a)) (fun a=>some (.ret a)) (fun p=>some (.pan p))
theorem MR (n m:Nat) {S:Type}:∀ s1 quoted i (φ:_→Option S),(Sa n (m+1) s1 quoted i).bind φ=Bb n s1 quoted i (fun s1 quoted i=>(Sa n m s1 quoted i).bind φ) (fun a=>φ (.out a)) (fun a=>φ (.ret a)) (fun p=>φ (.pan p)):=by
  intros;first | (simp only [Sa,Bb,ja,aa,iB,bB,oL,oX,nB,Option.bind_some]) | rfl
def Ol:List Sl:=.dat .str::.top::.top::.dat .bool::.dat (.int .i64)::tp 33 []
def Nl:List RS:=[]
def lC:List Sl:=.dat .str::tp 37 []
def kC:List RS:=[]
def nC:List Sl:=.top::.top::.dat (.int .i64)::tp 35 []
def mC:List RS:=[]
def sd (K:XE→List AV→oa→Option Out):Lx (BA) (Int)→Option Out:=fun x=>onL x (fun a=>tc lC kC (a,()) () (K (.exit 0))) (fun a=>tc nC mC (a,()) () (K .ret)) (fun _=>none)
def zq (n:Nat) {R:Type} (s:BA) (k:Int→Option R):Option R:=(Sa n n s false (0:Int)).bind fun x_1=>onL x_1 (fun a_2=>k (a_2.size:Int)) (fun a_3=>k a_3) (fun _=>none)
def Gn (n:Nat) (s:BA):Option Int:=zq n s some
theorem J2 (n:Nat) {S:Type}:∀ s (φ:_→Option S),(Gn n s).bind φ=zq n s φ:=by
  intros;unfold Gn zq;first | (simp only [ja,aa,iB,bB,oL,oX,nB,Option.bind_some]) | rfl
def Yi (n:Nat):Hint Out:={ live:=fun c=>(cond (Nat.beq c 0) (lv [0,3,4]) []),run:=fun c=>(cond (Nat.beq c 0) (some (Zg Ol Nl fun σ ρ K=>(Sa n n σ.1 σ.2.1 σ.2.2.1).bind (sd K))) none),xm:=fun c q=>(cond (Nat.beq c 0&&Nat.beq (q.getD 1000000) 0&&q.isSome) (some [(0,none)]) (cond (Nat.beq c 1&&q.isNone) (some [(2,none)]) none)) }
def Wi (n:Nat) (K:XE→List AV→oa→Option Out) (m:Nat) (s1:BA) (quoted:Bool) (i:Int):Option Out:=Nc tys (ia Out (dl n)) (Yi n) n (wa [1,1,0,1,0,0] (fa Tryz.f108)) 0 Ol Nl K m (s1,(quoted,(i,()))) ()
theorem Oz (n:Nat) (K:XE→List AV→oa→Option Out):∀ (m:Nat) s1 quoted i,Wi n K m s1 quoted i=(Sa n m s1 quoted i).bind (sd K)
  | 0,_,_,_=>by kernel_rfl
  | m+1,s1,quoted,i=>by
    have h1:Wi n K (m+1) s1 quoted i=Bb n s1 quoted i (Wi n K m) (fun a=>sd K (.out a)) (fun a=>sd K (.ret a)) (fun p=>sd K (.pan p)):=by kernel_rfl
    have h2:Wi n K m=fun s1 quoted i=>(Sa n m s1 quoted i).bind (sd K):=by
      repeat (refine funext fun _=>?_)
      exact Oz n K m _ _ _
    rw [h1,h2];exact (MR n m _ _ _ (sd K)).symm
theorem fO (n:Nat):Bc tys (ia Out (dl n)) (Yi n) n (wa [1,1,0,1,0,0] (fa Tryz.f108)) 0:=Ea (sp:=Ol) (rp:=Nl) (by kernel_rfl) fun K σ ρ=>Oz n K n σ.1 σ.2.1 σ.2.2.1
theorem NR (n:Nat):qa tys (ia Out (dl n)) (Yi n) n (fa Tryz.f108) 0:=⟨trivial,⟨trivial,⟨⟨trivial,⟨fO n,⟨⟨trivial,⟨trivial,trivial⟩⟩,⟨⟨⟨trivial,⟨⟨trivial,trivial⟩,trivial⟩⟩,⟨⟨trivial,⟨trivial,trivial⟩⟩,⟨trivial,⟨⟨trivial,trivial⟩,trivial⟩⟩⟩⟩,trivial⟩⟩⟩⟩,⟨trivial,trivial⟩⟩⟩⟩
theorem xU (n:Nat):Enters Tryz.prog 108:=enters_of (c:=fa Tryz.f108) Tryz.func108 (by kernel_rfl) (by kernel_rfl)
def Lv (n:Nat):Entry:=⟨108,pcT (.pair .str .unit) (.one (.int .i64)) (fun xs=>Gn n xs.1),none,none⟩
theorem PI (n:Nat):EntryOk Tryz.prog gl (Lv n):=za (xU n) fun xs y h=>na tys_ok (Mz n) mixed (hint:=Yi n) (n:=n) Tryz.func108 (Aa (NR n)) (la (φ:=(fun y=>some (Out.ret (qb (.one (.int .i64)) y)))) (by kernel_rfl) (J2 n xs.1 _) h)
def Xi (n:Nat):List Entry:=Lv n::dl n
theorem Kw (n:Nat):AllOk Tryz.prog gl (Xi n):=.cons (PI n) (Mz n)
end
end Go.Proofs.YtdohilmgblkppaaGreatDoor.AM
