/- Peers, plainly: a line. -/
import Derived.Test.YtddefjokgaajfaaGreatDoorWP
import Derived.Test.YtddefjokgaajfaaGreatDoorWG
set_option linter.all false
set_option linter.unusedVariables false
set_option linter.unusedSimpArgs false
namespace Go.Proofs.YtddefjokgaajfaaGreatDoor.AM
open Go Go.RowKit
set_option maxRecDepth 100000
set_option maxHeartbeats 1000000
theorem P5 {t:List Int} {v:Bool×List Int×List Int} (h:G7 t=some v):v.2.1.length≤2*t.length+2∧v.2.2.length≤t.length:=by
 unfold G7 at h
 split at h
 · cases h;simp
 · split at h
   · obtain ⟨y,hy,rfl⟩:=Option.map_eq_some_iff.1 h
     unfold T1 at hy
     obtain ⟨x,h1,h2⟩:=Option.bind_eq_some_iff.1 hy
     have hi:(qI t).length≤t.length:=by unfold qI;rw [List.length_drop,List.length_take];omega
     obtain ⟨l1,l2⟩:=eZ h1
     split at h2
     · cases h2
       simp only [List.length_map,List.length_drop]
       omega
     · cases h2
   · cases h
noncomputable def gV (n:Nat) {R:Type} (l:(BA×(Bool×Unit))) (b0:Bool) (b01:(Sq Int)) (b02:BA) (b03:Bool) (b04 b05:BA) (b06:Bool) (b07:BA) (r1 r2:(Sq BA)) (k:(Bool×(Sq Int)×BA×Bool×BA×BA×Bool×BA×(Sq BA)×(Sq BA)×Unit)→Option R):Option R:=
 (Pa n l.1 (⟨#[82,67,80,84,32,84,79,58]⟩:BA)).bind fun v15=>
 if v15=true then
 if 0≤(8:Int)∧(8:Int)≤(l.1.size:Int) then
  (Wa n (l.1.extract (Int.toNat (8:Int)) (Int.toNat (l.1.size:Int))) b0 b01 b02 b03 b04 b05 b06 b07 r1 r2).bind fun v16=>
  k (v16.1,(v16.2.1,(v16.2.2.1,(v16.2.2.2.1,(v16.2.2.2.2.1,(v16.2.2.2.2.2.1,(v16.2.2.2.2.2.2.1,(v16.2.2.2.2.2.2.2.1,(v16.2.2.2.2.2.2.2.2.1,(v16.2.2.2.2.2.2.2.2.2.1,()))))))))))
 else
  none
 else
 if (l.1.toList==(⟨#[68,65,84,65]⟩:BA).toList)=true then
  (mb n b0 b01 b02 b03 b04 b05 b06 b07 r1 r2).bind fun v17=>
  k (v17.1,(v17.2.1,(v17.2.2.1,(v17.2.2.2.1,(v17.2.2.2.2.1,(v17.2.2.2.2.2.1,(v17.2.2.2.2.2.2.1,(v17.2.2.2.2.2.2.2.1,(v17.2.2.2.2.2.2.2.2.1,(v17.2.2.2.2.2.2.2.2.2.1,()))))))))))
 else
  if (l.1.toList==(⟨#[81,85,73,84]⟩:BA).toList)=true then
  (ta n (221:Int) b0 b01 b02 b03 b04 b05 b06 b07 r1 r2).bind fun v18=>
  k (v18.1,(v18.2.1,(v18.2.2.1,(v18.2.2.2.1,(v18.2.2.2.2.1,(v18.2.2.2.2.2.1,(v18.2.2.2.2.2.2.1,(v18.2.2.2.2.2.2.2.1,(v18.2.2.2.2.2.2.2.2.1,(v18.2.2.2.2.2.2.2.2.2.1,()))))))))))
  else
  (ta n (500:Int) b0 b01 b02 b03 b04 b05 b06 b07 r1 r2).bind fun v19=>
  k (v19.1,(v19.2.1,(v19.2.2.1,(v19.2.2.2.1,(v19.2.2.2.2.1,(v19.2.2.2.2.2.1,(v19.2.2.2.2.2.2.1,(v19.2.2.2.2.2.2.2.1,(v19.2.2.2.2.2.2.2.2.1,(v19.2.2.2.2.2.2.2.2.2.1,()))))))))))
noncomputable def JZ (n:Nat) {R:Type} (l:(BA×(Bool×Unit))) (b0:Bool) (b01:(Sq Int)) (b02:Int) (b03:BA) (b04:Bool) (b05:BA) (b06:Bool) (b07:BA) (r1:(Sq (BA×(BA×Unit)))) (r2:(Sq BA)) (k:(BA×Bool×(Sq Int)×Int×BA×Bool×BA×Bool×BA×(Sq (BA×(BA×Unit)))×(Sq BA)×Unit)→Option R):Option R:=
 (db n l.1 (⟨#[82,67,80,84,32,84,79,58]⟩:BA)).bind fun v34=>
 if v34=true then
 if 0≤(8:Int)∧(8:Int)≤(l.1.size:Int) then
  (Fu n (l.1.extract (Int.toNat (8:Int)) (Int.toNat (l.1.size:Int)))).bind fun v35=>
  if (!v35.2.2.1)=false then
  if v35.2.1=true then
   (oa n (500:Int)).bind fun v36=>
   k (v36,(b0,(b01,(b02,(b03,(b04,(b05,(b06,(b07,(r1,(r2,())))))))))))
  else
   (Ha n b0 b01 b02 b03 b04 b05 b06 b07 r1 r2).bind fun v37=>
   if (v37.1==(250:Int))=true then
   dup 1 (
    if Ta (v37.2.2.2.2.2.2.2.2.2.1.n+1) 32=true then
    (oa n v37.1).bind fun v38=>
    k (v38,(v37.2.1,(v37.2.2.1,(v37.2.2.2.1,(v37.2.2.2.2.1,(v37.2.2.2.2.2.1,(v37.2.2.2.2.2.2.1,(v37.2.2.2.2.2.2.2.1,(v37.2.2.2.2.2.2.2.2.1,((⟨(v37.2.2.2.2.2.2.2.2.2.1.n+1),fun q=>if q<v37.2.2.2.2.2.2.2.2.2.1.n then v37.2.2.2.2.2.2.2.2.2.1.at' q else (fun q=>List.getD (α:=(BA×(BA×Unit))) [(v35.1.1,(v35.1.2.1,()))] q (Aa (.pair .str (.pair .str .unit)))) (q - v37.2.2.2.2.2.2.2.2.2.1.n)⟩:Sq (BA×(BA×Unit))),(v37.2.2.2.2.2.2.2.2.2.2.1,())))))))))))
    else
    none)
   else
   (oa n v37.1).bind fun v40=>
   k (v40,(v37.2.1,(v37.2.2.1,(v37.2.2.2.1,(v37.2.2.2.2.1,(v37.2.2.2.2.2.1,(v37.2.2.2.2.2.2.1,(v37.2.2.2.2.2.2.2.1,(v37.2.2.2.2.2.2.2.2.1,(v37.2.2.2.2.2.2.2.2.2.1,(v37.2.2.2.2.2.2.2.2.2.2.1,())))))))))))
  else
  (oa n (500:Int)).bind fun v41=>
  k (v41,(b0,(b01,(b02,(b03,(b04,(b05,(b06,(b07,(r1,(r2,())))))))))))
 else
  none
 else
 if (l.1.toList==(⟨#[68,65,84,65]⟩:BA).toList)=true then
  if ((r1.n:Int)==(0:Int))=true then
  (oa n (503:Int)).bind fun v42=>
  k (v42,(b0,(b01,(b02,(b03,(b04,(b05,(b06,(b07,(r1,(r2,())))))))))))
  else
  (oa n (354:Int)).bind fun v43=>
  k (v43,(b0,(b01,(b02,(b03,(b04,(b05,(true,(b07,(r1,(r2,())))))))))))
 else
  if (l.1.toList==(⟨#[81,85,73,84]⟩:BA).toList)=true then
  (oa n (221:Int)).bind fun v44=>
  k (v44,(b0,(b01,(b02,(b03,(b04,(b05,(b06,(b07,(r1,(r2,())))))))))))
  else
  (oa n (500:Int)).bind fun v45=>
  k (v45,(b0,(b01,(b02,(b03,(b04,(b05,(b06,(b07,(r1,(r2,())))))))))))
structure Rel (L:Nat) (q:Sq Int) (fr tx:BA) (inn:Bool) (out:BA) (to got:Sq BA) (yq:Sq Int) (k:Nat) (bx:Sq Mbx) (got2:Sq BA):Prop where
 hq:QRel q yq k
 hto:pY to bx
 hgot:SqE got got2
 ne:inn=true→1≤bx.n
 b1:k+bx.n≤2*L
 b2:got.n+3*bx.n≤3*L
 b3:out.size+20*bx.n≤40*L
 b4:tx.size≤1000*L
section
variable {L:Nat} {q:Sq Int} {fr tx:BA} {inn:Bool} {out:BA} {to got:Sq BA} {yq:Sq Int} {k:Nat} {bx:Sq Mbx} {got2:Sq BA}
theorem Rel.say (h:Rel L q fr tx inn out to got yq k bx got2) {t:BA} (ht:t.size≤20) {inn':Bool} (hi:inn'=true→1≤bx.n):Rel (L+1) q fr tx inn' (out++t) to got yq k bx got2:=
 ⟨h.hq,h.hto,h.hgot,hi,by have:=h.b1;omega,by have:=h.b2;omega,by have:=h.b3;rw [ByteArray.size_append];omega,by have:=h.b4;omega⟩
theorem Rel.ask (h:Rel L q fr tx inn out to got yq k bx got2) {t:BA} (ht:t.size≤20):Rel (L+1) (uL q) fr tx inn (out++t) to got yq (k+1) bx got2:=
 ⟨h.hq.next,h.hto,h.hgot,h.ne,by have:=h.b1;omega,by have:=h.b2;omega,by have:=h.b3;rw [ByteArray.size_append];omega,by have:=h.b4;omega⟩
theorem Rel.push (h:Rel L q fr tx inn out to got yq k bx got2) {t:BA} (ht:t.size≤20) (b:Mbx) (h1:b.1.size≤100000) (h2:b.2.1.size≤100000):
  Rel (L+1) (uL q) fr tx inn (out++t) (⟨to.n+1,fun q=>if q<to.n then to.at' q else (fun q=>List.getD (α:=BA) [mtx b] q (Aa .str)) (q - to.n)⟩:Sq BA) got yq (k+1) (⟨bx.n+1,fun q=>if q<bx.n then bx.at' q else (fun q=>List.getD (α:=Mbx) [b] q (Aa (.pair .str (.pair .str .unit)))) (q - bx.n)⟩:Sq Mbx) got2:=by
 refine ⟨h.hq.next,⟨by show to.n+1=bx.n+1;rw [h.hto.1],fun i hi=>?_⟩,h.hgot,fun e=>by show 1≤bx.n+1;omega,by have:=h.b1;show k+1+(bx.n+1)≤_;omega,by have:=h.b2;show got.n+3*(bx.n+1)≤_;omega,by have:=h.b3;show _+20*(bx.n+1)≤_;rw [ByteArray.size_append];omega,by have:=h.b4;omega⟩
 have hi:i<bx.n+1:=hi
 show (if i<to.n then to.at' i else List.getD [mtx b] (i - to.n) (Aa .str))=mtx (if i<bx.n then bx.at' i else List.getD [b] (i - bx.n) (Aa (.pair .str (.pair .str .unit))))∧(if i<bx.n then bx.at' i else List.getD [b] (i - bx.n) (Aa (.pair .str (.pair .str .unit)))).1.size≤100000∧(if i<bx.n then bx.at' i else List.getD [b] (i - bx.n) (Aa (.pair .str (.pair .str .unit)))).2.1.size≤100000
 rw [h.hto.1]
 by_cases g:i<bx.n
 · rw [if_pos g,if_pos g];exact h.hto.2 i g
 · rw [if_neg g,if_neg g,show i - bx.n=0 by omega];exact ⟨rfl,h1,h2⟩
end
theorem JP (n:Nat) (s w:BA) (hs:s.size≤1000000) (hw:w.size≤1000000):db n s w=some (decide ((bs s).take w.size=bs w)):=by
 unfold db sg
 by_cases h:w.size≤s.size
 · rw [if_pos (decide_eq_true (by omega)),if_pos ⟨by omega,by omega⟩,ws,Tg]
   rfl
 · have:¬(bs s).take w.size=bs w:=fun e=>by
    have:=congrArg List.length e
    rw [List.length_take,za,za] at this
    omega
   rw [if_neg (by rw [decide_eq_true_iff];omega),decide_eq_false this]
theorem y5 {n:Nat} (h:n≤4000000):Ta (n+1) 32=true:=s7 h
def B8 (L:Nat) (lm:Bool) (re:BA) (sk:Bool) (out:BA) (yq:Sq Int) (re2:BA) (sk2:Bool) (P:Option (Bool×(Sq Int)×BA×Bool×BA×BA×Bool×BA×(Sq BA)×(Sq BA)×Unit)) (R:Option (BA×Bool×(Sq Int)×Int×BA×Bool×BA×Bool×BA×(Sq Mbx)×(Sq BA)×Unit)):Prop:=
 ∃ q fr tx inn o to got k bx got2,P=some (lm,(q,(re,(sk,(fr,(tx,(inn,(out++o,(to,(got,()))))))))))∧R=some (o,(lm,(yq,(((k:Nat):Int),(re2,(sk2,(fr,(inn,(tx,(bx,(got2,())))))))))))∧Rel L q fr tx inn (out++o) to got yq k bx got2
section
variable (L:Nat) (hL:L≤30000) (s:BA) (hs:s.size≤900) (lm:Bool) (q:Sq Int) (re:BA) (sk:Bool) (fr tx out:BA) (to got:Sq BA) (yq:Sq Int) (k:Nat) (re2:BA) (sk2:Bool) (bx:Sq Mbx) (got2:Sq BA)
include hL hs
theorem J7 (h:Rel L q fr tx false out to got yq k bx got2):B8 (L+1) lm re sk out yq re2 sk2 (gV NN (s,(false,())) lm q re sk fr tx false out to got some) (JZ NN (s,(false,())) lm yq (k:Int) re2 sk2 fr false tx bx got2 some):=by
 have b1:=h.b1
 have b2:=h.b2
 have b3:=h.b3
 have hto:=h.hto.1
 have hF:∀ t:BA,t.size≤20→Ca out t=true:=fun t ht=>FN (by omega)
 have say:∀ (c:Int) (t:BA) (inn':Bool),wd NN c=some t→t.size≤20→ta NN c lm q re sk fr tx inn' out to got=some (lm,(q,(re,(sk,(fr,(tx,(inn',(out++t,(to,(got,())))))))))):=fun c t inn' h1 h2=>Y5 lm q re sk fr tx inn' out to got h1 (hF t h2)
 obtain ⟨t5,t51,t52,t53⟩:=Su (c:=500) (.inr (.inr (.inr (.inr ⟨by decide,by decide⟩))))
 have n1:=sn NN s (⟨#[82,67,80,84,32,84,79,58]⟩:BA)
 have n2:=JP NN s (⟨#[82,67,80,84,32,84,79,58]⟩:BA) (by omega) (by decide)
 unfold gV JZ
 cases gp:decide ((bs s).take (⟨#[82,67,80,84,32,84,79,58]⟩:BA).size=bs (⟨#[82,67,80,84,32,84,79,58]⟩:BA)) with
 | true=>
  rw [gp] at n1 n2
  have h8:8≤s.size:=by
   have:=congrArg List.length (of_decide_eq_true gp)
   rw [List.length_take,za,za] at this
   have e8:(⟨#[82,67,80,84,32,84,79,58]⟩:BA).size=8:=rfl
   omega
  have z8:(0:Int)≤8∧(8:Int)≤(s.size:Int):=⟨by decide,by omega⟩
  have tn:Int.toNat (8:Int)=8:=rfl
  have hxs:(s.extract 8 s.size).size≤900:=by rw [ByteArray.size_extract];omega
  have hP:=N4 NN (s.extract 8 s.size) (by omega) (Nat.le_refl _)
  cases hpth:G7 (bs (s.extract 8 s.size)) with
  | none=>
   rw [hpth] at hP
   obtain ⟨p1,p2⟩:=hP
   have b8:((8:Int) !=0)=true:=rfl
   refine ⟨q,fr,tx,false,t5,to,got,k,bx,got2,?_,?_,h.say t53 h.ne⟩
   · simp only [n1,Option.bind_some,Wa,tb,if_true,z8,and_self,tn,Int.toNat_natCast,p2,b8,Bool.true_eq_false,if_false,say 500 t5 false t51 t53]
   · simp only [n2,Option.bind_some,if_true,z8,and_self,tn,Int.toNat_natCast,p1,Bool.not_false,Bool.true_eq_false,if_false,t52]
  | some v=>
   rw [hpth] at hP
   obtain ⟨x1,x2,p1,p2,p3,p4⟩:=hP
   have hl:=P5 hpth
   have b0:((0:Int) !=0)=false:=rfl
   have hx1:x1.size≤100000:=by rw [←za,p3];have:=hl.1;rw [za] at this;omega
   have hx2:x2.size≤100000:=by rw [←za,p4];have:=hl.2;rw [za] at this;omega
   cases hv:v.1 with
   | true=>
    rw [hv] at p1 p2
    refine ⟨q,fr,tx,false,t5,to,got,k,bx,got2,?_,?_,h.say t53 h.ne⟩
    · simp only [n1,Option.bind_some,Wa,tb,if_true,z8,and_self,tn,Int.toNat_natCast,p2,b0,say 500 t5 false t51 t53]
    · simp only [n2,Option.bind_some,if_true,z8,and_self,tn,Int.toNat_natCast,p1,Bool.not_true,t52]
   | false=>
    rw [hv] at p1 p2
    obtain ⟨t,t1,t2,t3⟩:=Su (RK q)
    have A:=L3 lm q re sk fr tx false out to got t1 (hF t t3)
    have B:=HP lm yq k (by omega) re2 sk2 fr false tx bx got2
    rw [h.hq.code] at B
    have LY:=GV NN x1 x2 hx1 hx2
    have f1:=S6 (n:=to.n) (by omega)
    have f2:=y5 (n:=bx.n) (by omega)
    cases g:(aC q==250) with
    | true=>
     rw [g] at A
     refine ⟨uL q,fr,tx,false,t,_,got,k+1,_,got2,?_,?_,h.push t3 (x1,(x2,())) hx1 hx2⟩
     · simp only [n1,Option.bind_some,Wa,tb,if_true,z8,and_self,tn,Int.toNat_natCast,p2,b0,Bool.false_eq_true,if_false,A,LY.1,f1,fa,ba]
       rfl
     · simp only [n2,Option.bind_some,if_true,z8,and_self,tn,Int.toNat_natCast,p1,Bool.not_true,Bool.false_eq_true,if_false,B,g,f2,t2,fa,ba]
    | false=>
     rw [g] at A
     refine ⟨uL q,fr,tx,false,t,to,got,k+1,bx,got2,?_,?_,h.ask t3⟩
     · simp only [n1,Option.bind_some,Wa,tb,if_true,z8,and_self,tn,Int.toNat_natCast,p2,b0,Bool.false_eq_true,if_false,A]
     · simp only [n2,Option.bind_some,if_true,z8,and_self,tn,Int.toNat_natCast,p1,Bool.not_true,Bool.false_eq_true,if_false,B,g,t2]
 | false=>
  rw [gp] at n1 n2
  cases gd:(s.toList==(⟨#[68,65,84,65]⟩:BA).toList) with
  | true=>
   by_cases gn:bx.n=0
   · obtain ⟨t,t1,t2,t3⟩:=Su (c:=503) (.inr (.inr (.inr (.inr ⟨by decide,by decide⟩))))
     have a1:decide ((to.n:Int)>0)=false:=decide_eq_false (by omega)
     have a2:((bx.n:Int)==0)=true:=by rw [gn];rfl
     refine ⟨q,fr,tx,false,t,to,got,k,bx,got2,?_,?_,h.say t3 h.ne⟩
     · simp only [n1,Option.bind_some,Bool.false_eq_true,if_false,gd,if_true,mb,ee,a1,say 503 t false t1 t3]
     · simp only [n2,Option.bind_some,Bool.false_eq_true,if_false,gd,if_true,a2,t2]
   · obtain ⟨t,t1,t2,t3⟩:=Su (c:=354) (.inr (.inl rfl))
     have a1:decide ((to.n:Int)>0)=true:=decide_eq_true (by omega)
     have a2:((bx.n:Int)==0)=false:=by
      have:(bx.n:Int)≠0:=by omega
      simpa using this
     refine ⟨q,fr,tx,true,t,to,got,k,bx,got2,?_,?_,h.say t3 (fun _=>by omega)⟩
     · simp only [n1,Option.bind_some,Bool.false_eq_true,if_false,gd,if_true,mb,ee,a1,say 354 t true t1 t3]
     · simp only [n2,Option.bind_some,Bool.false_eq_true,if_false,gd,if_true,a2,t2]
  | false=>
   cases gq:(s.toList==(⟨#[81,85,73,84]⟩:BA).toList) with
   | true=>
    obtain ⟨t,t1,t2,t3⟩:=Su (c:=221) (.inr (.inr (.inl rfl)))
    refine ⟨q,fr,tx,false,t,to,got,k,bx,got2,?_,?_,h.say t3 h.ne⟩
    · simp only [n1,Option.bind_some,Bool.false_eq_true,if_false,gd,gq,if_true,say 221 t false t1 t3]
    · simp only [n2,Option.bind_some,Bool.false_eq_true,if_false,gd,gq,if_true,t2]
   | false=>
    refine ⟨q,fr,tx,false,t5,to,got,k,bx,got2,?_,?_,h.say t53 h.ne⟩
    · simp only [n1,Option.bind_some,Bool.false_eq_true,if_false,gd,gq,if_true,say 500 t5 false t51 t53]
    · simp only [n2,Option.bind_some,Bool.false_eq_true,if_false,gd,gq,if_true,t52]
end
open Go Go.RowKit
abbrev wE:BA:=⟨#[69,72,76,79,32]⟩
abbrev wL:BA:=⟨#[76,72,76,79,32]⟩
abbrev wM:BA:=⟨#[77,65,73,76,32,70,82,79,77,58,60]⟩
theorem iJ:pY zS zM:=⟨rfl,fun i hi=>absurd hi (Nat.not_lt_zero i)⟩
theorem f7 (lm:Bool) (q:Sq Int) (re:BA) (sk:Bool) (fr tx:BA) (inn:Bool) (out:BA) (to got:Sq BA):Td NN lm q re sk fr tx inn out to got=some (lm,(q,(re,(sk,(eB,(eB,(false,(out,(zS,(got,())))))))))):=rfl
section
variable (L:Nat) (hL:L≤30000) (s:BA) (hs:s.size≤900) (lm:Bool) (q:Sq Int) (re:BA) (sk:Bool) (fr tx out:BA) (to got:Sq BA) (yq:Sq Int) (k:Nat) (re2:BA) (sk2:Bool) (bx:Sq Mbx) (got2:Sq BA)
include hL hs
theorem L1 (h:Rel L q fr tx false out to got yq k bx got2):B8 (L+1) lm re sk out yq re2 sk2 (Ba NN (s,(false,())) lm q re sk fr tx false out to got) (ya NN (s,(false,())) lm yq (k:Int) re2 sk2 fr false tx bx got2):=by
 have b1:=h.b1
 have b2:=h.b2
 have b3:=h.b3
 have b4:=h.b4
 have hF:∀ t:BA,t.size≤20→Ca out t=true:=fun t ht=>FN (by omega)
 have R:=J7 L hL s hs lm q re sk fr tx out to got yq k re2 sk2 bx got2 h
 have p1:=sn NN s wE
 have p2:=sn NN s wL
 have p3:=sn NN s wM
 have r1:=JP NN s wE (by omega) (by decide)
 have r2:=JP NN s wL (by omega) (by decide)
 have r3:=JP NN s wM (by omega) (by decide)
 obtain ⟨t,t1,t2,t3⟩:=Su (c:=250) (.inl rfl)
 have S:=Y5 lm q re sk fr tx false out to got t1 (hF t t3)
 cases g1:decide ((bs s).take wE.size=bs wE) with
 | true=>
  rw [g1] at p1 r1
  refine ⟨q,fr,tx,false,t,to,got,k,bx,got2,?_,?_,h.say t3 h.ne⟩
  · unfold Ba La
    simp only [p1,S,Option.bind_some,Bool.false_eq_true,if_false,if_true]
  · unfold ya Ea
    simp only [r1,t2,Option.bind_some,Bool.false_eq_true,Bool.true_eq_false,if_false,if_true]
 | false=>
  rw [g1] at p1 r1
  cases g2:decide ((bs s).take wL.size=bs wL) with
  | true=>
   rw [g2] at p2 r2
   refine ⟨q,fr,tx,false,t,to,got,k,bx,got2,?_,?_,h.say t3 h.ne⟩
   · unfold Ba La
     simp only [p1,p2,S,Option.bind_some,Bool.false_eq_true,if_false,if_true]
   · unfold ya Ea
     simp only [r1,r2,t2,Option.bind_some,Bool.false_eq_true,Bool.true_eq_false,if_false,if_true]
  | false=>
   rw [g2] at p2 r2
   cases g3:decide ((bs s).take wM.size=bs wM) with
   | false=>
    rw [g3] at p3 r3
    have e1:Ba NN (s,(false,())) lm q re sk fr tx false out to got=gV NN (s,(false,())) lm q re sk fr tx false out to got some:=by
     unfold Ba La
     simp only [p1,p2,p3,Option.bind_some,Bool.false_eq_true,if_false]
     rfl
    have e2:ya NN (s,(false,())) lm yq (k:Int) re2 sk2 fr false tx bx got2=JZ NN (s,(false,())) lm yq (k:Int) re2 sk2 fr false tx bx got2 some:=by
     unfold ya Ea
     simp only [r1,r2,r3,Option.bind_some,Bool.false_eq_true,if_false,if_true]
     rfl
    rw [e1,e2];exact R
   | true=>
    rw [g3] at p3 r3
    have e11:wM.size=11:=rfl
    have h11:11≤s.size:=by
     have:=congrArg List.length (of_decide_eq_true g3)
     rw [List.length_take,za,za] at this
     omega
    have tn:Int.toNat (11:Int)=11:=rfl
    have z11:(0:Int)≤11∧(11:Int)≤(s.size:Int):=⟨by decide,by omega⟩
    have hx:bs (s.extract 11 s.size)=(bs s).drop 11:=by rw [Tg,←za,List.take_length]
    have hsf:=dw NN (s.extract 11 s.size) (⟨#[62]⟩:BA) (by rw [ByteArray.size_extract];omega) (c:=62) rfl
    have w1:IntKind.wrap .i64 ((s.size:Int) - 1)=((s.size - 1:Nat):Int):=by rw [wr (by omega) (by omega)];omega
    by_cases h12:12≤s.size
    · obtain ⟨c,c1,c2⟩:=xL (s:=s) (by omega)
      have hlast:(bs (s.extract 11 s.size)).getLast?=some c:=by
       rw [hx,List.getLast?_drop,if_neg (by rw [za];omega)];exact c1
      rw [hlast] at hsf
      have z12:decide ((s.size:Int)≥12)=true:=decide_eq_true (by omega)
      have zz:(0:Int)≤((s.size - 1:Nat):Int)∧((s.size - 1:Nat):Int)<(s.size:Int):=⟨by omega,by omega⟩
      have zz2:(0:Int)≤((s.size - 1:Nat):Int)∧((s.size - 1:Nat):Int)≤(s.size:Int):=⟨by omega,by omega⟩
      have zz3:(0:Int)≤11∧(11:Int)≤((s.size - 1:Nat):Int):=⟨by decide,by omega⟩
      by_cases gc:c=62
      · have gc1:decide (some c=some (62:Int))=true:=by rw [gc];rfl
        have gc2:(c==62)=true:=by rw [gc];rfl
        rw [gc1] at hsf
        have h0:Rel L q (s.extract 11 (s.size - 1)) eB false out zS got yq k zM got2:=⟨h.hq,iJ,h.hgot,fun e=>(by cases e),by show k+0≤_;omega,by show got.n+3*0≤_;omega,by show out.size+20*0≤_;omega,by show 0≤_;omega⟩
        obtain ⟨u,u1,u2,u3⟩:=Su (RK q)
        have A:=L3 lm q re sk (s.extract 11 (s.size - 1)) eB false out zS got u1 (hF u u3)
        have B:=HP lm yq k (by omega) re2 sk2 (s.extract 11 (s.size - 1)) false eB zM got2
        rw [h.hq.code] at B
        refine ⟨uL q,s.extract 11 (s.size - 1),eB,false,u,zS,got,k+1,zM,got2,?_,?_,h0.ask u3⟩
        · unfold Ba La
          simp only [p1,p2,p3,hsf,tn,z11,w1,zz2,zz3,and_self,Int.toNat_natCast,Sc,pg,f7,A,Option.bind_some,Bool.false_eq_true,if_false,if_true]
        · unfold ya Ea
          simp only [r1,r2,r3,z12,w1,zz,zz2,zz3,c2,gc2,tn,and_self,Int.toNat_natCast,O4,B,u2,Option.bind_some,Bool.false_eq_true,if_false,if_true]
      · have gc1:decide (some c=some (62:Int))=false:=decide_eq_false (fun e=>gc (Option.some.inj e))
        have gc2:(c==62)=false:=by simpa using gc
        rw [gc1] at hsf
        have e1:Ba NN (s,(false,())) lm q re sk fr tx false out to got=gV NN (s,(false,())) lm q re sk fr tx false out to got some:=by
         unfold Ba La
         simp only [p1,p2,p3,hsf,tn,z11,and_self,Int.toNat_natCast,Option.bind_some,Bool.false_eq_true,if_false,if_true]
         unfold gV
         simp only [tn,z11,and_self,Int.toNat_natCast,Option.bind_some,Bool.false_eq_true,if_false,if_true]
        have e2:ya NN (s,(false,())) lm yq (k:Int) re2 sk2 fr false tx bx got2=JZ NN (s,(false,())) lm yq (k:Int) re2 sk2 fr false tx bx got2 some:=by
         unfold ya Ea
         simp only [r1,r2,r3,z12,w1,zz,c2,gc2,and_self,Option.bind_some,Bool.false_eq_true,if_false,if_true]
         rfl
        rw [e1,e2];exact R
    · have hlast:(bs (s.extract 11 s.size)).getLast?=none:=by
       rw [hx,List.drop_eq_nil_of_le (by rw [za];omega)];rfl
      rw [hlast] at hsf
      have gc1:decide ((none:Option Int)=some (62:Int))=false:=rfl
      rw [gc1] at hsf
      have z12:decide ((s.size:Int)≥12)=false:=decide_eq_false (by omega)
      have e1:Ba NN (s,(false,())) lm q re sk fr tx false out to got=gV NN (s,(false,())) lm q re sk fr tx false out to got some:=by
       unfold Ba La
       simp only [p1,p2,p3,hsf,tn,z11,and_self,Int.toNat_natCast,Option.bind_some,Bool.false_eq_true,if_false,if_true]
       unfold gV
       simp only [tn,z11,and_self,Int.toNat_natCast,Option.bind_some,Bool.false_eq_true,if_false,if_true]
      have e2:ya NN (s,(false,())) lm yq (k:Int) re2 sk2 fr false tx bx got2=JZ NN (s,(false,())) lm yq (k:Int) re2 sk2 fr false tx bx got2 some:=by
       unfold ya Ea
       simp only [r1,r2,r3,z12,Option.bind_some,Bool.false_eq_true,if_false,if_true]
       rfl
      rw [e1,e2];exact R
theorem z7 (inn lg:Bool) (h:Rel L q fr tx inn out to got yq k bx got2):B8 (L+1) lm re sk out yq re2 sk2 (Ba NN (s,(lg,())) lm q re sk fr tx inn out to got) (ya NN (s,(lg,())) lm yq (k:Int) re2 sk2 fr inn tx bx got2):=by
 have b1:=h.b1
 have b2:=h.b2
 have b3:=h.b3
 have b4:=h.b4
 have hF:∀ t:BA,t.size≤20→Ca out t=true:=fun t ht=>FN (by omega)
 cases lg with
 | true=>
  obtain ⟨t,t1,t2,t3⟩:=Su (c:=500) (.inr (.inr (.inr (.inr ⟨by decide,by decide⟩))))
  refine ⟨q,fr,tx,inn,t,to,got,k,bx,got2,?_,?_,h.say t3 h.ne⟩
  · unfold Ba La
    simp only [Y5 lm q re sk fr tx inn out to got t1 (hF t t3),Option.bind_some,if_true]
  · unfold ya Ea
    simp only [t2,Option.bind_some,if_true]
 | false=>
  cases inn with
  | false=>exact L1 L hL s hs lm q re sk fr tx out to got yq k re2 sk2 bx got2 h
  | true=>
   obtain ⟨t,last,t1,t2,t3⟩:=SZ NN s
   cases last with
   | true=>
    obtain ⟨q2,k2,o2,h1,h2,i1,i2,i3,i4,i5,i6,i7⟩:=o5 lm to bx h.hto (by omega) (h.ne rfl) re sk fr tx true out (by omega) re2 sk2 true yq q k (by omega) h.hq got got2 h.hgot (by omega)
    refine ⟨q2,eB,eB,false,o2,zS,h1,k2,zM,h2,?_,?_,⟨i3,iJ,i4,fun e=>(by cases e),by show k2+0≤_;omega,by show h1.n+3*0≤_;omega,by show (out++o2).size+20*0≤_;rw [ByteArray.size_append];omega,by show 0≤_;omega⟩⟩
    · unfold Ba La
      simp only [t1,i1,Option.bind_some,Bool.false_eq_true,if_false,if_true]
    · unfold ya Ea
      simp only [t2,i2,Option.bind_some,Bool.false_eq_true,if_false,if_true]
   | false=>
    have ce:ceB.size=2:=rfl
    have f1:Ca t ceB=true:=FN (by omega)
    have f2:Ca tx (t++ceB)=true:=FN (by rw [ByteArray.size_append];omega)
    have f3:Ca tx t=true:=FN (by omega)
    have f4:Ca (tx++t) ceB=true:=FN (by rw [ByteArray.size_append];omega)
    refine ⟨q,fr,tx++(t++ceB),true,eB,to,got,k,bx,got2,?_,?_,⟨h.hq,h.hto,h.hgot,h.ne,by omega,by omega,by rw [eU];omega,by rw [ByteArray.size_append,ByteArray.size_append];omega⟩⟩
    · unfold Ba La
      simp only [t1,f1,f2,Option.bind_some,Bool.false_eq_true,if_false,if_true]
      rw [eU]
    · unfold ya Ea
      simp only [t2,f3,f4,Option.bind_some,Bool.false_eq_true,if_false,if_true]
      rw [tL]
end
open Go Go.RowKit
theorem Rel.mono {L L':Nat} {q:Sq Int} {fr tx:BA} {inn:Bool} {out:BA} {to got:Sq BA} {yq:Sq Int} {k:Nat} {bx:Sq Mbx} {got2:Sq BA} (h:Rel L q fr tx inn out to got yq k bx got2) (hl:L≤L'):Rel L' q fr tx inn out to got yq k bx got2:=
 ⟨h.hq,h.hto,h.hgot,h.ne,by have:=h.b1;omega,by have:=h.b2;omega,by have:=h.b3;omega,by have:=h.b4;omega⟩
theorem PO:∀ (b:List Int) (st:List Int×Bool),Xh st→(∀ x∈(mv st b).2,x.1.length≤900)∧(mv st b).2.length≤b.length
 | [],st,_=>⟨fun x hx=>by simp [mv] at hx,Nat.le_refl _⟩
 | c::r,st,h=>by
  obtain ⟨h1,h2⟩:=PO r _ (UB st c h)
  have one:(∀ x∈(pi st c).2,x.1.length≤900)∧(pi st c).2.length≤1:=by
   unfold pi
   split
   · split<;>simp
   · rename_i hs
     unfold Xh at h
     rw [if_neg hs] at h
     have:=h.2
     split
     · simp;omega
     · split<;>simp
  rw [mv]
  refine ⟨fun x hx=>?_,?_⟩
  · rcases List.mem_append.1 hx with hx | hx
    · exact one.1 x hx
    · exact h1 x hx
  · show ((pi st c).2++(mv (pi st c).1 r).2).length≤_
    rw [List.length_append]
    have:=one.2
    simp only [List.length_cons]
    omega
theorem ZX {re:BA} {sk:Bool} (h:Xh (bs re,sk)):re.size<512:=by
 unfold Xh at h
 rw [←za]
 split at h
 · rcases h with h | h<;>simp only at h<;>rw [h]<;>decide
 · exact h.2
def LnE (l l':Sq Ln):Prop:=l.n=l'.n∧∀ i,i<l.n→(l.at' i).1=(l'.at' i).1∧(l.at' i).2.1=(l'.at' i).2.1∧(l.at' i).1.size≤900
theorem B7 {l l':Sq Ln} (h:sqL lnL l=sqL lnL l') (hs:∀ x∈sqL lnL l,x.1.length≤900):LnE l l':=by
 have hn:l.n=l'.n:=by have:=congrArg List.length h;rwa [Gd,Gd] at this
 refine ⟨hn,fun i hi=>?_⟩
 have h1:=wo (f:=lnL) hi
 have h2:=wo (f:=lnL) (q:=l') (i:=i) (by omega)
 rw [h,h2] at h1
 have e:=Option.some.inj h1
 have e1:bs (l'.at' i).1=bs (l.at' i).1:=congrArg Prod.fst e
 have e2:(l'.at' i).2.1=(l.at' i).2.1:=congrArg Prod.snd e
 refine ⟨(yJ e1).symm,e2.symm,?_⟩
 have:=hs (lnL (l.at' i)) (List.mem_of_getElem? (wo hi))
 rw [←za]
 exact this
section
variable (lm:Bool) (re:BA) (sk:Bool) (yq:Sq Int) (l l':Sq Ln) (hl:LnE l l')
include hl
theorem L4:∀ (d i m m2 L:Nat) (q:Sq Int) (fr tx:BA) (inn:Bool) (out:BA) (to got:Sq BA) (k:Nat) (bx:Sq Mbx) (got2:Sq BA),i+d=l.n→d<m→d<m2→L+d≤30000→l.n≤1000000→Rel L q fr tx inn out to got yq k bx got2→
  ∃ q2 fr2 tx2 inn2 out2 to2 g1 k2 bx2 g2,Ra NN m l (l.n:Int) (i:Int) lm q re sk fr tx inn out to got=some (.out (lm,q2,re,sk,fr2,tx2,inn2,out2,to2,g1))∧
   Ia NN m2 l' out (i:Int) lm yq (k:Int) re sk fr inn tx bx got2=some (.out (out2,lm,yq,((k2:Nat):Int),re,sk,fr2,inn2,tx2,bx2,g2))∧Rel (L+d) q2 fr2 tx2 inn2 out2 to2 g1 yq k2 bx2 g2:=by
 intro d
 induction d with
 | zero=>
  intro i m m2 L q fr tx inn out to got k bx got2 hi hm hm2 hL hn h
  obtain ⟨m,rfl⟩:∃ q,m=q+1:=⟨m - 1,by omega⟩
  obtain ⟨m2,rfl⟩:∃ q,m2=q+1:=⟨m2 - 1,by omega⟩
  have a1:¬((i:Int)<(l.n:Int)):=by omega
  have a2:¬((i:Int)<(l'.n:Int)):=by rw [←hl.1];omega
  refine ⟨q,fr,tx,inn,out,to,got,k,bx,got2,?_,?_,h⟩
  · simp only [Ra,Jc,a1,decide_false,Bool.false_eq_true,if_false]
  · simp only [Ia,qb,a2,decide_false,Bool.false_eq_true,if_false]
 | succ d ih=>
  intro i m m2 L q fr tx inn out to got k bx got2 hi hm hm2 hL hn h
  obtain ⟨m,rfl⟩:∃ q,m=q+1:=⟨m - 1,by omega⟩
  obtain ⟨m2,rfl⟩:∃ q,m2=q+1:=⟨m2 - 1,by omega⟩
  have a0:(0:Int)≤(i:Int):=by omega
  have a1:(i:Int)<(l.n:Int):=by omega
  have a2:(i:Int)<(l'.n:Int):=by rw [←hl.1];omega
  have e1:=wr1 (k:=i) (by omega)
  obtain ⟨x1,x2,x3⟩:=hl.2 i (by omega)
  obtain ⟨q1,fr1,tx1,inn1,o,to1,got1,k1,bx1,got21,i1,i2,i3⟩:=z7 L (by omega) (l.at' i).1 x3 lm q re sk fr tx out to got yq k re sk bx got2 inn (l.at' i).2.1 h
  have b3:=i3.b3
  rw [ByteArray.size_append] at b3
  have hF:Ca out o=true:=FN (by omega)
  obtain ⟨q2,fr2,tx2,inn2,out2,to2,g1,k2,bx2,g2,j1,j2,j3⟩:=ih (i+1) m m2 (L+1) q1 fr1 tx1 inn1 (out++o) to1 got1 k1 bx1 got21 (by omega) (by omega) (by omega) (by omega) hn i3
  refine ⟨q2,fr2,tx2,inn2,out2,to2,g1,k2,bx2,g2,?_,?_,by rw [show L+(d+1)=L+1+d by omega];exact j3⟩
  · simp only [Ra,Jc,a0,a1,decide_true,and_self,if_true,Int.toNat_natCast,i1,Option.bind_some,e1]
    exact j1
  · simp only [Ia,qb,a0,a2,decide_true,and_self,if_true,Int.toNat_natCast,←x1,←x2,i2,Option.bind_some,hF,e1]
    exact j2
end
theorem M4 (lm:Bool) (re:BA) (sk:Bool) (yq:Sq Int) (L:Nat) (q:Sq Int) (fr tx:BA) (inn:Bool) (out:BA) (to got:Sq BA) (k:Nat) (bx:Sq Mbx) (got2:Sq BA) (h:Rel L q fr tx inn out to got yq k bx got2) (hv:Xh (bs re,sk)) (b b':Sq Int) (hb:okB b) (hb':okB b') (he:sqL id b=sqL id b') (hL:L+b.n≤30000):
  ∃ re2 sk2 q2 fr2 tx2 inn2 out2 to2 g1 k2 bx2 g2,Qc NN b lm q re sk fr tx inn out to got=some (out2,(lm,(q2,(re2,(sk2,(fr2,(tx2,(inn2,(out2,(to2,(g1,())))))))))))∧
   wb NN b' lm yq (k:Int) re sk fr inn tx bx got2=some (out2,(lm,(yq,(((k2:Nat):Int),(re2,(sk2,(fr2,(inn2,(tx2,(bx2,(g2,())))))))))))∧Rel (L+b.n) q2 fr2 tx2 inn2 out2 to2 g1 yq k2 bx2 g2∧Xh (bs re2,sk2):=by
 have hs:=ZX hv
 have hn:b.n=b'.n:=by have:=congrArg List.length he;rwa [Gd,Gd] at this
 obtain ⟨r1,s1,l1,p1,p2,p3⟩:=d7 NN re sk b hb (by omega) (Nat.le_refl _) hv
 obtain ⟨r2,s2,l2,f1,f2,f3⟩:=J4 NN re sk b' hb' (by omega) (Nat.le_refl _) hv
 rw [←he] at f2 f3
 obtain ⟨c1,c2⟩:=PO (sqL id b) (bs re,sk) hv
 have hv2:=QO (sqL id b) (bs re,sk) hv
 have er:(bs r2,s2)=(bs r1,s1):=by rw [f2,p2]
 have er1:r2=r1:=yJ (congrArg Prod.fst er)
 have er2:s2=s1:=congrArg Prod.snd er
 subst er1 er2
 rw [←p2] at hv2
 rw [←p3] at c1 c2
 have hl:LnE l1 l2:=B7 (by rw [p3,f3]) c1
 rw [Gd,Gd] at c2
 have b2:=h.b2
 have h0:Rel L q fr tx inn eB to got yq k bx got2:=⟨h.hq,h.hto,h.hgot,h.ne,h.b1,h.b2,by show 0+20*bx.n≤_;omega,h.b4⟩
 obtain ⟨q2,fr2,tx2,inn2,out2,to2,g1,k2,bx2,g2,j1,j2,j3⟩:=L4 lm r2 s2 yq l1 l2 hl l1.n 0 NN NN L q fr tx inn eB to got k bx got2 (by omega) (by show l1.n<10000000;omega) (by show l1.n<10000000;omega) (by omega) (by omega) h0
 rw [show ((0:Nat):Int)=0 from rfl] at j1 j2
 refine ⟨r2,s2,q2,fr2,tx2,inn2,out2,to2,g1,k2,bx2,g2,?_,?_,j3.mono (by omega),hv2⟩
 · unfold Qc jg
   rw [p1,Option.bind_some]
   dsimp only
   rw [j1,Option.bind_some]
   rfl
 · unfold wb nd
   rw [f1,Option.bind_some]
   dsimp only
   rw [j2,Option.bind_some]
   rfl
theorem J8 {n:Nat} (h:n≤4000000):Ta (n+1) 8=true:=by
 unfold Ta
 simp only [Bool.and_eq_true,Nat.ble_eq]
 omega
theorem B0 (a:Sq Int) (hn:a.n≤4000000):∀ (d i m:Nat) (r:Sq Int),i+d=a.n→d<m→r.n=i→(∀ q,q<i→r.at' q=a.at' q)→∃ x,ob NN m a (i:Int) r=some (.out x)∧SqE x a:=by
 intro d
 induction d with
 | zero=>
  intro i m r hi hm hr he
  obtain ⟨m,rfl⟩:∃ q,m=q+1:=⟨m - 1,by omega⟩
  have a1:¬((i:Int)<(a.n:Int)):=by omega
  exact ⟨r,by simp only [ob,Ud,a1,decide_false,Bool.false_eq_true,if_false],⟨by omega,fun j hj=>he j (by omega)⟩⟩
 | succ d ih=>
  intro i m r hi hm hr he
  obtain ⟨m,rfl⟩:∃ q,m=q+1:=⟨m - 1,by omega⟩
  have a0:(0:Int)≤(i:Int):=by omega
  have a1:(i:Int)<(a.n:Int):=by omega
  have e1:=wr1 (k:=i) (by omega)
  have f:=J8 (n:=r.n) (by omega)
  obtain ⟨x,x1,x2⟩:=ih (i+1) m (⟨r.n+1,fun q=>if q<r.n then r.at' q else (fun q=>List.getD (α:=Int) [a.at' i] q (Aa (.int .i64))) (q - r.n)⟩:Sq Int) (by omega) (by omega) (by show r.n+1=i+1;omega) (fun j hj=>by
   show (if j<r.n then r.at' j else List.getD [a.at' i] (j - r.n) (Aa (.int .i64)))=a.at' j
   by_cases g:j<r.n
   · rw [if_pos g];exact he j (by omega)
   · rw [if_neg g,show j - r.n=0 by omega,show j=i by omega];rfl)
  refine ⟨x,?_,x2⟩
  simp only [ob,Ud,a0,a1,decide_true,and_self,if_true,Int.toNat_natCast,f,e1]
  exact x1
theorem C0 (a:Sq Int) (hn:a.n≤4000000):∃ x,Pd NN a=some x∧SqE x a:=by
 obtain ⟨x,h1,h2⟩:=B0 a hn a.n 0 NN (⟨0,fun _=>Aa (.int .i64)⟩:Sq Int) (by omega) (by show a.n<10000000;omega) rfl (fun q hq=>absurd hq (Nat.not_lt_zero q))
 refine ⟨x,?_,h2⟩
 unfold Pd nj
 rw [show ((0:Nat):Int)=0 from rfl] at h1
 rw [h1];rfl
theorem u0 (a:Sq Int) (hn:a.n≤4000000):∀ (d i m:Nat) (r:Sq Int),i+d=a.n→d<m→r.n=i→(∀ q,q<i→r.at' q=a.at' q)→∃ x,Kb NN m a (i:Int) r=some (.out x)∧SqE x a:=by
 intro d
 induction d with
 | zero=>
  intro i m r hi hm hr he
  obtain ⟨m,rfl⟩:∃ q,m=q+1:=⟨m - 1,by omega⟩
  have a1:¬((i:Int)<(a.n:Int)):=by omega
  exact ⟨r,by simp only [Kb,Of,a1,decide_false,Bool.false_eq_true,if_false],⟨by omega,fun j hj=>he j (by omega)⟩⟩
 | succ d ih=>
  intro i m r hi hm hr he
  obtain ⟨m,rfl⟩:∃ q,m=q+1:=⟨m - 1,by omega⟩
  have a0:(0:Int)≤(i:Int):=by omega
  have a1:(i:Int)<(a.n:Int):=by omega
  have e1:=wr1 (k:=i) (by omega)
  have f:=w5 (n:=r.n) (by omega)
  obtain ⟨x,x1,x2⟩:=ih (i+1) m (⟨r.n+1,fun q=>if q<r.n then r.at' q else (fun q=>List.getD (α:=Int) [a.at' i] q (Aa (.int .u8))) (q - r.n)⟩:Sq Int) (by omega) (by omega) (by show r.n+1=i+1;omega) (fun j hj=>by
   show (if j<r.n then r.at' j else List.getD [a.at' i] (j - r.n) (Aa (.int .u8)))=a.at' j
   by_cases g:j<r.n
   · rw [if_pos g];exact he j (by omega)
   · rw [if_neg g,show j - r.n=0 by omega,show j=i by omega];rfl)
  refine ⟨x,?_,x2⟩
  simp only [Kb,Of,a0,a1,decide_true,and_self,if_true,Int.toNat_natCast,f,e1]
  exact x1
theorem x0 (a:Sq Int) (hn:a.n≤4000000):∃ x,lk NN a=some x∧SqE x a:=by
 obtain ⟨x,h1,h2⟩:=u0 a hn a.n 0 NN (⟨0,fun _=>Aa (.int .u8)⟩:Sq Int) (by omega) (by show a.n<10000000;omega) rfl (fun q hq=>absurd hq (Nat.not_lt_zero q))
 refine ⟨x,?_,h2⟩
 unfold lk Vm
 rw [show ((0:Nat):Int)=0 from rfl] at h1
 rw [h1];rfl
theorem Y6 (a b:Sq Int) (h:SqE a b) (hn:a.n≤4000000):∀ (d i m:Nat),i+d=a.n→d<m→Cc NN m a b (i:Int)=some (.out ()):=by
 intro d
 induction d with
 | zero=>
  intro i m hi hm
  obtain ⟨m,rfl⟩:∃ q,m=q+1:=⟨m - 1,by omega⟩
  have a1:¬((i:Int)<(a.n:Int)):=by omega
  simp only [Cc,ci,a1,decide_false,Bool.false_eq_true,if_false]
 | succ d ih=>
  intro i m hi hm
  obtain ⟨m,rfl⟩:∃ q,m=q+1:=⟨m - 1,by omega⟩
  have a0:(0:Int)≤(i:Int):=by omega
  have a1:(i:Int)<(a.n:Int):=by omega
  have a2:(i:Int)<(b.n:Int):=by rw [←h.1];omega
  have e1:=wr1 (k:=i) (by omega)
  have e2:(a.at' i !=b.at' i)=false:=by rw [h.2 i (by omega)];simp
  simp only [Cc,ci,a0,a1,a2,decide_true,and_self,if_true,Int.toNat_natCast,e2,Bool.false_eq_true,if_false,e1]
  exact ih (i+1) m (by omega) (by omega)
theorem Z6 (a b:Sq Int) (h:SqE a b) (hn:a.n≤4000000):tq NN a b=some true:=by
 have h1:=Y6 a b h hn a.n 0 NN (by omega) (by show a.n<10000000;omega)
 rw [show ((0:Nat):Int)=0 from rfl] at h1
 unfold tq kt
 rw [if_neg (by rw [h.1];simp),h1];rfl
def RH (l:Sq (Sq Int)):Nat→Nat
 | 0=>0
 | i+1=>RH l i+(l.at' i).n
theorem zT (l:Sq (Sq Int)):∀ (d i:Nat),RH l i≤RH l (i+d)
 | 0,i=>Nat.le_refl _
 | d+1,i=>Nat.le_trans (zT l d i) (by show _≤RH l (i+d)+_;omega)
theorem H4 (l:Sq (Sq Int)) (hb:∀ i,i<l.n→(l.at' i).n≤140737488351232) (hn:l.n<1048576):∀ (d i m:Nat),i+d=l.n→d<m→l.n+RH l i<1048576+140737488351232→(∀ j,j<i→l.n+RH l j<1048576)→
  ∃ w:Int,Ma NN m l ((l.n+RH l i:Nat):Int) (i:Int)=some (.out w)∧(w≤20000→l.n+RH l l.n≤20000):=by
 intro d
 induction d with
 | zero=>
  intro i m hi hm hz hp
  obtain ⟨m,rfl⟩:∃ q,m=q+1:=⟨m - 1,by omega⟩
  have a1:¬((i:Int)<(l.n:Int)):=by omega
  refine ⟨((l.n+RH l i:Nat):Int),by simp only [Ma,lc,a1,decide_false,Bool.false_eq_true,if_false],fun hw=>?_⟩
  have e:i=l.n:=by omega
  rw [e] at hw
  omega
 | succ d ih=>
  intro i m hi hm hz hp
  obtain ⟨m,rfl⟩:∃ q,m=q+1:=⟨m - 1,by omega⟩
  have a0:(0:Int)≤(i:Int):=by omega
  have a1:(i:Int)<(l.n:Int):=by omega
  have e1:=wr1 (k:=i) (by omega)
  by_cases g:l.n+RH l i<1048576
  · have g1:((l.n+RH l i:Nat):Int)<1048576:=by omega
    have hbi:=hb i (by omega)
    have w1:IntKind.wrap .i64 (((l.n+RH l i:Nat):Int)+((l.at' i).n:Int))=((l.n+RH l (i+1):Nat):Int):=by
     rw [wr (by omega) (by omega)]
     show _=((l.n+(RH l i+(l.at' i).n):Nat):Int)
     omega
    obtain ⟨w,h1,h2⟩:=ih (i+1) m (by omega) (by omega) (by show l.n+(RH l i+(l.at' i).n)<_;omega) (fun j hj=>by
     by_cases e:j=i
     · rw [e];exact g
     · exact hp j (by omega))
    refine ⟨w,?_,h2⟩
    simp only [Ma,lc,a0,a1,g1,decide_true,and_self,if_true,Int.toNat_natCast,w1,e1]
    exact h1
  · have g1:¬(((l.n+RH l i:Nat):Int)<1048576):=by omega
    refine ⟨((l.n+RH l i:Nat):Int),by simp only [Ma,lc,a1,g1,decide_true,decide_false,if_true,Bool.false_eq_true,if_false],fun hw=>by omega⟩
theorem I4 (l:Sq (Sq Int)) (hb:∀ i,i<l.n→(l.at' i).n≤140737488351232):∃ w:Int,Sd NN l=some w∧(w≤20000→l.n+RH l l.n≤20000):=by
 by_cases hn:l.n<1048576
 · obtain ⟨w,h1,h2⟩:=H4 l hb hn l.n 0 NN (by omega) (by show l.n<10000000;omega) (by show l.n+0<_;omega) (fun j hj=>absurd hj (Nat.not_lt_zero j))
   refine ⟨w,?_,h2⟩
   unfold Sd bh
   have h1:Ma NN NN l ((l.n:Nat):Int) 0=some (.out w):=h1
   rw [h1];rfl
 · have a1:(0:Int)<(l.n:Int):=by omega
   have g1:¬((l.n:Int)<1048576):=by omega
   have h1:∀ m,Ma NN (m+1) l (l.n:Int) 0=some (.out (l.n:Int)):=fun m=>by
    simp only [Ma,lc,a1,g1,decide_true,decide_false,if_true,Bool.false_eq_true,if_false]
   have h1:Ma NN NN l (l.n:Int) 0=some (.out (l.n:Int)):=h1 9999999
   refine ⟨(l.n:Int),?_,fun hw=>by omega⟩
   unfold Sd bh
   rw [h1];rfl
section
variable (p1:Bool) (p2:Sq Int) (l:Sq (Sq Int)) (hb:∀ i,i<l.n→okB (l.at' i)) (hw:l.n+RH l l.n≤20000) (lm:Bool) (yq:Sq Int)
include hb hw
theorem G0:∀ (d i m:Nat) (q:Sq Int) (re:BA) (sk:Bool) (fr tx:BA) (inn:Bool) (out:BA) (k:Nat) (to got:Sq BA) (bx:Sq Mbx) (got2:Sq BA),i+d=21→d<m→i≤20→i≤l.n→Rel (RH l i) q fr tx inn out to got yq k bx got2→Xh (bs re,sk)→
  Ga NN m (i:Int) p1 p2 l lm q re sk fr tx inn out lm yq (k:Int) re sk fr inn tx to got bx got2=some (.out ()):=by
 intro d
 induction d with
 | zero=>intro i m q re sk fr tx inn out k to got bx got2 hi hm h20;omega
 | succ d ih=>
  intro i m q re sk fr tx inn out k to got bx got2 hi hm h20 hil h hv
  obtain ⟨m,rfl⟩:∃ q,m=q+1:=⟨m - 1,by omega⟩
  by_cases g:i<l.n
  · have a1:(i:Int)<(l.n:Int):=by omega
    by_cases g2:i<20
    · have a2:(i:Int)<20:=by omega
      have a0:(0:Int)≤(i:Int):=by omega
      have e1:=wr1 (k:=i) (by omega)
      have hsum:RH l i+(l.at' i).n≤20000:=by
       have:=zT l (l.n - (i+1)) (i+1)
       rw [show i+1+(l.n - (i+1))=l.n by omega] at this
       have e:RH l (i+1)=RH l i+(l.at' i).n:=rfl
       omega
      obtain ⟨b,c1,c2⟩:=x0 (l.at' i) (by omega)
      have hbi:=hb i g
      have hbb:okB b:=fun j hj=>by rw [c2.2 j hj];exact hbi j (by rw [←c2.1];exact hj)
      have hbl:sqL id b=sqL id (l.at' i):=by
       unfold sqL
       rw [←c2.1]
       exact List.map_congr_left fun j hj=>by rw [c2.2 j (List.mem_range.1 hj)]
      obtain ⟨re2,sk2,q2,fr2,tx2,inn2,out2,to2,g1,k2,bx2,g2',i1,i2,i3,i4⟩:=M4 lm re sk yq (RH l i) q fr tx inn out to got k bx got2 h hv b (l.at' i) hbb hbi hbl (by rw [c2.1];omega)
      have i3:Rel (RH l (i+1)) q2 fr2 tx2 inn2 out2 to2 g1 yq k2 bx2 g2':=by
       have e:RH l i+b.n=RH l (i+1):=by rw [c2.1];rfl
       rw [←e];exact i3
      have b2:=i3.b2
      have hsl:RH l (i+1)≤20000:=hsum
      have eqs:(!(out2.toList==out2.toList))=false:=by rw [ws];simp
      have cl:sx 16 g1=some (g1,()):=by unfold sx;rw [if_pos (by omega)]
      obtain ⟨x,x1,x2⟩:=qN NN g2' (by rw [←i3.hgot.1];omega) (Nat.le_refl _)
      have gp:Zb NN lm q2 re2 sk2 fr2 tx2 inn2 out2 to2 g1=some (lm,(q2,(re2,(sk2,(fr2,(tx2,(inn2,(out2,(g1,(to2,(g1,()))))))))))):=by
       unfold Zb lh
       rw [cl,Option.bind_some]
      have gr:Hb NN lm yq (k2:Int) re2 sk2 fr2 inn2 tx2 bx2 g2'=some (lm,(yq,((k2:Int),(re2,(sk2,(fr2,(inn2,(tx2,(x,(bx2,(g2',()))))))))))):=by
       unfold Hb xd
       rw [x1,Option.bind_some]
      have es:=mR NN g1 x (i3.hgot.trans x2.symm) (by omega) (Nat.le_refl _)
      have sp:=nY NN g1 (by omega) (Nat.le_refl _)
      have eb:=Z6 b (l.at' i) c2 (by rw [c2.1];omega)
      have:=ih (i+1) m q2 re2 sk2 fr2 tx2 inn2 out2 k2 to2 g1 bx2 g2' (by omega) (by omega) (by omega) (by omega) i3 i4
      simp only [Ga,ub,a0,a1,a2,decide_true,and_self,if_true,Int.toNat_natCast,c1,i1,i2,Option.bind_some,eqs,eb,Bool.not_true,Bool.false_eq_true,if_false,gp,gr,es,sp,e1]
      exact this
    · have a2:¬((i:Int)<20):=by omega
      simp only [Ga,ub,a1,a2,decide_true,decide_false,if_true,Bool.false_eq_true,if_false]
  · have a1:¬((i:Int)<(l.n:Int)):=by omega
    simp only [Ga,ub,a1,decide_false,Bool.false_eq_true,if_false]
end
theorem G1:wd 10000000 220=some (⟨#[50,50,48,32,104,101,114,101,13,10]⟩:BA):=by kernel_rfl
theorem O6:ac 10000000=some true:=by rw [←yC];kernel_rfl
theorem g8 {x:Int} (h:(Lit.int .u8 x).wf=true):0≤x∧x<256:=by
 have h:IntKind.u8.min≤x∧x≤IntKind.u8.max:=by simpa [Lit.wf] using h
 have e1:IntKind.u8.min=0:=by decide
 have e2:IntKind.u8.max=255:=by decide
 rw [e1,e2] at h
 omega
theorem plain_PeerExact (p:Bool×(Sq Int×(Sq (Sq Int)×Unit))) (h:Fit reachBytes K4 p):∃ n,pouchlaw27_PeerExact n p=some true:=⟨10000000,by
 obtain ⟨b,r,l,⟨⟩⟩:=p
 have hB:∀ i,i<l.n→okB (l.at' i)∧(l.at' i).n≤140737488351232:=fun i hi=>by
  have:=h.2.2.1.2 i hi
  exact ⟨fun j hj=>g8 (this.2 j hj),this.1⟩
 unfold pouchlaw27_PeerExact Be
 dsimp only
 by_cases g:r.n>500
 · rw [if_neg (by rw [decide_eq_false_iff_not];omega)]
 · rw [if_pos (decide_eq_false (by omega))]
   obtain ⟨w,w1,w2⟩:=I4 l (fun i hi=>(hB i hi).2)
   have w1:Sd 10000000 l=some w:=w1
   rw [w1,Option.bind_some]
   by_cases gw:w>20000
   · rw [if_pos (decide_eq_true gw)]
   · rw [if_neg (by simpa using gw),fa]
     obtain ⟨v1,c1,c2⟩:=C0 r (by omega)
     have c1:Pd 10000000 r=some v1:=c1
     have n1:fg 10000000 b v1=some (b,(v1,(eB,(false,(eB,(eB,(false,(eB,(zS,(zS,())))))))))):=by
      unfold fg Jp
      have:sx 8 v1=some (v1,()):=by unfold sx;rw [if_pos (by rw [c2.1];omega)]
      rw [this,Option.bind_some]
     have n2:Uc 10000000 b r=some (b,(v1,((0:Int),(eB,(false,(eB,(false,(eB,(zM,(zS,())))))))))):=by
      unfold Uc rg
      rw [c1,Option.bind_some]
     have gr:rb 10000000 b v1 eB false eB eB false eB zS zS=some ((⟨#[50,50,48,32,104,101,114,101,13,10]⟩:BA),(b,(v1,(eB,(false,(eB,(eB,(false,(eB,(zS,(zS,()))))))))))):=by
      unfold rb Se
      rw [G1,Option.bind_some]
     have eg:(!((⟨#[50,50,48,32,104,101,114,101,13,10]⟩:BA).toList==(⟨#[50,50,48,32,104,101,114,101,13,10]⟩:BA).toList))=false:=by rw [ws];rfl
     have h0:Rel (RH l 0) v1 eB eB false eB zS zS v1 0 zM zS:=⟨⟨rfl,fun j hj=>by rw [Nat.zero_add]⟩,iJ,SqE.refl _,fun e=>(by cases e),Nat.le_refl _,Nat.le_refl _,Nat.le_refl _,Nat.zero_le _⟩
     have:=G0 b r l (fun i hi=>(hB i hi).1) (w2 (by omega)) b v1 21 0 NN v1 eB false eB eB false eB 0 zS zS zM zS (by omega) (by decide) (by omega) (Nat.zero_le _) h0 ⟨rfl,by decide⟩
     have this:Ga 10000000 10000000 (0:Int) b r l b v1 eB false eB eB false eB b v1 (0:Int) eB false eB false eB zS zS zM zS=some (.out ()):=this
     simp only [c1,n1,gr,eg,n2,this,onL,Option.bind_some,Bool.false_eq_true,if_false,O6]⟩
end Go.Proofs.YtddefjokgaajfaaGreatDoor.AM
