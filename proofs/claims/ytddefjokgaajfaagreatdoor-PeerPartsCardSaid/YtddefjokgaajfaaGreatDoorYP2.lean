/- Peers, plainly: a line. -/
import Derived.Test.YtddefjokgaajfaaGreatDoorYP
import Derived.Test.YtddefjokgaajfaaGreatDoorYG
set_option linter.all false
set_option linter.unusedVariables false
set_option linter.unusedSimpArgs false
namespace Go.Proofs.YtddefjokgaajfaaGreatDoor.AM
open Go Go.RowKit
set_option maxRecDepth 100000
set_option maxHeartbeats 1000000
theorem S7 {t:List Int} {v:Bool×List Int×List Int} (h:P9 t=some v):v.2.1.length≤2*t.length+2∧v.2.2.length≤t.length:=by
 unfold P9 at h
 split at h
 · cases h;simp
 · split at h
   · obtain ⟨y,hy,rfl⟩:=Option.map_eq_some_iff.1 h
     unfold q5 at hy
     obtain ⟨x,h1,h2⟩:=Option.bind_eq_some_iff.1 hy
     have hi:(AJ t).length≤t.length:=by unfold AJ;rw [List.length_drop,List.length_take];omega
     obtain ⟨l1,l2⟩:=X0 h1
     split at h2
     · cases h2
       simp only [List.length_map,List.length_drop]
       omega
     · cases h2
   · cases h
noncomputable def AW (n:Nat) {R:Type} (l:(BA×(Bool×Unit))) (b0:Bool) (b01:(Sq Int)) (b02:BA) (b03:Bool) (b04 b05:BA) (b06:Bool) (b07:BA) (r1 r2:(Sq BA)) (k:(Bool×(Sq Int)×BA×Bool×BA×BA×Bool×BA×(Sq BA)×(Sq BA)×Unit)→Option R):Option R:=
 (Sa n l.1 (⟨#[82,67,80,84,32,84,79,58]⟩:BA)).bind fun v15=>
 if v15=true then
 if 0≤(8:Int)∧(8:Int)≤(l.1.size:Int) then
  (Za n (l.1.extract (Int.toNat (8:Int)) (Int.toNat (l.1.size:Int))) b0 b01 b02 b03 b04 b05 b06 b07 r1 r2).bind fun v16=>
  k (v16.1,(v16.2.1,(v16.2.2.1,(v16.2.2.2.1,(v16.2.2.2.2.1,(v16.2.2.2.2.2.1,(v16.2.2.2.2.2.2.1,(v16.2.2.2.2.2.2.2.1,(v16.2.2.2.2.2.2.2.2.1,(v16.2.2.2.2.2.2.2.2.2.1,()))))))))))
 else
  none
 else
 if (l.1.toList==(⟨#[68,65,84,65]⟩:BA).toList)=true then
  (zb n b0 b01 b02 b03 b04 b05 b06 b07 r1 r2).bind fun v17=>
  k (v17.1,(v17.2.1,(v17.2.2.1,(v17.2.2.2.1,(v17.2.2.2.2.1,(v17.2.2.2.2.2.1,(v17.2.2.2.2.2.2.1,(v17.2.2.2.2.2.2.2.1,(v17.2.2.2.2.2.2.2.2.1,(v17.2.2.2.2.2.2.2.2.2.1,()))))))))))
 else
  if (l.1.toList==(⟨#[81,85,73,84]⟩:BA).toList)=true then
  (ua n (221:Int) b0 b01 b02 b03 b04 b05 b06 b07 r1 r2).bind fun v18=>
  k (v18.1,(v18.2.1,(v18.2.2.1,(v18.2.2.2.1,(v18.2.2.2.2.1,(v18.2.2.2.2.2.1,(v18.2.2.2.2.2.2.1,(v18.2.2.2.2.2.2.2.1,(v18.2.2.2.2.2.2.2.2.1,(v18.2.2.2.2.2.2.2.2.2.1,()))))))))))
  else
  (ua n (500:Int) b0 b01 b02 b03 b04 b05 b06 b07 r1 r2).bind fun v19=>
  k (v19.1,(v19.2.1,(v19.2.2.1,(v19.2.2.2.1,(v19.2.2.2.2.1,(v19.2.2.2.2.2.1,(v19.2.2.2.2.2.2.1,(v19.2.2.2.2.2.2.2.1,(v19.2.2.2.2.2.2.2.2.1,(v19.2.2.2.2.2.2.2.2.2.1,()))))))))))
noncomputable def P2 (n:Nat) {R:Type} (l:(BA×(Bool×Unit))) (b0:Bool) (b01:(Sq Int)) (b02:Int) (b03:BA) (b04:Bool) (b05:BA) (b06:Bool) (b07:BA) (r1:(Sq (BA×(BA×Unit)))) (r2:(Sq BA)) (k:(BA×Bool×(Sq Int)×Int×BA×Bool×BA×Bool×BA×(Sq (BA×(BA×Unit)))×(Sq BA)×Unit)→Option R):Option R:=
 (lb n l.1 (⟨#[82,67,80,84,32,84,79,58]⟩:BA)).bind fun v34=>
 if v34=true then
 if 0≤(8:Int)∧(8:Int)≤(l.1.size:Int) then
  (Jv n (l.1.extract (Int.toNat (8:Int)) (Int.toNat (l.1.size:Int)))).bind fun v35=>
  if (!v35.2.2.1)=false then
  if v35.2.1=true then
   (oa n (500:Int)).bind fun v36=>
   k (v36,(b0,(b01,(b02,(b03,(b04,(b05,(b06,(b07,(r1,(r2,())))))))))))
  else
   (Ia n b0 b01 b02 b03 b04 b05 b06 b07 r1 r2).bind fun v37=>
   if (v37.1==(250:Int))=true then
   dup 1 (
    if Ta (v37.2.2.2.2.2.2.2.2.2.1.n+1) 32=true then
    (oa n v37.1).bind fun v38=>
    k (v38,(v37.2.1,(v37.2.2.1,(v37.2.2.2.1,(v37.2.2.2.2.1,(v37.2.2.2.2.2.1,(v37.2.2.2.2.2.2.1,(v37.2.2.2.2.2.2.2.1,(v37.2.2.2.2.2.2.2.2.1,((⟨(v37.2.2.2.2.2.2.2.2.2.1.n+1),fun q=>if q<v37.2.2.2.2.2.2.2.2.2.1.n then v37.2.2.2.2.2.2.2.2.2.1.at' q else (fun q=>List.getD (α:=(BA×(BA×Unit))) [(v35.1.1,(v35.1.2.1,()))] q (Ba (.pair .str (.pair .str .unit)))) (q - v37.2.2.2.2.2.2.2.2.2.1.n)⟩:Sq (BA×(BA×Unit))),(v37.2.2.2.2.2.2.2.2.2.2.1,())))))))))))
    else
    none)
   else
   (oa n v37.1).bind fun v40=>
   k (v40,(v37.2.1,(v37.2.2.1,(v37.2.2.2.1,(v37.2.2.2.2.1,(v37.2.2.2.2.2.1,(v37.2.2.2.2.2.2.1,(v37.2.2.2.2.2.2.2.1,(v37.2.2.2.2.2.2.2.2.1,(v37.2.2.2.2.2.2.2.2.2.1,(v37.2.2.2.2.2.2.2.2.2.2.1,())))))))))))
  else
  (oa n (500:Int)).bind fun v41=>
  k (v41,(b0,(b01,(b02,(b03,(b04,(b05,(b06,(b07,(r1,(r2,())))))))))))
 else
  none
 else
 if (l.1.toList==(⟨#[68,65,84,65]⟩:BA).toList)=true then
  if ((r1.n:Int)==(0:Int))=true then
  (oa n (503:Int)).bind fun v42=>
  k (v42,(b0,(b01,(b02,(b03,(b04,(b05,(b06,(b07,(r1,(r2,())))))))))))
  else
  (oa n (354:Int)).bind fun v43=>
  k (v43,(b0,(b01,(b02,(b03,(b04,(b05,(true,(b07,(r1,(r2,())))))))))))
 else
  if (l.1.toList==(⟨#[81,85,73,84]⟩:BA).toList)=true then
  (oa n (221:Int)).bind fun v44=>
  k (v44,(b0,(b01,(b02,(b03,(b04,(b05,(b06,(b07,(r1,(r2,())))))))))))
  else
  (oa n (500:Int)).bind fun v45=>
  k (v45,(b0,(b01,(b02,(b03,(b04,(b05,(b06,(b07,(r1,(r2,())))))))))))
structure Rel (L:Nat) (q:Sq Int) (fr tx:BA) (inn:Bool) (out:BA) (to got:Sq BA) (yq:Sq Int) (k:Nat) (bx:Sq Mbx) (got2:Sq BA):Prop where
 hq:QRel q yq k
 hto:EZ to bx
 hgot:SqE got got2
 ne:inn=true→1≤bx.n
 b1:k+bx.n≤2*L
 b2:got.n+3*bx.n≤3*L
 b3:out.size+20*bx.n≤40*L
 b4:tx.size≤1000*L
 b5:got.n%3=0
section
variable {L:Nat} {q:Sq Int} {fr tx:BA} {inn:Bool} {out:BA} {to got:Sq BA} {yq:Sq Int} {k:Nat} {bx:Sq Mbx} {got2:Sq BA}
theorem Rel.say (h:Rel L q fr tx inn out to got yq k bx got2) {t:BA} (ht:t.size≤20) {inn':Bool} (hi:inn'=true→1≤bx.n):Rel (L+1) q fr tx inn' (out++t) to got yq k bx got2:=
 ⟨h.hq,h.hto,h.hgot,hi,by have:=h.b1;omega,by have:=h.b2;omega,by have:=h.b3;rw [ByteArray.size_append];omega,by have:=h.b4;omega,h.b5⟩
theorem Rel.ask (h:Rel L q fr tx inn out to got yq k bx got2) {t:BA} (ht:t.size≤20):Rel (L+1) (LM q) fr tx inn (out++t) to got yq (k+1) bx got2:=
 ⟨h.hq.next,h.hto,h.hgot,h.ne,by have:=h.b1;omega,by have:=h.b2;omega,by have:=h.b3;rw [ByteArray.size_append];omega,by have:=h.b4;omega,h.b5⟩
theorem Rel.push (h:Rel L q fr tx inn out to got yq k bx got2) {t:BA} (ht:t.size≤20) (b:Mbx) (h1:b.1.size≤100000) (h2:b.2.1.size≤100000):
  Rel (L+1) (LM q) fr tx inn (out++t) (⟨to.n+1,fun q=>if q<to.n then to.at' q else (fun q=>List.getD (α:=BA) [mtx b] q (Ba .str)) (q - to.n)⟩:Sq BA) got yq (k+1) (⟨bx.n+1,fun q=>if q<bx.n then bx.at' q else (fun q=>List.getD (α:=Mbx) [b] q (Ba (.pair .str (.pair .str .unit)))) (q - bx.n)⟩:Sq Mbx) got2:=by
 refine ⟨h.hq.next,⟨by show to.n+1=bx.n+1;rw [h.hto.1],fun i hi=>?_⟩,h.hgot,fun e=>by show 1≤bx.n+1;omega,by have:=h.b1;show k+1+(bx.n+1)≤_;omega,by have:=h.b2;show got.n+3*(bx.n+1)≤_;omega,by have:=h.b3;show _+20*(bx.n+1)≤_;rw [ByteArray.size_append];omega,by have:=h.b4;omega,h.b5⟩
 have hi:i<bx.n+1:=hi
 show (if i<to.n then to.at' i else List.getD [mtx b] (i - to.n) (Ba .str))=mtx (if i<bx.n then bx.at' i else List.getD [b] (i - bx.n) (Ba (.pair .str (.pair .str .unit))))∧(if i<bx.n then bx.at' i else List.getD [b] (i - bx.n) (Ba (.pair .str (.pair .str .unit)))).1.size≤100000∧(if i<bx.n then bx.at' i else List.getD [b] (i - bx.n) (Ba (.pair .str (.pair .str .unit)))).2.1.size≤100000
 rw [h.hto.1]
 by_cases g:i<bx.n
 · rw [if_pos g,if_pos g];exact h.hto.2 i g
 · rw [if_neg g,if_neg g,show i - bx.n=0 by omega];exact ⟨rfl,h1,h2⟩
end
theorem bR (n:Nat) (s w:BA) (hs:s.size≤1000000) (hw:w.size≤1000000):lb n s w=some (decide ((bs s).take w.size=bs w)):=by
 unfold lb Jg
 by_cases h:w.size≤s.size
 · rw [if_pos (decide_eq_true (by omega)),if_pos ⟨by omega,by omega⟩,dx,Ah]
   rfl
 · have:¬(bs s).take w.size=bs w:=fun e=>by
    have:=congrArg List.length e
    rw [List.length_take,za,za] at this
    omega
   rw [if_neg (by rw [decide_eq_true_iff];omega),decide_eq_false this]
theorem B7 {n:Nat} (h:n≤4000000):Ta (n+1) 32=true:=G9 h
def Aab (L:Nat) (lm:Bool) (re:BA) (sk:Bool) (out:BA) (yq:Sq Int) (P:Option (Bool×(Sq Int)×BA×Bool×BA×BA×Bool×BA×(Sq BA)×(Sq BA)×Unit)) (R:BA→Bool→Option (BA×Bool×(Sq Int)×Int×BA×Bool×BA×Bool×BA×(Sq Mbx)×(Sq BA)×Unit)):Prop:=
 ∃ q fr tx inn o to got k bx got2,P=some (lm,(q,(re,(sk,(fr,(tx,(inn,(out++o,(to,(got,()))))))))))∧(∀ (re2:BA) (sk2:Bool),R re2 sk2=some (o,(lm,(yq,(((k:Nat):Int),(re2,(sk2,(fr,(inn,(tx,(bx,(got2,()))))))))))))∧Rel L q fr tx inn (out++o) to got yq k bx got2
section
variable (L:Nat) (hL:L≤30000) (s:BA) (hs:s.size≤900) (lm:Bool) (q:Sq Int) (re:BA) (sk:Bool) (fr tx out:BA) (to got:Sq BA) (yq:Sq Int) (k:Nat) (bx:Sq Mbx) (got2:Sq BA)
include hL hs
theorem S9 (h:Rel L q fr tx false out to got yq k bx got2):Aab (L+1) lm re sk out yq (AW NN (s,(false,())) lm q re sk fr tx false out to got some) (fun re2 sk2=>P2 NN (s,(false,())) lm yq (k:Int) re2 sk2 fr false tx bx got2 some):=by
 have b1:=h.b1
 have b2:=h.b2
 have b3:=h.b3
 have hto:=h.hto.1
 have hF:∀ t:BA,t.size≤20→Ca out t=true:=fun t ht=>WO (by omega)
 have say:∀ (c:Int) (t:BA) (inn':Bool),de NN c=some t→t.size≤20→ua NN c lm q re sk fr tx inn' out to got=some (lm,(q,(re,(sk,(fr,(tx,(inn',(out++t,(to,(got,())))))))))):=fun c t inn' h1 h2=>d8 lm q re sk fr tx inn' out to got h1 (hF t h2)
 obtain ⟨t5,t51,t52,t53⟩:=Wv (c:=500) (.inr (.inr (.inr (.inr ⟨by decide,by decide⟩))))
 have n1:=Wn NN s (⟨#[82,67,80,84,32,84,79,58]⟩:BA)
 have n2:=bR NN s (⟨#[82,67,80,84,32,84,79,58]⟩:BA) (by omega) (by decide)
 unfold AW
 simp only [P2]
 cases gp:decide ((bs s).take (⟨#[82,67,80,84,32,84,79,58]⟩:BA).size=bs (⟨#[82,67,80,84,32,84,79,58]⟩:BA)) with
 | true=>
  rw [gp] at n1 n2
  have h8:8≤s.size:=by
   have:=congrArg List.length (of_decide_eq_true gp)
   rw [List.length_take,za,za] at this
   have e8:(⟨#[82,67,80,84,32,84,79,58]⟩:BA).size=8:=rfl
   omega
  have z8:(0:Int)≤8∧(8:Int)≤(s.size:Int):=⟨by decide,by omega⟩
  have tn:Int.toNat (8:Int)=8:=rfl
  have hxs:(s.extract 8 s.size).size≤900:=by rw [ByteArray.size_extract];omega
  have hP:=T6 NN (s.extract 8 s.size) (by omega) (Nat.le_refl _)
  cases hpth:P9 (bs (s.extract 8 s.size)) with
  | none=>
   rw [hpth] at hP
   obtain ⟨p1,p2⟩:=hP
   have b8:((8:Int) !=0)=true:=rfl
   refine ⟨q,fr,tx,false,t5,to,got,k,bx,got2,?_,fun re2 sk2=>?_,h.say t53 h.ne⟩
   · simp only [n1,Option.bind_some,Za,Bb,if_true,z8,and_self,tn,Int.toNat_natCast,p2,b8,Bool.true_eq_false,if_false,say 500 t5 false t51 t53]
   · simp only [n2,Option.bind_some,if_true,z8,and_self,tn,Int.toNat_natCast,p1,Bool.not_false,Bool.true_eq_false,if_false,t52]
  | some v=>
   rw [hpth] at hP
   obtain ⟨x1,x2,p1,p2,p3,p4⟩:=hP
   have hl:=S7 hpth
   have b0:((0:Int) !=0)=false:=rfl
   have hx1:x1.size≤100000:=by rw [←za,p3];have:=hl.1;rw [za] at this;omega
   have hx2:x2.size≤100000:=by rw [←za,p4];have:=hl.2;rw [za] at this;omega
   cases hv:v.1 with
   | true=>
    rw [hv] at p1 p2
    refine ⟨q,fr,tx,false,t5,to,got,k,bx,got2,?_,fun re2 sk2=>?_,h.say t53 h.ne⟩
    · simp only [n1,Option.bind_some,Za,Bb,if_true,z8,and_self,tn,Int.toNat_natCast,p2,b0,say 500 t5 false t51 t53]
    · simp only [n2,Option.bind_some,if_true,z8,and_self,tn,Int.toNat_natCast,p1,Bool.not_true,t52]
   | false=>
    rw [hv] at p1 p2
    obtain ⟨t,t1,t2,t3⟩:=Wv (eM q)
    have A:=l6 lm q re sk fr tx false out to got t1 (hF t t3)
    have B:∀ (re2:BA) (sk2:Bool),_:=fun re2 sk2=>aR lm yq k (by omega) re2 sk2 fr false tx bx got2
    simp only [h.hq.code] at B
    have LY:=XW NN x1 x2 hx1 hx2
    have f1:=uab (n:=to.n) (by omega)
    have f2:=B7 (n:=bx.n) (by omega)
    cases g:(rD q==250) with
    | true=>
     rw [g] at A
     refine ⟨LM q,fr,tx,false,t,_,got,k+1,_,got2,?_,fun re2 sk2=>?_,h.push t3 (x1,(x2,())) hx1 hx2⟩
     · simp only [n1,Option.bind_some,Za,Bb,if_true,z8,and_self,tn,Int.toNat_natCast,p2,b0,Bool.false_eq_true,if_false,A,LY.1,f1,fa,ba]
       rfl
     · simp only [n2,Option.bind_some,if_true,z8,and_self,tn,Int.toNat_natCast,p1,Bool.not_true,Bool.false_eq_true,if_false,B,g,f2,t2,fa,ba]
    | false=>
     rw [g] at A
     refine ⟨LM q,fr,tx,false,t,to,got,k+1,bx,got2,?_,fun re2 sk2=>?_,h.ask t3⟩
     · simp only [n1,Option.bind_some,Za,Bb,if_true,z8,and_self,tn,Int.toNat_natCast,p2,b0,Bool.false_eq_true,if_false,A]
     · simp only [n2,Option.bind_some,if_true,z8,and_self,tn,Int.toNat_natCast,p1,Bool.not_true,Bool.false_eq_true,if_false,B,g,t2]
 | false=>
  rw [gp] at n1 n2
  cases gd:(s.toList==(⟨#[68,65,84,65]⟩:BA).toList) with
  | true=>
   by_cases gn:bx.n=0
   · obtain ⟨t,t1,t2,t3⟩:=Wv (c:=503) (.inr (.inr (.inr (.inr ⟨by decide,by decide⟩))))
     have a1:decide ((to.n:Int)>0)=false:=decide_eq_false (by omega)
     have a2:((bx.n:Int)==0)=true:=by rw [gn];rfl
     refine ⟨q,fr,tx,false,t,to,got,k,bx,got2,?_,fun re2 sk2=>?_,h.say t3 h.ne⟩
     · simp only [n1,Option.bind_some,Bool.false_eq_true,if_false,gd,if_true,zb,se,a1,say 503 t false t1 t3]
     · simp only [n2,Option.bind_some,Bool.false_eq_true,if_false,gd,if_true,a2,t2]
   · obtain ⟨t,t1,t2,t3⟩:=Wv (c:=354) (.inr (.inl rfl))
     have a1:decide ((to.n:Int)>0)=true:=decide_eq_true (by omega)
     have a2:((bx.n:Int)==0)=false:=by
      have:(bx.n:Int)≠0:=by omega
      simpa using this
     refine ⟨q,fr,tx,true,t,to,got,k,bx,got2,?_,fun re2 sk2=>?_,h.say t3 (fun _=>by omega)⟩
     · simp only [n1,Option.bind_some,Bool.false_eq_true,if_false,gd,if_true,zb,se,a1,say 354 t true t1 t3]
     · simp only [n2,Option.bind_some,Bool.false_eq_true,if_false,gd,if_true,a2,t2]
  | false=>
   cases gq:(s.toList==(⟨#[81,85,73,84]⟩:BA).toList) with
   | true=>
    obtain ⟨t,t1,t2,t3⟩:=Wv (c:=221) (.inr (.inr (.inl rfl)))
    refine ⟨q,fr,tx,false,t,to,got,k,bx,got2,?_,fun re2 sk2=>?_,h.say t3 h.ne⟩
    · simp only [n1,Option.bind_some,Bool.false_eq_true,if_false,gd,gq,if_true,say 221 t false t1 t3]
    · simp only [n2,Option.bind_some,Bool.false_eq_true,if_false,gd,gq,if_true,t2]
   | false=>
    refine ⟨q,fr,tx,false,t5,to,got,k,bx,got2,?_,fun re2 sk2=>?_,h.say t53 h.ne⟩
    · simp only [n1,Option.bind_some,Bool.false_eq_true,if_false,gd,gq,if_true,say 500 t5 false t51 t53]
    · simp only [n2,Option.bind_some,Bool.false_eq_true,if_false,gd,gq,if_true,t52]
end
open Go Go.RowKit
abbrev wE:BA:=⟨#[69,72,76,79,32]⟩
abbrev wL:BA:=⟨#[76,72,76,79,32]⟩
abbrev wM:BA:=⟨#[77,65,73,76,32,70,82,79,77,58,60]⟩
theorem sK:EZ zS zM:=⟨rfl,fun i hi=>absurd hi (Nat.not_lt_zero i)⟩
theorem o9 (lm:Bool) (q:Sq Int) (re:BA) (sk:Bool) (fr tx:BA) (inn:Bool) (out:BA) (to got:Sq BA):be NN lm q re sk fr tx inn out to got=some (lm,(q,(re,(sk,(eB,(eB,(false,(out,(zS,(got,())))))))))):=rfl
section
variable (L:Nat) (hL:L≤30000) (s:BA) (hs:s.size≤900) (lm:Bool) (q:Sq Int) (re:BA) (sk:Bool) (fr tx out:BA) (to got:Sq BA) (yq:Sq Int) (k:Nat) (bx:Sq Mbx) (got2:Sq BA)
include hL hs
theorem X4 (h:Rel L q fr tx false out to got yq k bx got2):Aab (L+1) lm re sk out yq (Aa NN (s,(false,())) lm q re sk fr tx false out to got) (fun re2 sk2=>wa NN (s,(false,())) lm yq (k:Int) re2 sk2 fr false tx bx got2):=by
 have b1:=h.b1
 have b2:=h.b2
 have b3:=h.b3
 have b4:=h.b4
 have hF:∀ t:BA,t.size≤20→Ca out t=true:=fun t ht=>WO (by omega)
 have R:=S9 L hL s hs lm q re sk fr tx out to got yq k bx got2 h
 have p1:=Wn NN s wE
 have p2:=Wn NN s wL
 have p3:=Wn NN s wM
 have r1:=bR NN s wE (by omega) (by decide)
 have r2:=bR NN s wL (by omega) (by decide)
 have r3:=bR NN s wM (by omega) (by decide)
 obtain ⟨t,t1,t2,t3⟩:=Wv (c:=250) (.inl rfl)
 have S:=d8 lm q re sk fr tx false out to got t1 (hF t t3)
 cases g1:decide ((bs s).take wE.size=bs wE) with
 | true=>
  rw [g1] at p1 r1
  refine ⟨q,fr,tx,false,t,to,got,k,bx,got2,?_,fun re2 sk2=>?_,h.say t3 h.ne⟩
  · unfold Aa Ma
    simp only [p1,S,Option.bind_some,Bool.false_eq_true,if_false,if_true]
  · unfold wa Fa
    simp only [r1,t2,Option.bind_some,Bool.false_eq_true,Bool.true_eq_false,if_false,if_true]
 | false=>
  rw [g1] at p1 r1
  cases g2:decide ((bs s).take wL.size=bs wL) with
  | true=>
   rw [g2] at p2 r2
   refine ⟨q,fr,tx,false,t,to,got,k,bx,got2,?_,fun re2 sk2=>?_,h.say t3 h.ne⟩
   · unfold Aa Ma
     simp only [p1,p2,S,Option.bind_some,Bool.false_eq_true,if_false,if_true]
   · unfold wa Fa
     simp only [r1,r2,t2,Option.bind_some,Bool.false_eq_true,Bool.true_eq_false,if_false,if_true]
  | false=>
   rw [g2] at p2 r2
   cases g3:decide ((bs s).take wM.size=bs wM) with
   | false=>
    rw [g3] at p3 r3
    have e1:Aa NN (s,(false,())) lm q re sk fr tx false out to got=AW NN (s,(false,())) lm q re sk fr tx false out to got some:=by
     unfold Aa Ma
     simp only [p1,p2,p3,Option.bind_some,Bool.false_eq_true,if_false]
     rfl
    have e2:(fun (re2:BA) (sk2:Bool)=>wa NN (s,(false,())) lm yq (k:Int) re2 sk2 fr false tx bx got2)=fun re2 sk2=>P2 NN (s,(false,())) lm yq (k:Int) re2 sk2 fr false tx bx got2 some:=by
     funext re2 sk2
     unfold wa Fa
     simp only [r1,r2,r3,Option.bind_some,Bool.false_eq_true,if_false,if_true]
     rfl
    rw [e1,e2];exact R
   | true=>
    rw [g3] at p3 r3
    have e11:wM.size=11:=rfl
    have h11:11≤s.size:=by
     have:=congrArg List.length (of_decide_eq_true g3)
     rw [List.length_take,za,za] at this
     omega
    have tn:Int.toNat (11:Int)=11:=rfl
    have z11:(0:Int)≤11∧(11:Int)≤(s.size:Int):=⟨by decide,by omega⟩
    have hx:bs (s.extract 11 s.size)=(bs s).drop 11:=by rw [Ah,←za,List.take_length]
    have hsf:=lx NN (s.extract 11 s.size) (⟨#[62]⟩:BA) (by rw [ByteArray.size_extract];omega) (c:=62) rfl
    have w1:IntKind.wrap .i64 ((s.size:Int) - 1)=((s.size - 1:Nat):Int):=by rw [wr (by omega) (by omega)];omega
    by_cases h12:12≤s.size
    · obtain ⟨c,c1,c2⟩:=NM (s:=s) (by omega)
      have hlast:(bs (s.extract 11 s.size)).getLast?=some c:=by
       rw [hx,List.getLast?_drop,if_neg (by rw [za];omega)];exact c1
      rw [hlast] at hsf
      have z12:decide ((s.size:Int)≥12)=true:=decide_eq_true (by omega)
      have zz:(0:Int)≤((s.size - 1:Nat):Int)∧((s.size - 1:Nat):Int)<(s.size:Int):=⟨by omega,by omega⟩
      have zz2:(0:Int)≤((s.size - 1:Nat):Int)∧((s.size - 1:Nat):Int)≤(s.size:Int):=⟨by omega,by omega⟩
      have zz3:(0:Int)≤11∧(11:Int)≤((s.size - 1:Nat):Int):=⟨by decide,by omega⟩
      by_cases gc:c=62
      · have gc1:decide (some c=some (62:Int))=true:=by rw [gc];rfl
        have gc2:(c==62)=true:=by rw [gc];rfl
        rw [gc1] at hsf
        have h0:Rel L q (s.extract 11 (s.size - 1)) eB false out zS got yq k zM got2:=⟨h.hq,sK,h.hgot,fun e=>(by cases e),by show k+0≤_;omega,by show got.n+3*0≤_;omega,by show out.size+20*0≤_;omega,by show 0≤_;omega,h.b5⟩
        obtain ⟨u,u1,u2,u3⟩:=Wv (eM q)
        have A:=l6 lm q re sk (s.extract 11 (s.size - 1)) eB false out zS got u1 (hF u u3)
        have B:∀ (re2:BA) (sk2:Bool),_:=fun re2 sk2=>aR lm yq k (by omega) re2 sk2 (s.extract 11 (s.size - 1)) false eB zM got2
        simp only [h.hq.code] at B
        refine ⟨LM q,s.extract 11 (s.size - 1),eB,false,u,zS,got,k+1,zM,got2,?_,fun re2 sk2=>?_,h0.ask u3⟩
        · unfold Aa Ma
          simp only [p1,p2,p3,hsf,tn,z11,w1,zz2,zz3,and_self,Int.toNat_natCast,cd,Hg,o9,A,Option.bind_some,Bool.false_eq_true,if_false,if_true]
        · unfold wa Fa
          simp only [r1,r2,r3,z12,w1,zz,zz2,zz3,c2,gc2,tn,and_self,Int.toNat_natCast,W6,B,u2,Option.bind_some,Bool.false_eq_true,if_false,if_true]
      · have gc1:decide (some c=some (62:Int))=false:=decide_eq_false (fun e=>gc (Option.some.inj e))
        have gc2:(c==62)=false:=by simpa using gc
        rw [gc1] at hsf
        have e1:Aa NN (s,(false,())) lm q re sk fr tx false out to got=AW NN (s,(false,())) lm q re sk fr tx false out to got some:=by
         unfold Aa Ma
         simp only [p1,p2,p3,hsf,tn,z11,and_self,Int.toNat_natCast,Option.bind_some,Bool.false_eq_true,if_false,if_true]
         unfold AW
         simp only [tn,z11,and_self,Int.toNat_natCast,Option.bind_some,Bool.false_eq_true,if_false,if_true]
        have e2:(fun (re2:BA) (sk2:Bool)=>wa NN (s,(false,())) lm yq (k:Int) re2 sk2 fr false tx bx got2)=fun re2 sk2=>P2 NN (s,(false,())) lm yq (k:Int) re2 sk2 fr false tx bx got2 some:=by
         funext re2 sk2
         unfold wa Fa
         simp only [r1,r2,r3,z12,w1,zz,c2,gc2,and_self,Option.bind_some,Bool.false_eq_true,if_false,if_true]
         rfl
        rw [e1,e2];exact R
    · have hlast:(bs (s.extract 11 s.size)).getLast?=none:=by
       rw [hx,List.drop_eq_nil_of_le (by rw [za];omega)];rfl
      rw [hlast] at hsf
      have gc1:decide ((none:Option Int)=some (62:Int))=false:=rfl
      rw [gc1] at hsf
      have z12:decide ((s.size:Int)≥12)=false:=decide_eq_false (by omega)
      have e1:Aa NN (s,(false,())) lm q re sk fr tx false out to got=AW NN (s,(false,())) lm q re sk fr tx false out to got some:=by
       unfold Aa Ma
       simp only [p1,p2,p3,hsf,tn,z11,and_self,Int.toNat_natCast,Option.bind_some,Bool.false_eq_true,if_false,if_true]
       unfold AW
       simp only [tn,z11,and_self,Int.toNat_natCast,Option.bind_some,Bool.false_eq_true,if_false,if_true]
      have e2:(fun (re2:BA) (sk2:Bool)=>wa NN (s,(false,())) lm yq (k:Int) re2 sk2 fr false tx bx got2)=fun re2 sk2=>P2 NN (s,(false,())) lm yq (k:Int) re2 sk2 fr false tx bx got2 some:=by
       funext re2 sk2
       unfold wa Fa
       simp only [r1,r2,r3,z12,Option.bind_some,Bool.false_eq_true,if_false,if_true]
       rfl
      rw [e1,e2];exact R
theorem B6 (inn lg:Bool) (h:Rel L q fr tx inn out to got yq k bx got2):Aab (L+1) lm re sk out yq (Aa NN (s,(lg,())) lm q re sk fr tx inn out to got) (fun re2 sk2=>wa NN (s,(lg,())) lm yq (k:Int) re2 sk2 fr inn tx bx got2):=by
 have b1:=h.b1
 have b2:=h.b2
 have b3:=h.b3
 have b4:=h.b4
 have hF:∀ t:BA,t.size≤20→Ca out t=true:=fun t ht=>WO (by omega)
 cases lg with
 | true=>
  obtain ⟨t,t1,t2,t3⟩:=Wv (c:=500) (.inr (.inr (.inr (.inr ⟨by decide,by decide⟩))))
  refine ⟨q,fr,tx,inn,t,to,got,k,bx,got2,?_,fun re2 sk2=>?_,h.say t3 h.ne⟩
  · unfold Aa Ma
    simp only [d8 lm q re sk fr tx inn out to got t1 (hF t t3),Option.bind_some,if_true]
  · unfold wa Fa
    simp only [t2,Option.bind_some,if_true]
 | false=>
  cases inn with
  | false=>exact X4 L hL s hs lm q re sk fr tx out to got yq k bx got2 h
  | true=>
   obtain ⟨t,last,t1,t2,t3⟩:=F3 NN s
   cases last with
   | true=>
    obtain ⟨q2,k2,o2,h1,h2,i1,i2,i3,i4,i5,i6,i7,i8⟩:=w7 lm to bx h.hto (by omega) (h.ne rfl) re sk fr tx true out (by omega) yq q k (by omega) h.hq got got2 h.hgot (by omega)
    refine ⟨q2,eB,eB,false,o2,zS,h1,k2,zM,h2,?_,fun re2 sk2=>?_,⟨i3,sK,i4,fun e=>(by cases e),by show k2+0≤_;omega,by show h1.n+3*0≤_;omega,by show (out++o2).size+20*0≤_;rw [ByteArray.size_append];omega,by show 0≤_;omega,by rw [i8];exact h.b5⟩⟩
    · unfold Aa Ma
      simp only [t1,i1,Option.bind_some,Bool.false_eq_true,if_false,if_true]
    · unfold wa Fa
      simp only [t2,i2,Option.bind_some,Bool.false_eq_true,if_false,if_true]
   | false=>
    have ce:ceB.size=2:=rfl
    have f1:Ca t ceB=true:=WO (by omega)
    have f2:Ca tx (t++ceB)=true:=WO (by rw [ByteArray.size_append];omega)
    have f3:Ca tx t=true:=WO (by omega)
    have f4:Ca (tx++t) ceB=true:=WO (by rw [ByteArray.size_append];omega)
    refine ⟨q,fr,tx++(t++ceB),true,eB,to,got,k,bx,got2,?_,fun re2 sk2=>?_,⟨h.hq,h.hto,h.hgot,h.ne,by omega,by omega,by rw [KM];omega,by rw [ByteArray.size_append,ByteArray.size_append];omega,h.b5⟩⟩
    · unfold Aa Ma
      simp only [t1,f1,f2,Option.bind_some,Bool.false_eq_true,if_false,if_true]
      rw [KM]
    · unfold wa Fa
      simp only [t2,f3,f4,Option.bind_some,Bool.false_eq_true,if_false,if_true]
      rw [iw]
end
open Go Go.RowKit
theorem Rel.mono {L L':Nat} {q:Sq Int} {fr tx:BA} {inn:Bool} {out:BA} {to got:Sq BA} {yq:Sq Int} {k:Nat} {bx:Sq Mbx} {got2:Sq BA} (h:Rel L q fr tx inn out to got yq k bx got2) (hl:L≤L'):Rel L' q fr tx inn out to got yq k bx got2:=
 ⟨h.hq,h.hto,h.hgot,h.ne,by have:=h.b1;omega,by have:=h.b2;omega,by have:=h.b3;omega,by have:=h.b4;omega,h.b5⟩
theorem iQ:∀ (b:List Int) (st:List Int×Bool),Wi st→(∀ x∈(zg st b).2,x.1.length≤900)∧(zg st b).2.length≤b.length
 | [],st,_=>⟨fun x hx=>by simp [zg] at hx,Nat.le_refl _⟩
 | c::r,st,h=>by
  obtain ⟨h1,h2⟩:=iQ r _ (rK st c h)
  have one:(∀ x∈(cx st c).2,x.1.length≤900)∧(cx st c).2.length≤1:=by
   unfold cx
   split
   · split<;>simp
   · rename_i hs
     unfold Wi at h
     rw [if_neg hs] at h
     have:=h.2
     split
     · simp;omega
     · split<;>simp
  rw [zg]
  refine ⟨fun x hx=>?_,?_⟩
  · rcases List.mem_append.1 hx with hx | hx
    · exact one.1 x hx
    · exact h1 x hx
  · show ((cx st c).2++(zg (cx st c).1 r).2).length≤_
    rw [List.length_append]
    have:=one.2
    simp only [List.length_cons]
    omega
theorem rZ {re:BA} {sk:Bool} (h:Wi (bs re,sk)):re.size<512:=by
 unfold Wi at h
 rw [←za]
 split at h
 · rcases h with h | h<;>simp only at h<;>rw [h]<;>decide
 · exact h.2
def LnE (l l':Sq Ln):Prop:=l.n=l'.n∧∀ i,i<l.n→(l.at' i).1=(l'.at' i).1∧(l.at' i).2.1=(l'.at' i).2.1∧(l.at' i).1.size≤900
section
variable (lm:Bool) (re:BA) (sk:Bool) (yq:Sq Int) (l l':Sq Ln) (hl:LnE l l')
include hl
end
def lD (l:Sq (Sq Int)):Nat→Nat
 | 0=>0
 | i+1=>lD l i+(l.at' i).n
theorem UU (l:Sq (Sq Int)):∀ (d i:Nat),lD l i≤lD l (i+d)
 | 0,i=>Nat.le_refl _
 | d+1,i=>Nat.le_trans (UU l d i) (by show _≤lD l (i+d)+_;omega)
theorem R6 (l:Sq (Sq Int)) (hb:∀ i,i<l.n→(l.at' i).n≤140737488351232) (hn:l.n<1048576):∀ (d i m:Nat),i+d=l.n→d<m→l.n+lD l i<1048576+140737488351232→(∀ j,j<i→l.n+lD l j<1048576)→
  ∃ w:Int,Na NN m l ((l.n+lD l i:Nat):Int) (i:Int)=some (.out w)∧(w≤20000→l.n+lD l l.n≤20000):=by
 intro d
 induction d with
 | zero=>
  intro i m hi hm hz hp
  obtain ⟨m,rfl⟩:∃ q,m=q+1:=⟨m - 1,by omega⟩
  have a1:¬((i:Int)<(l.n:Int)):=by omega
  refine ⟨((l.n+lD l i:Nat):Int),by simp only [Na,vc,a1,decide_false,Bool.false_eq_true,if_false],fun hw=>?_⟩
  have e:i=l.n:=by omega
  rw [e] at hw
  omega
 | succ d ih=>
  intro i m hi hm hz hp
  obtain ⟨m,rfl⟩:∃ q,m=q+1:=⟨m - 1,by omega⟩
  have a0:(0:Int)≤(i:Int):=by omega
  have a1:(i:Int)<(l.n:Int):=by omega
  have e1:=wr1 (k:=i) (by omega)
  by_cases g:l.n+lD l i<1048576
  · have g1:((l.n+lD l i:Nat):Int)<1048576:=by omega
    have hbi:=hb i (by omega)
    have w1:IntKind.wrap .i64 (((l.n+lD l i:Nat):Int)+((l.at' i).n:Int))=((l.n+lD l (i+1):Nat):Int):=by
     rw [wr (by omega) (by omega)]
     show _=((l.n+(lD l i+(l.at' i).n):Nat):Int)
     omega
    obtain ⟨w,h1,h2⟩:=ih (i+1) m (by omega) (by omega) (by show l.n+(lD l i+(l.at' i).n)<_;omega) (fun j hj=>by
     by_cases e:j=i
     · rw [e];exact g
     · exact hp j (by omega))
    refine ⟨w,?_,h2⟩
    simp only [Na,vc,a0,a1,g1,decide_true,and_self,if_true,Int.toNat_natCast,w1,e1]
    exact h1
  · have g1:¬(((l.n+lD l i:Nat):Int)<1048576):=by omega
    refine ⟨((l.n+lD l i:Nat):Int),by simp only [Na,vc,a1,g1,decide_true,decide_false,if_true,Bool.false_eq_true,if_false],fun hw=>by omega⟩
theorem S6 (l:Sq (Sq Int)) (hb:∀ i,i<l.n→(l.at' i).n≤140737488351232):∃ w:Int,ae NN l=some w∧(w≤20000→l.n+lD l l.n≤20000):=by
 by_cases hn:l.n<1048576
 · obtain ⟨w,h1,h2⟩:=R6 l hb hn l.n 0 NN (by omega) (by show l.n<10000000;omega) (by show l.n+0<_;omega) (fun j hj=>absurd hj (Nat.not_lt_zero j))
   refine ⟨w,?_,h2⟩
   unfold ae rh
   have h1:Na NN NN l ((l.n:Nat):Int) 0=some (.out w):=h1
   rw [h1];rfl
 · have a1:(0:Int)<(l.n:Int):=by omega
   have g1:¬((l.n:Int)<1048576):=by omega
   have h1:∀ m,Na NN (m+1) l (l.n:Int) 0=some (.out (l.n:Int)):=fun m=>by
    simp only [Na,vc,a1,g1,decide_true,decide_false,if_true,Bool.false_eq_true,if_false]
   have h1:Na NN NN l (l.n:Int) 0=some (.out (l.n:Int)):=h1 9999999
   refine ⟨(l.n:Int),?_,fun hw=>by omega⟩
   unfold ae rh
   rw [h1];rfl
section
variable (p1:Bool) (p2:Sq Int) (l:Sq (Sq Int)) (hb:∀ i,i<l.n→okB (l.at' i)) (hw:l.n+lD l l.n≤20000) (lm:Bool) (yq:Sq Int)
include hb hw
end
theorem X8:Gb 10000000=some true:=by rw [←QD];kernel_rfl
theorem jab {x:Int} (h:(Lit.int .u8 x).wf=true):0≤x∧x<256:=by
 have h:IntKind.u8.min≤x∧x≤IntKind.u8.max:=by simpa [Lit.wf] using h
 have e1:IntKind.u8.min=0:=by decide
 have e2:IntKind.u8.max=255:=by decide
 rw [e1,e2] at h
 omega
open Go Go.RowKit
abbrev V6:=Nat×BA×BA×Bool×Sq Mbx×Sq BA
def Spec (lm:Bool) (yq:Sq Int):List (List Int×Bool)→V6→BA→V6→Prop
 | [],s,o,s'=>o=eB∧s'=s
 | x::r,s,o,s'=>∃ (b o1 o2:BA) (s1:V6),bs b=x.1∧
   wa NN (b,(x.2,())) lm yq ((s.1:Nat):Int) eB false s.2.1 s.2.2.2.1 s.2.2.1 s.2.2.2.2.1 s.2.2.2.2.2=
    some (o1,(lm,(yq,(((s1.1:Nat):Int),(eB,(false,(s1.2.1,(s1.2.2.2.1,(s1.2.2.1,(s1.2.2.2.2.1,(s1.2.2.2.2.2,())))))))))))∧Spec lm yq r s1 o2 s'∧o=o1++o2
theorem Spec.det {lm:Bool} {yq:Sq Int}:∀ {l:List (List Int×Bool)} {s s1 s2:V6} {o1 o2:BA},Spec lm yq l s o1 s1→Spec lm yq l s o2 s2→o1=o2∧s1=s2
 | [],s,s1,s2,o1,o2,h1,h2=>⟨h1.1.trans h2.1.symm,h1.2.trans h2.2.symm⟩
 | x::r,s,s1,s2,o1,o2,h1,h2=>by
  obtain ⟨b,p1,p2,t,e1,e2,e3,e4⟩:=h1
  obtain ⟨b',p1',p2',t',e1',e2',e3',e4'⟩:=h2
  have eb:b'=b:=JK (e1'.trans e1.symm)
  subst eb
  have e:=e2.symm.trans e2'
  obtain ⟨k,fr,tx,inn,bx,g⟩:=t
  obtain ⟨k',fr',tx',inn',bx',g'⟩:=t'
  simp only [Option.some.injEq,Prod.mk.injEq,true_and,and_true] at e
  obtain ⟨a1,a2,a3,a4,a5,a6,a7⟩:=e
  have a2:k=k':=by omega
  subst a1 a2 a3 a4 a5 a6 a7
  obtain ⟨c1,c2⟩:=Spec.det e3 e3'
  exact ⟨by rw [e4,e4',c1],c2⟩
theorem SV (a:BA):eB++a=a:=JK (by rw [Zn];rfl)
theorem Spec.app {lm:Bool} {yq:Sq Int}:∀ {l l':List (List Int×Bool)} {s s1 s2:V6} {o1 o2:BA},Spec lm yq l s o1 s1→Spec lm yq l' s1 o2 s2→Spec lm yq (l++l') s (o1++o2) s2
 | [],l',s,s1,s2,o1,o2,h1,h2=>by
  obtain ⟨e1,e2⟩:=h1
  subst e1 e2
  rw [SV]
  exact h2
 | x::r,l',s,s1,s2,o1,o2,h1,h2=>by
  obtain ⟨b,p1,p2,t,e1,e2,e3,e4⟩:=h1
  exact ⟨b,p1,p2++o2,t,e1,e2,Spec.app e3 h2,by rw [e4,iw]⟩
theorem gR:∀ (a b:List Int) (st:List Int×Bool),zg st (a++b)=((zg (zg st a).1 b).1,(zg st a).2++(zg (zg st a).1 b).2)
 | [],b,st=>rfl
 | c::r,b,st=>by
  show zg st (c::(r++b))=_
  rw [zg,zg,gR r b]
  simp only [List.append_assoc]
theorem Y2 {α β:Type} {f:α→β} {q:Sq α} {i:Nat} (h:i<q.n):(sqL f q).drop i=f (q.at' i)::(sqL f q).drop (i+1):=by
 have hl:i<(sqL f q).length:=by rw [Nc];exact h
 rw [List.drop_eq_getElem_cons hl]
 have:=Ik (f:=f) h
 rw [List.getElem?_eq_getElem hl] at this
 rw [Option.some.inj this]
section
variable (lm:Bool) (re:BA) (sk:Bool) (yq:Sq Int) (l:Sq Ln) (hl:∀ i,i<l.n→(l.at' i).1.size≤900)
include hl
theorem Y3:∀ (d i m L:Nat) (q:Sq Int) (fr tx:BA) (inn:Bool) (tot out:BA) (to got:Sq BA) (k:Nat) (bx:Sq Mbx) (got2:Sq BA),i+d=l.n→d<m→L+d≤30000→l.n≤1000000→Rel L q fr tx inn tot to got yq k bx got2→out.size≤tot.size→
  ∃ q2 fr2 tx2 inn2 o to2 g1 k2 bx2 g2,Va NN m l (l.n:Int) (i:Int) lm q re sk fr tx inn out to got=some (.out (lm,q2,re,sk,fr2,tx2,inn2,out++o,to2,g1))∧
   Spec lm yq ((sqL lnL l).drop i) (k,fr,tx,inn,bx,got2) o (k2,fr2,tx2,inn2,bx2,g2)∧Rel (L+d) q2 fr2 tx2 inn2 (tot++o) to2 g1 yq k2 bx2 g2:=by
 intro d
 induction d with
 | zero=>
  intro i m L q fr tx inn tot out to got k bx got2 hi hm hL hn h ho
  obtain ⟨m,rfl⟩:∃ q,m=q+1:=⟨m - 1,by omega⟩
  have a1:¬((i:Int)<(l.n:Int)):=by omega
  refine ⟨q,fr,tx,inn,eB,to,got,k,bx,got2,?_,?_,by rw [KM];exact h⟩
  · simp only [Va,Rc,a1,decide_false,Bool.false_eq_true,if_false]
    rw [KM]
  · rw [List.drop_eq_nil_of_le (by rw [Nc];omega)]
    exact ⟨rfl,rfl⟩
 | succ d ih=>
  intro i m L q fr tx inn tot out to got k bx got2 hi hm hL hn h ho
  obtain ⟨m,rfl⟩:∃ q,m=q+1:=⟨m - 1,by omega⟩
  have a0:(0:Int)≤(i:Int):=by omega
  have a1:(i:Int)<(l.n:Int):=by omega
  have e1:=wr1 (k:=i) (by omega)
  have x3:=hl i (by omega)
  have h':Rel L q fr tx inn out to got yq k bx got2:=⟨h.hq,h.hto,h.hgot,h.ne,h.b1,h.b2,by have:=h.b3;omega,h.b4,h.b5⟩
  obtain ⟨q1,fr1,tx1,inn1,o,to1,got1,k1,bx1,got21,i1,i2,i3⟩:=B6 L (by omega) (l.at' i).1 x3 lm q re sk fr tx out to got yq k bx got2 inn (l.at' i).2.1 h'
  obtain ⟨_,_,_,_,o',_,_,k1',bx1',_,_,i2',i3'⟩:=B6 L (by omega) (l.at' i).1 x3 lm q re sk fr tx tot to got yq k bx got2 inn (l.at' i).2.1 h
  have e:=(i2 eB false).symm.trans (i2' eB false)
  simp only [Option.some.injEq,Prod.mk.injEq,true_and,and_true] at e
  obtain ⟨c1,c2,c3,c4,c5,c6,c7⟩:=e
  have c2:k1=k1':=by omega
  subst c1 c2 c3 c4 c5 c6 c7
  have i4:Rel (L+1) q1 fr1 tx1 inn1 (tot++o) to1 got1 yq k1 bx1 got21:=⟨i3.hq,i3.hto,i3.hgot,i3.ne,i3.b1,i3.b2,i3'.b3,i3.b4,i3.b5⟩
  obtain ⟨q2,fr2,tx2,inn2,o2,to2,g1,k2,bx2,g2,j1,j2,j3⟩:=ih (i+1) m (L+1) q1 fr1 tx1 inn1 (tot++o) (out++o) to1 got1 k1 bx1 got21 (by omega) (by omega) (by omega) hn i4 (by rw [ByteArray.size_append,ByteArray.size_append];omega)
  refine ⟨q2,fr2,tx2,inn2,o++o2,to2,g1,k2,bx2,g2,?_,?_,by rw [show L+(d+1)=L+1+d by omega,←iw];exact j3⟩
  · simp only [Va,Rc,a0,a1,decide_true,and_self,if_true,Int.toNat_natCast,i1,Option.bind_some,e1]
    rw [←iw]
    exact j1
  · rw [Y2 (show i<l.n by omega)]
    exact ⟨(l.at' i).1,o,o2,(k1,fr1,tx1,inn1,bx1,got21),rfl,i2 eB false,j2,rfl⟩
end
theorem pM (lm:Bool) (re:BA) (sk:Bool) (yq:Sq Int) (L:Nat) (q:Sq Int) (fr tx:BA) (inn:Bool) (tot out:BA) (to got:Sq BA) (k:Nat) (bx:Sq Mbx) (got2:Sq BA) (h:Rel L q fr tx inn tot to got yq k bx got2) (hv:Wi (bs re,sk)) (b:Sq Int) (hb:okB b) (hL:L+b.n≤30000):
  ∃ re2 sk2 q2 fr2 tx2 inn2 o to2 g1 k2 bx2 g2,Hb NN b lm q re sk fr tx inn out to got=some (o,(lm,(q2,(re2,(sk2,(fr2,(tx2,(inn2,(o,(to2,(g1,())))))))))))∧
   (bs re2,sk2)=(zg (bs re,sk) (sqL id b)).1∧Spec lm yq (zg (bs re,sk) (sqL id b)).2 (k,fr,tx,inn,bx,got2) o (k2,fr2,tx2,inn2,bx2,g2)∧
   Rel (L+b.n) q2 fr2 tx2 inn2 (tot++o) to2 g1 yq k2 bx2 g2∧Wi (bs re2,sk2):=by
 have hs:=rZ hv
 obtain ⟨r1,s1,l1,p1,p2,p3⟩:=m9 NN re sk b hb (by omega) (Nat.le_refl _) hv
 obtain ⟨c1,c2⟩:=iQ (sqL id b) (bs re,sk) hv
 have hv2:=jQ (sqL id b) (bs re,sk) hv
 rw [←p2] at hv2
 rw [←p3] at c1 c2
 rw [Nc,Nc] at c2
 have hl:∀ i,i<l1.n→(l1.at' i).1.size≤900:=fun i hi=>by
  have:=c1 (lnL (l1.at' i)) (List.mem_of_getElem? (Ik hi))
  rw [←za]
  exact this
 obtain ⟨q2,fr2,tx2,inn2,o,to2,g1,k2,bx2,g2,j1,j2,j3⟩:=Y3 lm r1 s1 yq l1 hl l1.n 0 NN L q fr tx inn tot eB to got k bx got2 (by omega) (by show l1.n<10000000;omega) (by omega) (by omega) h (Nat.zero_le _)
 rw [show ((0:Nat):Int)=0 from rfl,SV] at j1
 rw [List.drop_zero,p3] at j2
 refine ⟨r1,s1,q2,fr2,tx2,inn2,o,to2,g1,k2,bx2,g2,?_,p2,j2,j3.mono (by omega),hv2⟩
 unfold Hb Cg
 rw [p1,Option.bind_some]
 dsimp only
 rw [j1,Option.bind_some]
 rfl
def QZ (l:Sq (Sq Int)):Nat→List Int
 | 0=>[]
 | i+1=>QZ l i++sqL id (l.at' i)
theorem zV (l:Sq (Sq Int)):∀ i,(QZ l i).length=lD l i
 | 0=>rfl
 | i+1=>by rw [QZ,List.length_append,Nc,zV l i];rfl
theorem k8 (a b:Sq Int):sqL id (⟨a.n+b.n,fun q=>if q<a.n then a.at' q else b.at' (q - a.n)⟩:Sq Int)=sqL id a++sqL id b:=by
 apply List.ext_getElem?
 intro i
 by_cases h:i<a.n
 · rw [List.getElem?_append_left (by rw [Nc];exact h),Ik h,Ik (by show i<a.n+b.n;omega)]
   show some (id (if i<a.n then a.at' i else b.at' (i - a.n)))=_
   rw [if_pos h]
 · rw [List.getElem?_append_right (by rw [Nc];omega),Nc]
   by_cases h2:i<a.n+b.n
   · rw [Ik h2,Ik (show i - a.n<b.n by omega)]
     show some (id (if i<a.n then a.at' i else b.at' (i - a.n)))=_
     rw [if_neg h]
   · rw [List.getElem?_eq_none (by rw [Nc];exact Nat.not_lt.1 h2),List.getElem?_eq_none (by rw [Nc];omega)]
section
variable (p1:Bool) (p2:Sq Int) (l:Sq (Sq Int)) (hb:∀ i,i<l.n→okB (l.at' i)) (hw:l.n+lD l l.n≤20000)
include hb hw
theorem y3 {i:Nat} (h:i≤l.n):lD l i≤20000:=by
 have:=UU l (l.n - i) i
 rw [show i+(l.n - i)=l.n by omega] at this
 omega
theorem u4:∀ (d i m:Nat) (all:Sq Int),i+d=21→d<m→i≤20→i≤l.n→sqL id all=QZ l i→okB all→
  ∃ e x,Ga NN m (i:Int) p1 p2 l all=some (.out (x,p1,p2,l))∧e≤l.n∧e≤20∧(e<l.n→e=20)∧sqL id x=QZ l e∧okB x:=by
 intro d
 induction d with
 | zero=>intro i m all hi hm h20;omega
 | succ d ih=>
  intro i m all hi hm h20 hil ha hk
  obtain ⟨m,rfl⟩:∃ q,m=q+1:=⟨m - 1,by omega⟩
  by_cases g:i<l.n
  · have a1:(i:Int)<(l.n:Int):=by omega
    by_cases g2:i<20
    · have a2:(i:Int)<20:=by omega
      have a0:(0:Int)≤(i:Int):=by omega
      have e1:=wr1 (k:=i) (by omega)
      have hn:all.n=lD l i:=by rw [←zV,←ha,Nc]
      have hs:lD l (i+1)≤20000:=y3 l hb hw (by omega)
      have hs':lD l i+(l.at' i).n≤20000:=hs
      have f:Ta (all.n+(l.at' i).n) 1=true:=by
       unfold Ta
       simp only [Bool.and_eq_true,Nat.ble_eq]
       omega
      have hbi:=hb i g
      obtain ⟨e,x,x1,x2⟩:=ih (i+1) m (⟨all.n+(l.at' i).n,fun q=>if q<all.n then all.at' q else (l.at' i).at' (q - all.n)⟩:Sq Int) (by omega) (by omega) (by omega) (by omega) (by rw [k8,ha];rfl) (fun j hj=>by
       have hj:j<all.n+(l.at' i).n:=hj
       show 0≤(if j<all.n then all.at' j else (l.at' i).at' (j - all.n))∧(if j<all.n then all.at' j else (l.at' i).at' (j - all.n))<256
       by_cases gj:j<all.n
       · rw [if_pos gj];exact hk j gj
       · rw [if_neg gj];exact hbi _ (by omega))
      refine ⟨e,x,?_,x2⟩
      simp only [Ga,Cb,a0,a1,a2,decide_true,and_self,if_true,Int.toNat_natCast,f,e1]
      exact x1
    · have a2:¬((i:Int)<20):=by omega
      refine ⟨i,all,?_,hil,h20,fun _=>by omega,ha,hk⟩
      simp only [Ga,Cb,a1,a2,decide_true,decide_false,if_true,Bool.false_eq_true,if_false]
  · have a1:¬((i:Int)<(l.n:Int)):=by omega
    refine ⟨i,all,?_,hil,h20,fun h=>absurd h g,ha,hk⟩
    simp only [Ga,Cb,a1,decide_false,Bool.false_eq_true,if_false]
end
section
variable (lm:Bool) (yq:Sq Int) (s0:V6) (all:Sq Int) (hk:okB all) (hn:all.n≤20000) (a d0:BA) (p1:Bool) (p2:Sq Int) (p3:Sq (Sq Int)) (x8:Bool) (x9:Sq Int) (x10:BA) (x11:Bool) (x12 x13:BA) (x14:Bool) (x15:BA) (w8:Bool) (w9:Sq Int) (w10:BA) (w11:Bool) (w12 w13:BA) (w14:Bool) (w15:BA) (r4 r5 r8 r9:Sq BA)
include hk hn
theorem y4:∀ (d i m:Nat) (re:BA) (sk:Bool) (q:Sq Int) (fr tx:BA) (inn:Bool) (b out:BA) (to got:Sq BA) (k:Nat) (bx:Sq Mbx) (got2:Sq BA),i+d=all.n→d<m→Rel i q fr tx inn b to got yq k bx got2→Wi (bs re,sk)→(bs re,sk)=(zg ([],false) ((sqL id all).take i)).1→Spec lm yq (zg ([],false) ((sqL id all).take i)).2 s0 b (k,fr,tx,inn,bx,got2)→
  ∃ re2 sk2 q2 fr2 tx2 inn2 b2 out2 to2 g1 k2 bx2 g2,Ka NN m all a b d0 (i:Int) p1 p2 p3 x8 x9 x10 x11 x12 x13 x14 x15 lm q re sk fr tx inn out w8 w9 w10 w11 w12 w13 w14 w15 r4 r5 to got r8 r9=
    some (.out (a,b2,d0,p1,p2,p3,x8,x9,x10,x11,x12,x13,x14,x15,lm,q2,re2,sk2,fr2,tx2,inn2,out2,w8,w9,w10,w11,w12,w13,w14,w15,r4,r5,to2,g1,r8,r9))∧
   Spec lm yq (zg ([],false) (sqL id all)).2 s0 b2 (k2,fr2,tx2,inn2,bx2,g2)∧Rel all.n q2 fr2 tx2 inn2 b2 to2 g1 yq k2 bx2 g2:=by
 intro d
 induction d with
 | zero=>
  intro i m re sk q fr tx inn b out to got k bx got2 hi hm h hv hf hs
  obtain ⟨m,rfl⟩:∃ q,m=q+1:=⟨m - 1,by omega⟩
  have a1:¬((i:Int)<(all.n:Int)):=by omega
  have e:(sqL id all).take i=sqL id all:=List.take_of_length_le (by rw [Nc];omega)
  rw [e] at hs
  have hi:i=all.n:=by omega
  refine ⟨re,sk,q,fr,tx,inn,b,out,to,got,k,bx,got2,?_,hs,by rw [←hi];exact h⟩
  simp only [Ka,Xb,a1,decide_false,Bool.false_eq_true,if_false]
 | succ d ih=>
  intro i m re sk q fr tx inn b out to got k bx got2 hi hm h hv hf hs
  obtain ⟨m,rfl⟩:∃ q,m=q+1:=⟨m - 1,by omega⟩
  have a1:(i:Int)<(all.n:Int):=by omega
  have e1:=wr1 (k:=i) (by omega)
  have a2:(0:Int)≤((i+1:Nat):Int)∧((i+1:Nat):Int)≤(all.n:Int):=⟨by omega,by omega⟩
  have a3:(0:Int)≤(i:Int)∧(i:Int)≤((i+1:Nat):Int):=⟨by omega,by omega⟩
  have one:(⟨(i+1) - i,fun j_0=>all.at' (i+j_0)⟩:Sq Int).n=1:=by show i+1 - i=1;omega
  have hS:sqL id (⟨(i+1) - i,fun j_0=>all.at' (i+j_0)⟩:Sq Int)=[all.at' i]:=by
   unfold sqL
   rw [one];rfl
  have hK:okB (⟨(i+1) - i,fun j_0=>all.at' (i+j_0)⟩:Sq Int):=fun j hj=>by
   rw [one] at hj
   exact hk (i+j) (by omega)
  obtain ⟨re1,sk1,q1,fr1,tx1,inn1,o,to1,g1,k1,bx1,g21,j1,j2,j3,j4,j5⟩:=pM lm re sk yq i q fr tx inn b out to got k bx got2 h hv _ hK (by rw [one];omega)
  rw [hS] at j2 j3
  rw [one] at j4
  have b3:=j4.b3
  rw [ByteArray.size_append] at b3
  have f:=WO (a:=b) (b:=o) (by omega)
  have ht:(sqL id all).take (i+1)=(sqL id all).take i++[all.at' i]:=by
   rw [List.take_add_one,Ik (show i<all.n by omega)];rfl
  have hf':zg ([],false) ((sqL id all).take (i+1))=((zg (bs re,sk) [all.at' i]).1,(zg ([],false) ((sqL id all).take i)).2++(zg (bs re,sk) [all.at' i]).2):=by
   rw [ht,gR,←hf]
  obtain ⟨re2,sk2,q2,fr2,tx2,inn2,b2,out2,to2,h1,k2,bx2,h2,i1,i2⟩:=ih (i+1) m re1 sk1 q1 fr1 tx1 inn1 (b++o) o to1 g1 k1 bx1 g21 (by omega) (by omega) j4 j5 (by rw [hf'];exact j2) (by rw [hf'];exact hs.app j3)
  refine ⟨re2,sk2,q2,fr2,tx2,inn2,b2,out2,to2,h1,k2,bx2,h2,?_,i2⟩
  simp only [Ka,Xb,a1,decide_true,e1,a2,a3,and_self,if_true,Int.toNat_natCast,j1,Option.bind_some,f]
  exact i1
end
section
variable (lm:Bool) (yq:Sq Int) (s0:V6) (l:Sq (Sq Int)) (hb:∀ i,i<l.n→okB (l.at' i)) (hw:l.n+lD l l.n≤20000) (e:Nat) (he:e≤l.n) (he2:e≤20) (he3:e<l.n→e=20) (a b:BA) (p1:Bool) (p2:Sq Int) (x8:Bool) (x9:Sq Int) (x10:BA) (x11:Bool) (x12 x13:BA) (x14:Bool) (x15:BA) (y8:Bool) (y9:Sq Int) (y10:BA) (y11:Bool) (y12 y13:BA) (y14:Bool) (y15:BA) (r4 r5 r6 r7:Sq BA)
include hb hw he he2 he3
theorem D4:∀ (d i m:Nat) (re:BA) (sk:Bool) (q:Sq Int) (fr tx:BA) (inn:Bool) (c out:BA) (to got:Sq BA) (k:Nat) (bx:Sq Mbx) (got2:Sq BA),i+d=e→d<m→Rel (lD l i) q fr tx inn c to got yq k bx got2→Wi (bs re,sk)→(bs re,sk)=(zg ([],false) (QZ l i)).1→Spec lm yq (zg ([],false) (QZ l i)).2 s0 c (k,fr,tx,inn,bx,got2)→
  ∃ re2 sk2 q2 fr2 tx2 inn2 c2 out2 to2 g1 k2 bx2 g2,Ha NN m a b c (i:Int) p1 p2 l x8 x9 x10 x11 x12 x13 x14 x15 y8 y9 y10 y11 y12 y13 y14 y15 lm q re sk fr tx inn out r4 r5 r6 r7 to got=
    some (.out (a,b,c2,x8,x9,x10,x11,x12,x13,x14,x15,y8,y9,y10,y11,y12,y13,y14,y15,lm,q2,re2,sk2,fr2,tx2,inn2,out2,r4,r5,r6,r7,to2,g1))∧
   Spec lm yq (zg ([],false) (QZ l e)).2 s0 c2 (k2,fr2,tx2,inn2,bx2,g2)∧Rel (lD l e) q2 fr2 tx2 inn2 c2 to2 g1 yq k2 bx2 g2:=by
 intro d
 induction d with
 | zero=>
  intro i m re sk q fr tx inn c out to got k bx got2 hi hm h hv hf hs
  obtain ⟨m,rfl⟩:∃ q,m=q+1:=⟨m - 1,by omega⟩
  have hi:i=e:=by omega
  subst hi
  refine ⟨re,sk,q,fr,tx,inn,c,out,to,got,k,bx,got2,?_,hs,h⟩
  by_cases g:i<l.n
  · have a1:(i:Int)<(l.n:Int):=by omega
    have a2:¬((i:Int)<20):=by have:=he3 g;omega
    simp only [Ha,Db,a1,a2,decide_true,decide_false,if_true,Bool.false_eq_true,if_false]
  · have a1:¬((i:Int)<(l.n:Int)):=by omega
    simp only [Ha,Db,a1,decide_false,Bool.false_eq_true,if_false]
 | succ d ih=>
  intro i m re sk q fr tx inn c out to got k bx got2 hi hm h hv hf hs
  obtain ⟨m,rfl⟩:∃ q,m=q+1:=⟨m - 1,by omega⟩
  have a0:(0:Int)≤(i:Int):=by omega
  have a1:(i:Int)<(l.n:Int):=by omega
  have a2:(i:Int)<20:=by omega
  have e1:=wr1 (k:=i) (by omega)
  have hs2:lD l (i+1)≤20000:=y3 l hb hw (by omega)
  have hs':lD l i+(l.at' i).n≤20000:=hs2
  obtain ⟨re1,sk1,q1,fr1,tx1,inn1,o,to1,g1,k1,bx1,g21,j1,j2,j3,j4,j5⟩:=pM lm re sk yq (lD l i) q fr tx inn c out to got k bx got2 h hv _ (hb i (by omega)) (by omega)
  have j4:Rel (lD l (i+1)) q1 fr1 tx1 inn1 (c++o) to1 g1 yq k1 bx1 g21:=j4
  have b3:=j4.b3
  rw [ByteArray.size_append] at b3
  have f:=WO (a:=c) (b:=o) (by omega)
  have hf':zg ([],false) (QZ l (i+1))=((zg (bs re,sk) (sqL id (l.at' i))).1,(zg ([],false) (QZ l i)).2++(zg (bs re,sk) (sqL id (l.at' i))).2):=by
   rw [QZ,gR,←hf]
  obtain ⟨re2,sk2,q2,fr2,tx2,inn2,b2,out2,to2,h1,k2,bx2,h2,i1,i2⟩:=ih (i+1) m re1 sk1 q1 fr1 tx1 inn1 (c++o) o to1 g1 k1 bx1 g21 (by omega) (by omega) j4 j5 (by rw [hf'];exact j2) (by rw [hf'];exact hs.app j3)
  refine ⟨re2,sk2,q2,fr2,tx2,inn2,b2,out2,to2,h1,k2,bx2,h2,?_,i2⟩
  simp only [Ha,Db,a0,a1,a2,decide_true,and_self,if_true,Int.toNat_natCast,j1,Option.bind_some,f,e1]
  exact i1
end
theorem M0 (lm:Bool) (q:Sq Int) (re:BA) (sk:Bool) (fr tx:BA) (inn:Bool) (out:BA) (to got:Sq BA) (h:got.n≤1000000):ab NN lm q re sk fr tx inn out to got=some (lm,(q,(re,(sk,(fr,(tx,(inn,(out,(got,(to,(got,()))))))))))):=by
 have cl:zy 16 got=some (got,()):=by unfold zy;rw [if_pos (by omega)]
 unfold ab Bh
 rw [cl,Option.bind_some]
theorem plain_PeerParts (p:Bool×(Sq Int×(Sq (Sq Int)×Unit))) (h:Fit reachBytes K4 p):∃ n,pouchlaw27_PeerParts n p=some true:=⟨NN,by
 obtain ⟨b,r,l,⟨⟩⟩:=p
 have hB:∀ i,i<l.n→okB (l.at' i)∧(l.at' i).n≤140737488351232:=fun i hi=>by
  have:=h.2.2.1.2 i hi
  exact ⟨fun j hj=>jab (this.2 j hj),this.1⟩
 unfold pouchlaw27_PeerParts Le
 dsimp only
 by_cases g:r.n>500
 · rw [if_neg (by rw [decide_eq_false_iff_not];omega)]
 · rw [if_pos (decide_eq_false (by omega))]
   obtain ⟨w,w1,w2⟩:=S6 l (fun i hi=>(hB i hi).2)
   rw [w1,Option.bind_some]
   by_cases gw:w>5000
   · rw [if_pos (decide_eq_true gw)]
   · rw [if_neg (by simpa using gw)]
     have hb:=fun i hi=>(hB i hi).1
     have hw:=w2 (by omega)
     obtain ⟨e,x,x1,x2,x3,x4,x5,x6⟩:=u4 b r l hb hw 21 0 NN (⟨0,fun _=>Ba (.int .u8)⟩:Sq Int) (by omega) (by decide) (by omega) (Nat.zero_le _) rfl (fun j hj=>absurd hj (Nat.not_lt_zero j))
     have x1:Ga NN NN (0:Int) b r l (⟨0,fun _=>Ba (.int .u8)⟩:Sq Int)=some (.out (x,b,r,l)):=x1
     have hs:lD l e≤20000:=y3 l hb hw x2
     have hxn:x.n=lD l e:=by rw [←zV,←x5,Nc]
     have n1:Hd NN b r=some (b,(r,(eB,(false,(eB,(eB,(false,(eB,(zS,(zS,())))))))))):=by
      unfold Hd wq
      have:zy 8 r=some (r,()):=by unfold zy;rw [if_pos (by omega)]
      rw [this,Option.bind_some]
     have h0:∀ L,Rel L r eB eB false eB zS zS r 0 zM zS:=fun L=>⟨⟨rfl,fun j hj=>by rw [Nat.zero_add]⟩,sK,SqE.refl _,fun e=>(by cases e),Nat.zero_le _,Nat.zero_le _,Nat.zero_le _,Nat.zero_le _,rfl⟩
     have v0:Wi (bs eB,false):=⟨rfl,by decide⟩
     obtain ⟨reA,skA,qA,frA,txA,innA,oA,toA,gA,kA,bxA,g2A,A1,_,A3,A4,_⟩:=pM b eB false r 0 r eB eB false eB eB zS zS 0 zM zS (h0 0) v0 x x6 (by omega)
     obtain ⟨reB,skB,qB,frB,txB,innB,oB,outB,toB,gB,kB,bxB,g2B,B1,B3,B4⟩:=y4 b r (0,eB,eB,false,zM,zS) x x6 (by omega) oA eB b r l b qA reA skA frA txA innA oA b r eB false eB eB false eB toA gA zS zS x.n 0 NN eB false r eB eB false eB eB zS zS 0 zM zS (by omega) (by show x.n<10000000;omega) (h0 0) v0 rfl ⟨rfl,rfl⟩
     obtain ⟨reC,skC,qC,frC,txC,innC,oC,outC,toC,gC,kC,bxC,g2C,C1,C3,C4⟩:=D4 b r (0,eB,eB,false,zM,zS) l hb hw e x2 x3 x4 oA oB b r b qA reA skA frA txA innA oA b qB reB skB frB txB innB outB toA gA toB gB e 0 NN eB false r eB eB false eB eB zS zS 0 zM zS (by omega) (by show e<10000000;omega) (h0 _) v0 rfl ⟨rfl,rfl⟩
     have A3:Spec b r (zg ([],false) (sqL id x)).2 (0,eB,eB,false,zM,zS) oA (kA,frA,txA,innA,bxA,g2A):=A3
     rw [x5] at A3 B3
     rw [SV,Nat.zero_add] at A4
     obtain ⟨e1,e2⟩:=A3.det B3
     obtain ⟨e3,e4⟩:=A3.det C3
     simp only [Prod.mk.injEq] at e2 e4
     have gAB:SqE gA gB:=A4.hgot.trans (by rw [e2.2.2.2.2.2];exact B4.hgot.symm)
     have gAC:SqE gA gC:=A4.hgot.trans (by rw [e4.2.2.2.2.2];exact C4.hgot.symm)
     have bA:=A4.b2
     have bB:=B4.b2
     have bC:=C4.b2
     have EB:=zK NN gA gB gAB (by omega) (Nat.le_refl _)
     have EC:=zK NN gA gC gAC (by omega) (Nat.le_refl _)
     have G1:=M0 b qA reA skA frA txA innA oA toA gA (by omega)
     have G2:=M0 b qB reB skB frB txB innB outB toB gB (by omega)
     have G3:=M0 b qC reC skC frC txC innC outC toC gC (by omega)
     have m1:(oA.toList==oB.toList)=true:=by rw [e1,dx];simp
     have m2:(oA.toList==oC.toList)=true:=by rw [e3,dx];simp
     have m3:((Int.tmod (gA.n:Int) (3:Int))==(0:Int))=true:=by
      have:=A4.b5
      have e:Int.tmod (gA.n:Int) 3=((gA.n%3:Nat):Int):=rfl
      rw [e,this];rfl
     have J:Yb NN x b r l=some (.out (x,b,r,l,b,r,eB,false,eB,eB,false,eB,b,r,eB,false,eB,eB,false,eB,b,r,eB,false,eB,eB,false,eB,zS,zS,zS,zS,zS,zS)):=by
      unfold Yb td
      simp only [n1,Option.bind_some]
     have B1:Ka NN NN x oA eB eB (0:Int) b r l b qA reA skA frA txA innA oA b r eB false eB eB false eB b r eB false eB eB false eB toA gA zS zS zS zS=_:=B1
     have C1:Ha NN NN oA oB eB (0:Int) b r l b qA reA skA frA txA innA oA b qB reB skB frB txB innB outB b r eB false eB eB false eB toA gA toB gB zS zS=_:=C1
     simp only [x1,J,A1,B1,C1,onL,Option.bind_some,m1,m2,G1,G2,G3,EB,EC,m3,if_true]
     rw [show Gb NN=some true from X8]
     rfl⟩
end Go.Proofs.YtddefjokgaajfaaGreatDoor.AM
