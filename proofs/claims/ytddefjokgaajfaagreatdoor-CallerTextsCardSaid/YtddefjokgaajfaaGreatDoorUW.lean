/- Callers, plainly: sequences that are alike, copies, equality, what is spoiled, weights. -/
import Derived.Test.YtddefjokgaajfaaGreatDoorUV
import Derived.Lib.IndexMore
import Derived.Lib.IndexAny
import Derived.Test.YtddefjokgaajfaaGreatDoorUM
set_option linter.all false
set_option linter.unusedVariables false
set_option linter.unusedSimpArgs false
namespace Go.Proofs.YtddefjokgaajfaaGreatDoor.AM
open Go Go.RowKit
def SqE {T:Type} (a b:Sq T):Prop:=a.n=b.n∧∀ i,i<a.n→a.at' i=b.at' i
theorem SqE.refl {T:Type} (a:Sq T):SqE a a:=⟨rfl,fun _ _=>rfl⟩
theorem SqE.symm {T:Type} {a b:Sq T} (h:SqE a b):SqE b a:=⟨h.1.symm,fun i hi=>(h.2 i (by rw [h.1];exact hi)).symm⟩
theorem SqE.trans {T:Type} {a b c:Sq T} (h:SqE a b) (k:SqE b c):SqE a c:=⟨h.1.trans k.1,fun i hi=>(h.2 i hi).trans (k.2 i (by rw [←h.1];exact hi))⟩
theorem SqE.zero {T:Type} (f g:Nat→T):SqE (⟨0,f⟩:Sq T) ⟨0,g⟩:=⟨rfl,fun i hi=>absurd hi (Nat.not_lt_zero i)⟩
theorem SqE.snoc {T:Type} {a b:Sq T} (h:SqE a b) (y z z':T):SqE (⟨a.n+1,fun q=>if q<a.n then a.at' q else (fun q=>List.getD [y] q z) (q - a.n)⟩:Sq T) (⟨b.n+1,fun q=>if q<b.n then b.at' q else (fun q=>List.getD [y] q z') (q - b.n)⟩:Sq T):=by
 refine ⟨by show a.n+1=b.n+1;rw [h.1],fun i hi=>?_⟩
 have hi':i<a.n+1:=hi
 show (if i<a.n then a.at' i else List.getD [y] (i - a.n) z)=(if i<b.n then b.at' i else List.getD [y] (i - b.n) z')
 by_cases h1:i<a.n
 · rw [if_pos h1,if_pos (by rw [←h.1];exact h1),h.2 i h1]
 · rw [if_neg h1,if_neg (by rw [←h.1];exact h1),←h.1,show i - a.n=0 by omega];rfl
abbrev jX:=BA×(BA×Unit)
theorem Pw (n:Nat) (a b:Sq BA) (h:SqE a b) (hn:a.n≤4000000):∀ (d i m:Nat),i+d=a.n→d<m→Qa n m a b (i:Int)=some (.out ())
 | 0,i,m,hi,hm=>by
  obtain ⟨m,rfl⟩:∃ q,m=q+1:=⟨m - 1,by omega⟩
  have e:¬((i:Int)<(a.n:Int)):=by omega
  simp [Qa,vc,e]
 | d+1,i,m,hi,hm=>by
  obtain ⟨m,rfl⟩:∃ q,m=q+1:=⟨m - 1,by omega⟩
  have e1:=EY (k:=i) (by omega)
  have a3:(0:Int)≤(i:Int):=by omega
  have a4:(i:Int)<(a.n:Int):=by omega
  have a5:(i:Int)<(b.n:Int):=by rw [←h.1];exact a4
  have ih:=Pw n a b h hn d (i+1) m (by omega) (by omega)
  have e2:=h.2 i (by omega)
  simp only [Qa,vc,a3,a4,a5,e1,e2,Int.toNat_natCast,decide_true,if_true,and_self,beq_self_eq_true,Bool.not_true,Bool.false_eq_true,if_false]
  exact ih
theorem ZF (n:Nat) (a b:Sq BA) (h:SqE a b) (hl:a.n≤4000000) (hn:10000000≤n):Xe n a b=some true:=by
 have h0:=Pw n a b h hl a.n 0 n (by omega) (by omega)
 rw [show ((0:Nat):Int)=0 from rfl] at h0
 unfold Xe jg
 rw [if_neg (by rw [h.1];simp),h0];rfl
abbrev WX (id te ip:Int) (re:BA) (sk:Bool) (st:Int) (he:BA) (nu:Bool) (fl fd:BA) (to:Sq jX) (da:Sq BA) (by':Int) (ov:Bool):T0:=
 (id,(te,(ip,((re,(sk,())),(st,(he,(nu,((fl,(fd,())),(to,(da,(by',(ov,()))))))))))))
def CE (a b:T0):Prop:=∃ id te ip re sk st he nu fl fd to to' da da' by' ov,a=WX id te ip re sk st he nu fl fd to da by' ov∧b=WX id te ip re sk st he nu fl fd to' da' by' ov∧SqE to to'∧SqE da da'
structure Ok (B:Nat) (c:T0):Prop where
 re:c.2.2.2.1.1.size≤20000
 he:c.2.2.2.2.2.1.size≤20000
 fl:c.2.2.2.2.2.2.2.1.1.size≤20000
 fd:c.2.2.2.2.2.2.2.1.2.1.size≤20000
 to:c.2.2.2.2.2.2.2.2.1.n≤B
 toS:∀ i,i<c.2.2.2.2.2.2.2.2.1.n→(c.2.2.2.2.2.2.2.2.1.at' i).1.size≤20000∧(c.2.2.2.2.2.2.2.2.1.at' i).2.1.size≤20000
 da:c.2.2.2.2.2.2.2.2.2.1.n≤B
 daS:∀ i,i<c.2.2.2.2.2.2.2.2.2.1.n→(c.2.2.2.2.2.2.2.2.2.1.at' i).size≤20000
theorem Ok.mono {B B':Nat} {c:T0} (h:Ok B c) (hb:B≤B'):Ok B' c:=⟨h.re,h.he,h.fl,h.fd,Nat.le_trans h.to hb,h.toS,Nat.le_trans h.da hb,h.daS⟩
theorem CE.refl (a:T0):CE a a:=by
 obtain ⟨id,te,ip,⟨re,sk,⟨⟩⟩,st,he,nu,⟨fl,fd,⟨⟩⟩,to,da,by',ov,⟨⟩⟩:=a
 exact ⟨id,te,ip,re,sk,st,he,nu,fl,fd,to,to,da,da,by',ov,rfl,rfl,SqE.refl _,SqE.refl _⟩
theorem CE.symm {a b:T0} (h:CE a b):CE b a:=by
 obtain ⟨id,te,ip,re,sk,st,he,nu,fl,fd,to,to',da,da',by',ov,h1,h2,h3,h4⟩:=h
 exact ⟨id,te,ip,re,sk,st,he,nu,fl,fd,to',to,da',da,by',ov,h2,h1,h3.symm,h4.symm⟩
theorem CE.trans {a b c:T0} (h:CE a b) (k:CE b c):CE a c:=by
 obtain ⟨id,te,ip,re,sk,st,he,nu,fl,fd,to,to',da,da',by',ov,rfl,rfl,h3,h4⟩:=h
 obtain ⟨id2,te2,ip2,re2,sk2,st2,he2,nu2,fl2,fd2,to2,to2',da2,da2',by2,ov2,k1,rfl,k3,k4⟩:=k
 simp only [WX,Prod.mk.injEq] at k1
 obtain ⟨rfl,rfl,rfl,⟨rfl,rfl,_⟩,rfl,rfl,rfl,⟨rfl,rfl,_⟩,rfl,rfl,rfl,rfl,_⟩:=k1
 exact ⟨_,_,_,_,_,_,_,_,_,_,to,to2',da,da2',_,_,rfl,rfl,h3.trans k3,h4.trans k4⟩
open Go Go.RowKit
def bb (b:jX):List Int×List Int:=(bs b.1,bs b.2.1)
theorem kU (v1 v2:BA) (b:jX):((v1.toList==b.1.toList)&&((v2.toList==b.2.1.toList)&&true))=decide (bb b=(bs v1,bs v2)):=by
 rw [Xg,Xg,Bool.and_true,bb,←Bool.decide_and]
 exact decide_eq_decide.2 ⟨fun h=>by rw [h.1,h.2],fun h=>by rw [Prod.mk.injEq] at h;exact ⟨h.1.symm,h.2.symm⟩⟩
theorem lA (s:BA):(s.toList==(⟨#[]⟩:BA).toList)=(bs s).isEmpty:=by
 rw [Xg]
 cases h:bs s with
 | nil=>rfl
 | cons a l=>exact decide_eq_false (by simp [bs])
/-! Is it one of these? -/
theorem iG (n:Nat) (s:Sq jX) (hs:s.n≤4000000) (v1 v2:BA):∀ (r:List (List Int×List Int)) (i m:Nat),(uY bb s).drop i=r→i≤s.n→r.length<m→
  ∃ x:Int,0≤x∧Dm n m s (s.n:Int) (i:Int) v1 v2=some (if r.contains (bs v1,bs v2)=true then .ret x else .out ())
 | [],i,m,h,hi,hm=>by
  obtain ⟨m,rfl⟩:∃ q,m=q+1:=⟨m - 1,by omega⟩
  have:=cB h
  have e:¬((i:Int)<(s.n:Int)):=by omega
  exact ⟨0,Int.le_refl _,by simp [Dm,WA,e]⟩
 | b::r,i,m,h,hi,hm=>by
  obtain ⟨m,rfl⟩:∃ q,m=q+1:=⟨m - 1,by omega⟩
  obtain ⟨h1,h2,h3⟩:=Bu h
  have e1:=EY (k:=i) (by omega)
  have a3:(0:Int)≤(i:Int):=by omega
  have a4:(i:Int)<(s.n:Int):=by omega
  obtain ⟨x,hx0,hx⟩:=iG n s hs v1 v2 r (i+1) m h3 (by omega) (by simpa using hm)
  by_cases g:b=(bs v1,bs v2)
  · refine ⟨i,a3,?_⟩
    simp only [Dm,WA,a3,a4,e1,Int.toNat_natCast,kU,h2,g,decide_true,if_true,and_self]
    simp
  · refine ⟨x,hx0,?_⟩
    have g':((bs v1,bs v2)==b)=false:=by simpa using fun e=>g e.symm
    simp only [Dm,WA,a3,a4,e1,Int.toNat_natCast,kU,h2,g,decide_true,decide_false,if_true,and_self,Bool.false_eq_true,if_false]
    rw [hx,List.contains_cons,g',Bool.false_or]
theorem gG (n:Nat) (s:Sq jX) (hs:s.n≤4000000) (v:jX) (hn:10000000≤n):rY n s v=some ((uY bb s).contains (bb v)):=by
 obtain ⟨x,hx0,hx⟩:=iG n s hs v.1 v.2.1 _ 0 n rfl (Nat.zero_le _) (by rw [List.drop_zero,Me];omega)
 rw [show ((0:Nat):Int)=0 from rfl,List.drop_zero] at hx
 unfold rY ZQ sY cR
 simp only [hx,Option.bind_some]
 show _=some ((uY bb s).contains (bs v.1,bs v.2.1))
 cases (uY bb s).contains (bs v.1,bs v.2.1)
 · rfl
 · simp [iY,hx0]
def mQ (b:List Int×List Int):Bool:=NC b.1&&ME b.2
def cS:List (List Int×List Int)→List (List Int×List Int)→Bool
 | _,[]=>true
 | pre,b::r=>mQ b&&(!pre.contains b&&cS (pre++[b]) r)
theorem rT {s:Sq jX} {i:Nat} (hi:i≤s.n):uY bb (⟨Int.toNat (i:Int) - Int.toNat (0:Int),fun j=>s.at' (Int.toNat (0:Int)+j)⟩:Sq jX)=(uY bb s).take i:=by
 unfold uY
 show (List.range (i - 0)).map (fun j=>bb (s.at' (0+j)))=_
 rw [←List.map_take,List.take_range,Nat.sub_zero,Nat.min_eq_left hi]
 simp
theorem zP {α:Type} {l r:List α} {i:Nat} {b:α} (h:l.drop i=b::r):l.take (i+1)=l.take i++[b]:=by
 have h0:l[i]?=some b:=by
  have:=congrArg (fun l=>l[0]?) h
  simpa using this
 rw [List.take_add_one,h0];rfl
theorem IR (n:Nat) (s:Sq jX) (hs:s.n≤4000000) (hS:∀ i,i<s.n→(s.at' i).1.size≤20000∧(s.at' i).2.1.size≤20000) (hn:10000000≤n):∀ (r:List (List Int×List Int)) (i m:Nat),(uY bb s).drop i=r→i≤s.n→r.length<m→
  Yh n m s s (s.n:Int) (i:Int)=some (if cS ((uY bb s).take i) r=true then .out s else .ret false)
 | [],i,m,h,hi,hm=>by
  obtain ⟨m,rfl⟩:∃ q,m=q+1:=⟨m - 1,by omega⟩
  have:=cB h
  have e:¬((i:Int)<(s.n:Int)):=by omega
  simp [Yh,Jv,e,cS]
 | b::r,i,m,h,hi,hm=>by
  obtain ⟨m,rfl⟩:∃ q,m=q+1:=⟨m - 1,by omega⟩
  obtain ⟨h1,h2,h3⟩:=Bu h
  have e1:=EY (k:=i) (by omega)
  have a3:(0:Int)≤(i:Int):=by omega
  have a4:(i:Int)<(s.n:Int):=by omega
  have a5:(i:Int)≤(s.n:Int):=by omega
  obtain ⟨z1,z2⟩:=hS i h1
  have ih:=IR n s hs hS hn r (i+1) m h3 (by omega) (by simpa using hm)
  have hM:=aO n (s.at' i).1 (s.at' i).2.1 (by omega) (by omega) hn
  have hC:=gG n (⟨Int.toNat (i:Int) - Int.toNat (0:Int),fun j=>s.at' (Int.toNat (0:Int)+j)⟩:Sq jX) (by show i - 0≤_;omega) ((s.at' i).1,((s.at' i).2.1,())) hn
  rw [rT hi] at hC
  have hb:bb ((s.at' i).1,((s.at' i).2.1,()))=b:=h2
  rw [hb] at hC
  have hb2:(NC (bs (s.at' i).1)&&ME (bs (s.at' i).2.1))=mQ b:=by rw [←h2];rfl
  rw [hb2] at hM
  rw [zP h] at ih
  simp only [Int.toNat_natCast] at hC
  simp only [Yh,Jv,a3,a4,a5,e1,Int.toNat_natCast,hM,hC,decide_true,if_true,and_self,Option.bind_some,cS]
  by_cases g1:mQ b=true
  · by_cases g2:((uY bb s).take i).contains b=true
    · simp only [g1,g2];simp
    · have g2':((uY bb s).take i).contains b=false:=by simpa using g2
      simp only [g1,g2']
      simpa using ih
  · have g1':mQ b=false:=by simpa using g1
    simp only [g1'];simp
theorem mU (n:Nat) (s:Sq jX) (hs:s.n≤4000000) (hS:∀ i,i<s.n→(s.at' i).1.size≤20000∧(s.at' i).2.1.size≤20000) (hn:10000000≤n):vQ n s=some (cS [] (uY bb s)&&decide (s.n≤8)):=by
 have h:=IR n s hs hS hn _ 0 n rfl (Nat.zero_le _) (by rw [List.drop_zero,Me];omega)
 rw [show ((0:Nat):Int)=0 from rfl,List.drop_zero,List.take_zero] at h
 unfold vQ gL
 rw [h]
 cases cS [] (uY bb s)
 · rfl
 · simp only [if_true,Option.bind_some,iY,Bool.true_and,Option.some.injEq]
   exact decide_eq_decide.2 (by omega)
/-! Lines of a text. -/
def cd (l:List Int):Bool:=decide (l.length≤509)&&(!l.contains 13&&!l.contains 10)
theorem YK:∀ l:List UInt8,Lib.containsAny l [13,10]=((l.map fun c=>(c.toNat:Int)).contains 13 || (l.map fun c=>(c.toNat:Int)).contains 10)
 | []=>by decide
 | b::l=>by
  have ih:=YK l
  unfold Lib.containsAny at ih ⊢
  have hg:=Lib.indexAny_ge [13,10] l
  have e13:((13:Int)==(b.toNat:Int))=(b==13):=by
   rw [Bool.eq_iff_iff,beq_iff_eq,beq_iff_eq]
   exact ⟨fun h=>UInt8.toNat_inj.1 (by show b.toNat=13;omega),fun h=>by rw [h];rfl⟩
  have e10:((10:Int)==(b.toNat:Int))=(b==10):=by
   rw [Bool.eq_iff_iff,beq_iff_eq,beq_iff_eq]
   exact ⟨fun h=>UInt8.toNat_inj.1 (by show b.toNat=10;omega),fun h=>by rw [h];rfl⟩
  simp only [List.map_cons,List.contains_cons,e13,e10]
  unfold Lib.indexAny
  by_cases h1:b=13
  · subst h1;rfl
  by_cases h2:b=10
  · subst h2;simp
  have c1:([13,10]:List UInt8).contains b=false:=by simp [h1,h2]
  have d1:(b==13)=false:=by simpa using h1
  have d2:(b==10)=false:=by simpa using h2
  rw [if_neg (by rw [c1];simp),d1,d2,Bool.false_or,Bool.false_or,←ih]
  by_cases hz:Lib.indexAny l [13,10]= -1
  · rw [hz];rfl
  · rw [if_neg (by simpa using hz)]
    exact decide_eq_decide.2 (by omega)
theorem kL (n:Nat) (s:BA) (hs:s.size≤1000000):vg n s=some (cd (bs s)):=by
 unfold vg Nl cd
 rw [Fa]
 by_cases h:s.size≤509
 · have h':(s.size:Int)≤509:=by omega
   have hc:PM s (⟨#[13,10]⟩:BA)=some (Lib.containsAny s.data.toList [13,10]):=by
    unfold PM
    rw [if_pos ⟨by omega,rfl⟩];rfl
   simp only [h',h,decide_true,if_true,hc,Option.bind_some,YK,Bool.not_or,Bool.true_and]
   rfl
 · have h':¬(s.size:Int)≤509:=by omega
   simp [h,h']
theorem TK (n:Nat) (s:BA) (hs:s.size≤1000000):∀ (r:List Int) (k m:Nat),(bs s).drop k=r→k≤s.size→r.length<m→Pb n m s k=some (if (!r.contains 13&&!r.contains 10)=true then .out s else .ret false)
 | [],k,m,h,hk,hm=>by
  obtain ⟨m,rfl⟩:∃ q,m=q+1:=⟨m - 1,by omega⟩
  have:=Zw h
  simp [Pb,Qf,this]
 | c::r,k,m,h,hk,hm=>by
  obtain ⟨m,rfl⟩:∃ q,m=q+1:=⟨m - 1,by omega⟩
  obtain ⟨h1,h2,h3,h4,h5⟩:=Fl h
  have e1:=EY (k:=k) (by omega)
  have a3:(0:Int)≤(k:Int):=by omega
  have ih:=TK n s hs r (k+1) m h3 (by omega) (by simpa using hm)
  simp only [Pb,Qf,h1,h2,a3,e1]
  by_cases g1:c=13
  · subst g1;simp
  · by_cases g2:c=10
    · subst g2;simp
    · have g3:((13:Int)==c)=false:=by simpa using fun e=>g1 e.symm
      have g4:((10:Int)==c)=false:=by simpa using fun e=>g2 e.symm
      simp only [List.contains_cons,g3,g4,Bool.false_or]
      simpa [g1,g2] using ih
theorem eQ (n:Nat) (s:BA) (hs:s.size≤1000000) (hn:10000000≤n):fj n s=some (cd (bs s)):=by
 have h:=TK n s hs (bs s) 0 n (by simp) (by omega) (by rw [Fa];omega)
 rw [show ((0:Nat):Int)=0 from rfl] at h
 unfold fj pp cd
 rw [h,Fa]
 cases (!(bs s).contains 13&&!(bs s).contains 10)
 · simp [iY]
 · simp only [if_true,Option.bind_some,iY,Bool.and_true,Option.some.injEq]
   exact decide_eq_decide.2 (by omega)
theorem UK (n:Nat) (s:Sq BA) (hs:s.n≤4000000) (hS:∀ i,i<s.n→(s.at' i).size≤20000):∀ (r:List (List Int)) (i m:Nat),(uY bs s).drop i=r→i≤s.n→r.length<m→
  ∃ x:Int,0≤x∧ed n m s (s.n:Int) (i:Int)=some (if r.all cd=true then .out () else .ret x)
 | [],i,m,h,hi,hm=>by
  obtain ⟨m,rfl⟩:∃ q,m=q+1:=⟨m - 1,by omega⟩
  have:=cB h
  have e:¬((i:Int)<(s.n:Int)):=by omega
  exact ⟨0,Int.le_refl _,by simp [ed,wi,e]⟩
 | b::r,i,m,h,hi,hm=>by
  obtain ⟨m,rfl⟩:∃ q,m=q+1:=⟨m - 1,by omega⟩
  obtain ⟨h1,h2,h3⟩:=Bu h
  have e1:=EY (k:=i) (by omega)
  have a3:(0:Int)≤(i:Int):=by omega
  have a4:(i:Int)<(s.n:Int):=by omega
  obtain ⟨x,hx0,hx⟩:=UK n s hs hS r (i+1) m h3 (by omega) (by simpa using hm)
  have hz:=hS i h1
  have hd:Zo n (s.at' i)=some (!cd b):=by
   unfold Zo ap
   rw [kL n _ (by omega),h2];rfl
  cases hb:cd b
  · refine ⟨i,a3,?_⟩
    rw [hb] at hd
    simp only [ed,wi,a3,a4,e1,Int.toNat_natCast,hd,decide_true,if_true,and_self,Option.bind_some,Bool.not_false]
    simp [hb]
  · refine ⟨x,hx0,?_⟩
    rw [hb] at hd
    simp only [ed,wi,a3,a4,e1,Int.toNat_natCast,hd,decide_true,if_true,and_self,Option.bind_some,Bool.not_true,Bool.false_eq_true,if_false]
    rw [hx,List.all_cons,hb,Bool.true_and]
theorem dQ (n:Nat) (s:Sq BA) (hs:s.n≤4000000) (hS:∀ i,i<s.n→(s.at' i).size≤20000) (hn:10000000≤n):Gx n s=some (!(uY bs s).all cd,()):=by
 obtain ⟨x,hx0,hx⟩:=UK n s hs hS _ 0 n rfl (Nat.zero_le _) (by rw [List.drop_zero,Me];omega)
 rw [show ((0:Nat):Int)=0 from rfl,List.drop_zero] at hx
 unfold Gx kz MD lz
 rw [hx]
 cases (uY bs s).all cd
 · simp [iY,hx0]
 · simp [iY]
def sw:List (List Int)→Int
 | []=>0
 | l::r=>(l.length:Int)+2+sw r
theorem jL (n:Nat) (s:Sq BA) (hs:s.n≤4000000) (hS:∀ i,i<s.n→(s.at' i).size≤20000):∀ (r:List (List Int)) (i m:Nat) (z:Int),(uY bs s).drop i=r→i≤s.n→r.length<m→0≤z→z≤20002*i→
  Cd n m z s (s.n:Int) (i:Int)=some (.out (z+sw r))
 | [],i,m,z,h,hi,hm,hz,hz2=>by
  obtain ⟨m,rfl⟩:∃ q,m=q+1:=⟨m - 1,by omega⟩
  have:=cB h
  have e:¬((i:Int)<(s.n:Int)):=by omega
  simp [Cd,Bk,e,sw]
 | b::r,i,m,z,h,hi,hm,hz,hz2=>by
  obtain ⟨m,rfl⟩:∃ q,m=q+1:=⟨m - 1,by omega⟩
  obtain ⟨h1,h2,h3⟩:=Bu h
  have e1:=EY (k:=i) (by omega)
  have a3:(0:Int)≤(i:Int):=by omega
  have a4:(i:Int)<(s.n:Int):=by omega
  have hsz:=hS i h1
  have hl:(b.length:Int)=((s.at' i).size:Int):=by rw [←h2,Fa]
  have w1:IntKind.wrap .i64 (((s.at' i).size:Int)+2)=((s.at' i).size:Int)+2:=wr (by omega) (by omega)
  have w2:IntKind.wrap .i64 (z+(((s.at' i).size:Int)+2))=z+(((s.at' i).size:Int)+2):=wr (by omega) (by omega)
  have ih:=jL n s hs hS r (i+1) m (z+(((s.at' i).size:Int)+2)) h3 (by omega) (by simpa using hm) (by omega) (by omega)
  simp only [Cd,Bk,a3,a4,e1,w1,w2,Int.toNat_natCast,decide_true,if_true,and_self]
  rw [ih]
  simp only [sw]
  congr 2
  omega
theorem zQ (n:Nat) (s:Sq BA) (hs:s.n≤4000000) (hS:∀ i,i<s.n→(s.at' i).size≤20000) (hn:10000000≤n):px n s=some (sw (uY bs s)):=by
 have h:=jL n s hs hS _ 0 n 0 rfl (Nat.zero_le _) (by rw [List.drop_zero,Me];omega) (Int.le_refl _) (by simp)
 rw [show ((0:Nat):Int)=0 from rfl,List.drop_zero,Int.zero_add] at h
 unfold px cz
 rw [h];rfl
/-! What is left of a line. -/
def bU:List Int→Bool
 | a::b::r=>(decide (a=13)&&decide (b=10)) || bU (b::r)
 | _=>false
theorem mW:∀ l:List UInt8,Lib.contains l [13,10]=bU (l.map fun c=>(c.toNat:Int))
 | []=>by decide
 | [a]=>by
  unfold Lib.contains Lib.index
  have:([13,10]:List UInt8).isPrefixOf [a]=false:=by simp [List.isPrefixOf]
  rw [if_neg (by rw [this];simp)]
  rfl
 | a::b::l=>by
  have ih:=mW (b::l)
  have hg:=Lib.index_ge (b::l) [13,10]
  have e1:(13==a)=decide ((a.toNat:Int)=13):=by
   rw [Bool.eq_iff_iff,beq_iff_eq,decide_eq_true_iff]
   exact ⟨fun h=>by rw [←h];rfl,fun h=>(UInt8.toNat_inj.1 (by show a.toNat=13;omega)).symm⟩
  have e2:(10==b)=decide ((b.toNat:Int)=10):=by
   rw [Bool.eq_iff_iff,beq_iff_eq,decide_eq_true_iff]
   exact ⟨fun h=>by rw [←h];rfl,fun h=>(UInt8.toNat_inj.1 (by show b.toNat=10;omega)).symm⟩
  have hp:([13,10]:List UInt8).isPrefixOf (a::b::l)=(decide ((a.toNat:Int)=13)&&decide ((b.toNat:Int)=10)):=by
   simp [List.isPrefixOf,e1,e2]
  show _=bU (_::_::_)
  simp only [bU]
  rw [←hp]
  unfold Lib.contains at ih ⊢
  rw [Lib.index]
  cases ([13,10]:List UInt8).isPrefixOf (a::b::l)
  · have ih':decide (0≤Lib.index (b::l) [13,10])=bU ((b.toNat:Int)::l.map fun c=>(c.toNat:Int)):=ih
    rw [Bool.false_or,←ih',if_neg (by simp)]
    by_cases hz:Lib.index (b::l) [13,10]= -1
    · rw [hz];rfl
    · rw [if_neg (by simpa using hz)]
      exact decide_eq_decide.2 (by omega)
  · simp
def lV (sk:Bool) (l:List Int):Bool:=if sk=true then l.isEmpty || decide (l=[13]) else decide (l.length<512)&&!bU l
theorem RV (s:BA):(s.toList==(⟨#[13]⟩:BA).toList)=decide (bs s=[13]):=by rw [Xg];rfl
theorem LS (n:Nat) (s:BA) (sk:Bool) (hs:s.size≤1000000):ci n (s,(sk,()))=some (lV sk (bs s)):=by
 unfold ci Ql lV
 cases sk
 · simp only [Bool.false_eq_true,if_false,Fa]
   by_cases h:s.size<512
   · have h':(s.size:Int)<512:=by omega
     have hc:Fk s (⟨#[13,10]⟩:BA)=some (Lib.contains s.data.toList [13,10]):=by
      unfold Fk
      rw [if_pos (by omega),←Bn]
     simp only [h',h,decide_true,if_true,hc,Option.bind_some,mW,Bool.true_and]
     rfl
   · have h':¬(s.size:Int)<512:=by omega
     simp [h,h']
 · simp only [if_true,lA,RV]
   cases (bs s).isEmpty<;>simp
open Go Go.RowKit
def PX (x lo hi:Int):Bool:=decide (lo≤x)&&decide (x≤hi)
theorem WP (n:Nat) (x lo hi:Int):Xd n x lo hi=some (PX x lo hi):=by
 unfold Xd dp PX
 by_cases h:lo≤x
 · rw [if_pos (by simpa using h),decide_eq_true h];rfl
 · rw [if_neg (by simpa using h),decide_eq_false h];rfl
def FQ (l:List Int):Bool:=decide (l.length≤200)&&ME l
theorem HQ (n:Nat) (s:BA) (hs:s.size≤1000000) (hn:10000000≤n):Fe n s=some (FQ (bs s)):=by
 unfold Fe zt FQ
 rw [Fa]
 by_cases h:s.size≤200
 · rw [if_pos (by simp;omega),oz n s hs hn,NE,decide_eq_true h];rfl
 · rw [if_neg (by simp;omega),decide_eq_false h];rfl
def HV (st:Int) (l:List Int):Bool:=if st=0 then l.isEmpty else if st=5 then l.isEmpty || FQ l else FQ l
def iV (st:Int) (nu:Bool) (fl fd:List Int) (to:List (List Int×List Int)):Bool:=
 if 2≤st∧st≤4 then (if nu=true then fl.isEmpty&&fd.isEmpty else NC fl&&ME fd)&&(cS [] to&&(decide (to.length≤8)&&(to.isEmpty==decide (st=2))))
 else !nu&&((fl.isEmpty&&fd.isEmpty)&&to.isEmpty)
def UN (st:Int) (da:List (List Int)) (by':Int) (ov:Bool):Bool:=
 if st=4∧ov=false then da.all cd&&(decide (by'=sw da)&&decide (by'≤8192)) else da.isEmpty&&(decide (by'=0)&&(!ov || decide (st=4)))
def PV (id te ip:Int) (sk:Bool) (re:List Int) (st:Int) (he:List Int) (nu:Bool) (fl fd:List Int) (to:List (List Int×List Int)) (da:List (List Int)) (by':Int) (ov:Bool):Bool:=
 PX id 1 1099511627776&&(PX te 0 3&&(PX ip 0 1099511627776&&(lV sk re&&(PX st 0 5&&(HV st he&&(iV st nu fl fd to&&UN st da by' ov))))))
def YS (c:T0):Bool:=PV c.1 c.2.1 c.2.2.1 c.2.2.2.1.2.1 (bs c.2.2.2.1.1) c.2.2.2.2.1 (bs c.2.2.2.2.2.1) c.2.2.2.2.2.2.1 (bs c.2.2.2.2.2.2.2.1.1) (bs c.2.2.2.2.2.2.2.1.2.1) (uY bb c.2.2.2.2.2.2.2.2.1) (uY bs c.2.2.2.2.2.2.2.2.2.1) c.2.2.2.2.2.2.2.2.2.2.1 c.2.2.2.2.2.2.2.2.2.2.2.1
theorem RM {α:Type} (l:List α):l.isEmpty=decide (l.length=0):=by cases l<;>simp
theorem AU {T α:Type} (f:T→α) (s:Sq T):((s.n:Int)==(0:Int))=(uY f s).isEmpty:=by
 rw [RM,Me,Bool.eq_iff_iff,beq_iff_eq,decide_eq_true_iff];omega
theorem KJ (n:Nat) (c:T0) (h:Ok 30000 c) (hn:10000000≤n):ab n c=some (iV c.2.2.2.2.1 c.2.2.2.2.2.2.1 (bs c.2.2.2.2.2.2.2.1.1) (bs c.2.2.2.2.2.2.2.1.2.1) (uY bb c.2.2.2.2.2.2.2.2.1)):=by
 obtain ⟨id,te,ip,⟨re,sk,⟨⟩⟩,st,he,nu,⟨fl,fd,⟨⟩⟩,to,da,by',ov,⟨⟩⟩:=c
 have hto:to.n≤30000:=h.to
 have h1:fl.size≤20000:=h.fl
 have h2:fd.size≤20000:=h.fd
 have hM:=aO n fl fd (by omega) (by omega) hn
 have hT:=mU n to (by omega) h.toS hn
 have hl:to.n=(uY bb to).length:=(Me bb to).symm
 unfold ab Vi
 simp only [lA,AU bb,hM,hT,Bool.and_true,Option.bind_some]
 rw [hl]
 unfold iV
 have e2:(st==(2:Int))=decide (st=2):=by rw [Bool.eq_iff_iff,beq_iff_eq,decide_eq_true_iff]
 rw [e2]
 generalize (uY bb to).isEmpty=tE
 generalize cS [] (uY bb to)=t1
 generalize decide ((uY bb to).length≤8)=t2
 generalize (bs fl).isEmpty=f1
 generalize (bs fd).isEmpty=f2
 generalize (NC (bs fl)&&ME (bs fd))=f3
 by_cases g1:st<2
 · have:¬(2≤st∧st≤4):=by omega
   simp only [g1,this,decide_true,Bool.true_eq_false,if_false]
   cases nu<;>cases f1<;>cases f2<;>simp
 · by_cases g2:st>4
   · have:¬(2≤st∧st≤4):=by omega
     simp only [g1,g2,this,decide_true,decide_false,if_true,if_false]
     cases nu<;>cases f1<;>cases f2<;>simp
   · have:2≤st∧st≤4:=by omega
     simp only [g1,g2,this,decide_true,decide_false,if_true]
     cases nu<;>cases f1<;>cases f2<;>cases f3<;>cases t1<;>cases t2<;>simp
theorem AQ (n:Nat) (c:T0) (h:Ok 30000 c) (hn:10000000≤n):Ck n c=some (UN c.2.2.2.2.1 (uY bs c.2.2.2.2.2.2.2.2.2.1) c.2.2.2.2.2.2.2.2.2.2.1 c.2.2.2.2.2.2.2.2.2.2.2.1):=by
 obtain ⟨id,te,ip,⟨re,sk,⟨⟩⟩,st,he,nu,⟨fl,fd,⟨⟩⟩,to,da,by',ov,⟨⟩⟩:=c
 have hda:da.n≤30000:=h.da
 have hF:=dQ n da (by omega) h.daS hn
 have hS:=zQ n da (by omega) h.daS hn
 unfold Ck bp
 simp only [AU bs,hF,hS,Option.bind_some,ba,ia]
 unfold UN
 have e4:(st==(4:Int))=decide (st=4):=by rw [Bool.eq_iff_iff,beq_iff_eq,decide_eq_true_iff]
 have e5:(st !=(4:Int))=!decide (st=4):=by rw [bne,e4]
 have e6:(by'==(0:Int))=decide (by'=0):=by rw [Bool.eq_iff_iff,beq_iff_eq,decide_eq_true_iff]
 have e7:(by'==sw (uY bs da))=decide (by'=sw (uY bs da)):=by rw [Bool.eq_iff_iff,beq_iff_eq,decide_eq_true_iff]
 rw [e5,e4,e6,e7]
 generalize (uY bs da).isEmpty=tE
 generalize (uY bs da).all cd=t1
 generalize decide (by'=sw (uY bs da))=t2
 generalize decide (by'=0)=t3
 generalize decide (by'≤8192)=t4
 by_cases g:st=4
 · cases ov<;>cases tE<;>cases t1<;>cases t2<;>cases t3<;>simp [g]
 · cases ov<;>cases tE<;>cases t1<;>cases t2<;>cases t3<;>simp [g]
theorem GQ:FQ []=false:=by decide
theorem jJ (n:Nat) (c:T0) (h:Ok 30000 c) (hn:10000000≤n):Xx n c=some (YS c):=by
 have hE:=KJ n c h hn
 have hT:=AQ n c h hn
 obtain ⟨id,te,ip,⟨re,sk,⟨⟩⟩,st,he,nu,⟨fl,fd,⟨⟩⟩,to,da,by',ov,⟨⟩⟩:=c
 have h1:re.size≤20000:=h.re
 have h2:he.size≤20000:=h.he
 have hF:=LS n re sk (by omega)
 have hH:=HQ n he (by omega) hn
 unfold Xx zv YS PV
 simp only [WP,hF,hH,hE,hT,lA,Option.bind_some]
 have e0:(st==(0:Int))=decide (st=0):=by rw [Bool.eq_iff_iff,beq_iff_eq,decide_eq_true_iff]
 have e1:(st !=(0:Int))=!decide (st=0):=by rw [bne,e0]
 have e5:(st !=(5:Int))=!decide (st=5):=by
  rw [bne,show (st==(5:Int))=decide (st=5) by rw [Bool.eq_iff_iff,beq_iff_eq,decide_eq_true_iff]]
 rw [e0,e1,e5]
 have hel:HV st (bs he)=if decide (st=0)=true then (bs he).isEmpty else if decide (st=5)=true then (bs he).isEmpty || FQ (bs he) else FQ (bs he):=by
  unfold HV;by_cases g:st=0<;>by_cases g5:st=5<;>simp [g,g5]
 have hnil:(bs he).isEmpty=true→FQ (bs he)=false:=fun e=>by rw [List.isEmpty_iff.1 e];exact GQ
 rw [hel]
 revert hnil
 generalize (bs he).isEmpty=hE'
 generalize FQ (bs he)=hO
 generalize iV _ _ _ _ _=v1
 generalize UN _ _ _ _=v2
 generalize PX id 1 1099511627776=a1
 generalize PX te 0 3=a2
 generalize PX ip 0 1099511627776=a3
 generalize lV _ _=a4
 generalize PX st 0 5=a5
 generalize decide (st=0)=s0
 generalize decide (st=5)=s5
 intro hnil
 cases a1
 · simp
 cases a2
 · simp
 cases a3
 · simp
 cases a4
 · simp
 cases a5
 · simp
 cases hE'<;>cases hO<;>cases s0<;>cases s5<;>cases v1<;>simp at hnil ⊢
open Go Go.RowKit
section
variable (n:Nat) (id te ip:Int) (re:BA) (sk:Bool) (st:Int) (he:BA) (nu:Bool) (fl fd:BA) (to:Sq jX) (da:Sq BA) (by':Int) (ov:Bool)
end
open Go Go.RowKit
theorem CP (n:Nat) (s:BA):za n s (⟨#[46]⟩:BA)=some (if (bs s).head?=some 46 then s.extract 1 s.size else s):=by
 have h:=bf n s (⟨#[46]⟩:BA) (c:=46) rfl
 have h2:Bc n s (⟨#[46]⟩:BA)=some (decide ((bs s).head?=some 46)):=by
  unfold rb ve at h
  cases hh:Bc n s (⟨#[46]⟩:BA) with
  | none=>rw [hh] at h;cases h
  | some v=>rw [hh] at h;exact h
 unfold za zf jf kf
 rw [h2,Option.bind_some]
 by_cases g:(bs s).head?=some 46
 · have hz:1≤s.size:=by
    rw [←Fa]
    cases hb:bs s with
    | nil=>rw [hb] at g;cases g
    | cons a l=>simp
   have z1:((⟨#[46]⟩:BA).size:Int)=1:=rfl
   rw [if_pos (by simpa using g),if_pos g,z1,if_pos ⟨by decide,by omega⟩,Option.bind_some]
   rfl
 · rw [if_neg (by simpa using g),if_neg g];rfl
theorem fG (n:Nat) (id te ip:Int) (re:BA) (sk:Bool) (st:Int) (he:BA) (nu:Bool) (fl fd:BA) (to:Sq jX) (da:Sq BA) (by':Int) (ov:Bool) (h0:to.n≤4000000) (h1:da.n≤4000000):
  gf n (WX id te ip re sk st he nu fl fd to da by' ov)=some (id,(te,(ip,(re,(sk,(st,(he,(nu,(fl,(fd,(by',(ov,(to,(da,())))))))))))))):=by
 have k1:Ek 32 to=some (to,()):=by unfold Ek;rw [if_pos (by omega)]
 have k2:Ek 16 da=some (da,()):=by unfold Ek;rw [if_pos (by omega)]
 unfold gf Ih
 simp only [WX,k1,k2,Option.bind_some,ia]
section
variable (n:Nat) (id te ip:Int) (re:BA) (sk:Bool) (st:Int) (he:BA) (nu:Bool) (fl fd:BA) (to to3:Sq jX) (da da3:Sq BA) (by':Int) (ov:Bool)
end
open Go Go.RowKit
abbrev IY:Sq jX:=⟨0,fun _=>ua (.pair .str (.pair .str .unit))⟩
abbrev HY:Sq BA:=⟨0,fun _=>ua .str⟩
abbrev eS:BA:=⟨#[]⟩
def XX (st:Int):Int:=if st≠0∧st≠5 then 1 else st
theorem qS (a b:Int):(a !=b)=!decide (a=b):=by
 rw [bne,show (a==b)=decide (a=b) by rw [Bool.eq_iff_iff,beq_iff_eq,decide_eq_true_iff]]
section
variable (n:Nat) (id te ip:Int) (re:BA) (sk:Bool) (st:Int) (he:BA) (nu:Bool) (fl fd:BA) (to:Sq jX) (da:Sq BA) (by':Int) (ov:Bool)
theorem cQ:Ad n (WX id te ip re sk st he nu fl fd to da by' ov)=some (id,(te,(ip,(re,(sk,(XX st,(he,(false,(eS,(eS,((0:Int),(false,(IY,(HY,())))))))))))))):=by
 unfold Ad Gl XX
 simp only [WX,qS]
 by_cases g0:st=0<;>by_cases g5:st=5<;>simp [g0,g5]
end
open Go Go.RowKit
open Go Go.RowKit
/-! What weighs much. -/
theorem jU (n:Nat) (l:Sq BA) (hS:∀ i,i<l.n→(l.at' i).size≤140737488351232):∀ (d i m:Nat) (z:Int),i+d=l.n→i≤l.n→0≤z→z≤281474976710656→(z<1048576→d<m)→0<m→i≤1048576→
  (z<1048576→l.n≤1048576)→∃ w,La n m l z (i:Int)=some (.out w)∧z≤w∧w≤281474976710656∧(w≤20000→∀ j,i≤j→j<l.n→(l.at' j).size≤20000)
 | 0,i,m,z,hi,hil,hz,hz2,hm,hm0,hi2,hln=>by
  obtain ⟨m,rfl⟩:∃ q,m=q+1:=⟨m - 1,by omega⟩
  have e:¬((i:Int)<(l.n:Int)):=by omega
  exact ⟨z,by simp [La,Fb,e],Int.le_refl _,hz2,fun _ j h1 h2=>by omega⟩
 | d+1,i,m,z,hi,hil,hz,hz2,hm,hm0,hi2,hln=>by
  obtain ⟨m,rfl⟩:∃ q,m=q+1:=⟨m - 1,by omega⟩
  have a4:(i:Int)<(l.n:Int):=by omega
  have a3:(0:Int)≤(i:Int):=by omega
  by_cases g:z<1048576
  · have hm':=hm g
    have hln':=hln g
    have e1:=EY (k:=i) (by omega)
    have hs:=hS i (by omega)
    have w1:IntKind.wrap .i64 (z+((l.at' i).size:Int))=z+((l.at' i).size:Int):=wr (by omega) (by omega)
    obtain ⟨w,hw,h1,h2,h3⟩:=jU n l hS d (i+1) m (z+((l.at' i).size:Int)) (by omega) (by omega) (by omega) (by omega) (fun _=>by omega) (by omega) (by omega) (fun _=>hln')
    refine ⟨w,?_,by omega,h2,fun hw2 j j1 j2=>?_⟩
    · simp only [La,Fb,a3,a4,g,e1,w1,Int.toNat_natCast,decide_true,if_true,and_self]
      exact hw
    · by_cases hj:j=i
      · subst hj;omega
      · exact h3 hw2 j (by omega) j2
  · exact ⟨z,by simp [La,Fb,a4,g],Int.le_refl _,hz2,fun hw=>by omega⟩
theorem tV (n:Nat) (l:Sq BA) (hl:l.n≤140737488351232) (hS:∀ i,i<l.n→(l.at' i).size≤140737488351232) (hn:10000000≤n):
  ∃ w:Int,de n l=some w∧0≤w∧w≤281474976710656∧(w≤20000→l.n≤20000∧∀ j,j<l.n→(l.at' j).size≤20000):=by
 obtain ⟨w,hw,h1,h2,h3⟩:=jU n l hS l.n 0 n (l.n:Int) (by omega) (Nat.zero_le _) (by omega) (by omega) (fun h=>by omega) (by omega) (by omega) (fun h=>by omega)
 rw [show ((0:Nat):Int)=0 from rfl] at hw
 refine ⟨w,?_,by omega,h2,fun hw2=>⟨by omega,fun j hj=>h3 hw2 j (Nat.zero_le _) hj⟩⟩
 unfold de Df
 rw [hw];rfl
section
variable (n:Nat) (c1 c2 c3:Int) (c4:BA) (c5:Bool) (c6:Int) (c7:BA) (c8:Bool) (c9 c10:BA) (to:Sq jX) (da:Sq BA) (c13:Int) (c14:Bool)
theorem pV (hS:∀ i,i<to.n→(to.at' i).1.size≤140737488351232∧(to.at' i).2.1.size≤140737488351232):∀ (d i m:Nat) (z:Int),(1048576 - z).toNat≤d→d<m→0≤z→z≤1407374883553280→i≤to.n→i≤z→
  ∃ w:Int,Ca n m z (i:Int) c1 c2 c3 c4 c5 c6 c7 c8 c9 c10 to da c13 c14=some (.out w)∧z≤w∧w≤1407374883553280∧(w≤20000→z+(to.n - i)≤w∧∀ j,i≤j→j<to.n→(to.at' j).1.size≤20000∧(to.at' j).2.1.size≤20000):=by
 intro d
 induction d with
 | zero=>
  intro i m z hd hm hz hz2 hi hiz
  obtain ⟨m,rfl⟩:∃ q,m=q+1:=⟨m - 1,by omega⟩
  by_cases a4:(i:Int)<(to.n:Int)
  · have g:¬(z<1048576):=by omega
    exact ⟨z,by simp [Ca,Pa,a4,g],Int.le_refl _,hz2,fun hw=>by omega⟩
  · exact ⟨z,by simp [Ca,Pa,a4],Int.le_refl _,hz2,fun hw=>⟨by omega,fun j h1 h2=>by omega⟩⟩
 | succ d ih=>
  intro i m z hd hm hz hz2 hi hiz
  obtain ⟨m,rfl⟩:∃ q,m=q+1:=⟨m - 1,by omega⟩
  by_cases a4:(i:Int)<(to.n:Int)
  · by_cases g:z<1048576
    · have a3:(0:Int)≤(i:Int):=by omega
      have e1:=EY (k:=i) (by omega)
      obtain ⟨s1,s2⟩:=hS i (by omega)
      have w0:IntKind.wrap .i64 (z+1)=z+1:=wr (by omega) (by omega)
      have w1:IntKind.wrap .i64 (z+1+((to.at' i).1.size:Int))=z+1+((to.at' i).1.size:Int):=wr (by omega) (by omega)
      have w2:IntKind.wrap .i64 (z+1+((to.at' i).1.size:Int)+((to.at' i).2.1.size:Int))=z+1+((to.at' i).1.size:Int)+((to.at' i).2.1.size:Int):=wr (by omega) (by omega)
      obtain ⟨w,hw,h1,h2,h3⟩:=ih (i+1) m (z+1+((to.at' i).1.size:Int)+((to.at' i).2.1.size:Int)) (by omega) (by omega) (by omega) (by omega) (by omega) (by omega)
      refine ⟨w,?_,by omega,h2,fun hw2=>⟨by have:=(h3 hw2).1;omega,fun j j1 j2=>?_⟩⟩
      · simp only [Ca,Pa,a3,a4,g,e1,w0,w1,w2,Int.toNat_natCast,decide_true,if_true,and_self]
        exact hw
      · by_cases hj:j=i
        · subst hj;omega
        · exact (h3 hw2).2 j (by omega) j2
    · exact ⟨z,by simp [Ca,Pa,a4,g],Int.le_refl _,hz2,fun hw=>by omega⟩
  · exact ⟨z,by simp [Ca,Pa,a4],Int.le_refl _,hz2,fun hw=>⟨by omega,fun j h1 h2=>by omega⟩⟩
end
structure Big (c:T0):Prop where
 re:c.2.2.2.1.1.size≤140737488351232
 he:c.2.2.2.2.2.1.size≤140737488351232
 fl:c.2.2.2.2.2.2.2.1.1.size≤140737488351232
 fd:c.2.2.2.2.2.2.2.1.2.1.size≤140737488351232
 to:c.2.2.2.2.2.2.2.2.1.n≤140737488351232
 toS:∀ i,i<c.2.2.2.2.2.2.2.2.1.n→(c.2.2.2.2.2.2.2.2.1.at' i).1.size≤140737488351232∧(c.2.2.2.2.2.2.2.2.1.at' i).2.1.size≤140737488351232
 da:c.2.2.2.2.2.2.2.2.2.1.n≤140737488351232
 daS:∀ i,i<c.2.2.2.2.2.2.2.2.2.1.n→(c.2.2.2.2.2.2.2.2.2.1.at' i).size≤140737488351232
theorem qV (n:Nat) (c:T0) (h:Big c) (hn:10000000≤n):∃ w:Int,zc n c=some w∧0≤w∧w≤1407374883553280∧(w≤20000→Ok 20000 c):=by
 obtain ⟨id,te,ip,⟨re,sk,⟨⟩⟩,st,he,nu,⟨fl,fd,⟨⟩⟩,to,da,by',ov,⟨⟩⟩:=c
 have h1:re.size≤140737488351232:=h.re
 have h2:he.size≤140737488351232:=h.he
 have h3:fl.size≤140737488351232:=h.fl
 have h4:fd.size≤140737488351232:=h.fd
 obtain ⟨v,k1,k2,k3,k4⟩:=tV n da h.da h.daS hn
 have w1:IntKind.wrap .i64 ((he.size:Int)+(re.size:Int))=(he.size:Int)+(re.size:Int):=wr (by omega) (by omega)
 have w2:IntKind.wrap .i64 ((he.size:Int)+(re.size:Int)+v)=(he.size:Int)+(re.size:Int)+v:=wr (by omega) (by omega)
 have w3:IntKind.wrap .i64 ((he.size:Int)+(re.size:Int)+v+(fl.size:Int))=(he.size:Int)+(re.size:Int)+v+(fl.size:Int):=wr (by omega) (by omega)
 have w4:IntKind.wrap .i64 ((he.size:Int)+(re.size:Int)+v+(fl.size:Int)+(fd.size:Int))=(he.size:Int)+(re.size:Int)+v+(fl.size:Int)+(fd.size:Int):=wr (by omega) (by omega)
 obtain ⟨w,l1,l2,l3,l4⟩:=pV n id te ip re sk st he nu fl fd to da by' ov h.toS 1048576 0 n ((he.size:Int)+(re.size:Int)+v+(fl.size:Int)+(fd.size:Int)) (by omega) (by omega) (by omega) (by omega) (Nat.zero_le _) (by omega)
 rw [show ((0:Nat):Int)=0 from rfl] at l1
 refine ⟨w,?_,by omega,l3,fun hw=>?_⟩
 · unfold zc ce
   simp only [k1,Option.bind_some,w1,w2,w3,w4,l1,iY]
 · obtain ⟨m1,m2⟩:=l4 hw
   obtain ⟨o1,o2⟩:=k4 (by omega)
   exact ⟨by show re.size≤_;omega,by show he.size≤_;omega,by show fl.size≤_;omega,by show fd.size≤_;omega,by show to.n≤_;omega,fun i hi=>m2 i (Nat.zero_le _) hi,o1,o2⟩
def kX (N:Nat) (a:T2):Prop:=a.2.2.2.1.1.size≤N∧a.2.2.2.2.1.2.1.size≤N∧a.2.2.2.2.1.2.2.2.1.1.size≤N∧a.2.2.2.2.1.2.2.2.1.2.1.size≤N
section
variable (n:Nat) (c1 c2 c3:Int) (c4:BA) (c5:Bool) (c6:Int) (c7:BA) (c8:Bool) (c9 c10:BA) (to:Sq jX) (da:Sq BA) (c13:Int) (c14:Bool) (l:Sq T2)
theorem rV (hS:∀ i,i<l.n→kX 140737488351232 (l.at' i)):∀ (d i m:Nat) (z:Int),(1048576 - z).toNat≤d→d<m→0≤z→z≤2814749767106560→i≤l.n→i≤z→
  ∃ w:Int,qb n m z (i:Int) c1 c2 c3 c4 c5 c6 c7 c8 c9 c10 to da c13 c14 l=some (.out (w,c1,c2,c3,c4,c5,c6,c7,c8,c9,c10,to,da,c13,c14,l))∧z≤w∧(w≤20000→∀ j,i≤j→j<l.n→kX 20000 (l.at' j)):=by
 intro d
 induction d with
 | zero=>
  intro i m z hd hm hz hz2 hi hiz
  obtain ⟨m,rfl⟩:∃ q,m=q+1:=⟨m - 1,by omega⟩
  by_cases a4:(i:Int)<(l.n:Int)
  · have g:¬(z<1048576):=by omega
    exact ⟨z,by simp [qb,Yc,a4,g],Int.le_refl _,fun hw=>by omega⟩
  · exact ⟨z,by simp [qb,Yc,a4],Int.le_refl _,fun hw j h1 h2=>by omega⟩
 | succ d ih=>
  intro i m z hd hm hz hz2 hi hiz
  obtain ⟨m,rfl⟩:∃ q,m=q+1:=⟨m - 1,by omega⟩
  by_cases a4:(i:Int)<(l.n:Int)
  · by_cases g:z<1048576
    · have a3:(0:Int)≤(i:Int):=by omega
      have e1:=EY (k:=i) (by omega)
      obtain ⟨s1,s2,s3,s4⟩:=hS i (by omega)
      generalize hq:l.at' i=q at s1 s2 s3 s4
      have w0:IntKind.wrap .i64 (z+1)=z+1:=wr (by omega) (by omega)
      have w1:IntKind.wrap .i64 (z+1+(q.2.2.2.1.1.size:Int))=z+1+(q.2.2.2.1.1.size:Int):=wr (by omega) (by omega)
      have w2:IntKind.wrap .i64 (z+1+(q.2.2.2.1.1.size:Int)+(q.2.2.2.2.1.2.1.size:Int))=z+1+(q.2.2.2.1.1.size:Int)+(q.2.2.2.2.1.2.1.size:Int):=wr (by omega) (by omega)
      have w3:IntKind.wrap .i64 (z+1+(q.2.2.2.1.1.size:Int)+(q.2.2.2.2.1.2.1.size:Int)+(q.2.2.2.2.1.2.2.2.1.1.size:Int))=z+1+(q.2.2.2.1.1.size:Int)+(q.2.2.2.2.1.2.1.size:Int)+(q.2.2.2.2.1.2.2.2.1.1.size:Int):=wr (by omega) (by omega)
      have w4:IntKind.wrap .i64 (z+1+(q.2.2.2.1.1.size:Int)+(q.2.2.2.2.1.2.1.size:Int)+(q.2.2.2.2.1.2.2.2.1.1.size:Int)+(q.2.2.2.2.1.2.2.2.1.2.1.size:Int))=z+1+(q.2.2.2.1.1.size:Int)+(q.2.2.2.2.1.2.1.size:Int)+(q.2.2.2.2.1.2.2.2.1.1.size:Int)+(q.2.2.2.2.1.2.2.2.1.2.1.size:Int):=wr (by omega) (by omega)
      obtain ⟨w,hw,h1,h3⟩:=ih (i+1) m (z+1+(q.2.2.2.1.1.size:Int)+(q.2.2.2.2.1.2.1.size:Int)+(q.2.2.2.2.1.2.2.2.1.1.size:Int)+(q.2.2.2.2.1.2.2.2.1.2.1.size:Int)) (by omega) (by omega) (by omega) (by omega) (by omega) (by omega)
      refine ⟨w,?_,by omega,fun hw2 j j1 j2=>?_⟩
      · simp only [qb,Yc,a3,a4,g,e1,hq,w0,w1,w2,w3,w4,Int.toNat_natCast,decide_true,if_true,and_self]
        exact hw
      · by_cases hj:j=i
        · subst hj;rw [hq];exact ⟨by omega,by omega,by omega,by omega⟩
        · exact h3 hw2 j (by omega) j2
    · exact ⟨z,by simp [qb,Yc,a4,g],Int.le_refl _,fun hw=>by omega⟩
  · exact ⟨z,by simp [qb,Yc,a4],Int.le_refl _,fun hw j h1 h2=>by omega⟩
end
abbrev lX:=T0×(Sq T2×Unit)
end Go.Proofs.YtddefjokgaajfaaGreatDoor.AM
