/- Callers, plainly: sequences that are alike, copies, equality, what is spoiled, weights. -/
import Derived.Test.YtdohilmgblkppaaGreatDoorYV
import Derived.Lib.IndexMore
import Derived.Lib.IndexAny
import Derived.Test.YtdohilmgblkppaaGreatDoorYM
import Derived.Test.YtdohilmgblkppaaGreatDoorYF4
set_option linter.all false
set_option linter.unusedVariables false
set_option linter.unusedSimpArgs false
namespace Go.Proofs.YtdohilmgblkppaaGreatDoor.AM
open Go Go.RowKit
def SqE {T:Type} (a b:Sq T):Prop:=a.n=b.n∧∀ i,i<a.n→a.at' i=b.at' i
theorem SqE.refl {T:Type} (a:Sq T):SqE a a:=⟨rfl,fun _ _=>rfl⟩
theorem SqE.symm {T:Type} {a b:Sq T} (h:SqE a b):SqE b a:=⟨h.1.symm,fun i hi=>(h.2 i (by rw [h.1];exact hi)).symm⟩
theorem SqE.trans {T:Type} {a b c:Sq T} (h:SqE a b) (k:SqE b c):SqE a c:=⟨h.1.trans k.1,fun i hi=>(h.2 i hi).trans (k.2 i (by rw [←h.1];exact hi))⟩
theorem SqE.zero {T:Type} (f g:Nat→T):SqE (⟨0,f⟩:Sq T) ⟨0,g⟩:=⟨rfl,fun i hi=>absurd hi (Nat.not_lt_zero i)⟩
abbrev Mbx:=BA×(BA×Unit)
theorem BN (n:Nat) (a b:Sq BA) (h:SqE a b) (hn:a.n≤4000000):∀ (d i m:Nat),i+d=a.n→d<m→eb n m a b (i:Int)=some (.out ())
 | 0,i,m,hi,hm=>by
  obtain ⟨m,rfl⟩:∃ q,m=q+1:=⟨m - 1,by omega⟩
  have e:¬((i:Int)<(a.n:Int)):=by omega
  simp [eb,fe,e]
 | d+1,i,m,hi,hm=>by
  obtain ⟨m,rfl⟩:∃ q,m=q+1:=⟨m - 1,by omega⟩
  have e1:=wr1 (k:=i) (by omega)
  have a3:(0:Int)≤(i:Int):=by omega
  have a4:(i:Int)<(a.n:Int):=by omega
  have a5:(i:Int)<(b.n:Int):=by rw [←h.1];exact a4
  have ih:=BN n a b h hn d (i+1) m (by omega) (by omega)
  have e2:=h.2 i (by omega)
  simp only [eb,fe,a3,a4,a5,e1,e2,Int.toNat_natCast,decide_true,if_true,and_self,beq_self_eq_true,Bool.not_true,Bool.false_eq_true,if_false]
  exact ih
theorem TZ (n:Nat) (a b:Sq BA) (h:SqE a b) (hl:a.n≤4000000) (hn:10000000≤n):qi n a b=some true:=by
 have h0:=BN n a b h hl a.n 0 n (by omega) (by omega)
 rw [show ((0:Nat):Int)=0 from rfl] at h0
 unfold qi Xk
 rw [if_neg (by rw [h.1];simp),h0];rfl
theorem RD (n:Nat) (a b:Sq Mbx) (h:SqE a b) (hn:a.n≤4000000):∀ (d i m:Nat),i+d=a.n→d<m→Ra n m a b (i:Int)=some (.out ())
 | 0,i,m,hi,hm=>by
  obtain ⟨m,rfl⟩:∃ q,m=q+1:=⟨m - 1,by omega⟩
  have e:¬((i:Int)<(a.n:Int)):=by omega
  simp [Ra,Uc,e]
 | d+1,i,m,hi,hm=>by
  obtain ⟨m,rfl⟩:∃ q,m=q+1:=⟨m - 1,by omega⟩
  have e1:=wr1 (k:=i) (by omega)
  have a3:(0:Int)≤(i:Int):=by omega
  have a4:(i:Int)<(a.n:Int):=by omega
  have a5:(i:Int)<(b.n:Int):=by rw [←h.1];exact a4
  have ih:=RD n a b h hn d (i+1) m (by omega) (by omega)
  have e2:=h.2 i (by omega)
  simp only [Ra,Uc,a3,a4,a5,e1,e2,Int.toNat_natCast,decide_true,if_true,and_self,beq_self_eq_true,Bool.and_self,Bool.not_true,Bool.false_eq_true,if_false]
  exact ih
theorem qU (n:Nat) (a b:Sq Mbx) (h:SqE a b) (hl:a.n≤4000000) (hn:10000000≤n):Cf n a b=some true:=by
 have h0:=RD n a b h hl a.n 0 n (by omega) (by omega)
 rw [show ((0:Nat):Int)=0 from rfl] at h0
 unfold Cf Eh
 rw [if_neg (by rw [h.1];simp),h0];rfl
abbrev mkC (id te ip:Int) (re:BA) (sk:Bool) (st:Int) (he:BA) (nu:Bool) (fl fd:BA) (to:Sq Mbx) (da:Sq BA) (by':Int) (ov:Bool):T0:=
 (id,(te,(ip,((re,(sk,())),(st,(he,(nu,((fl,(fd,())),(to,(da,(by',(ov,()))))))))))))
def CE (a b:T0):Prop:=∃ id te ip re sk st he nu fl fd to to' da da' by' ov,a=mkC id te ip re sk st he nu fl fd to da by' ov∧b=mkC id te ip re sk st he nu fl fd to' da' by' ov∧SqE to to'∧SqE da da'
structure Ok (B:Nat) (c:T0):Prop where
 re:c.2.2.2.1.1.size≤20000
 he:c.2.2.2.2.2.1.size≤20000
 fl:c.2.2.2.2.2.2.2.1.1.size≤20000
 fd:c.2.2.2.2.2.2.2.1.2.1.size≤20000
 to:c.2.2.2.2.2.2.2.2.1.n≤B
 toS:∀ i,i<c.2.2.2.2.2.2.2.2.1.n→(c.2.2.2.2.2.2.2.2.1.at' i).1.size≤20000∧(c.2.2.2.2.2.2.2.2.1.at' i).2.1.size≤20000
 da:c.2.2.2.2.2.2.2.2.2.1.n≤B
 daS:∀ i,i<c.2.2.2.2.2.2.2.2.2.1.n→(c.2.2.2.2.2.2.2.2.2.1.at' i).size≤20000
theorem Ok.mono {B B':Nat} {c:T0} (h:Ok B c) (hb:B≤B'):Ok B' c:=⟨h.re,h.he,h.fl,h.fd,Nat.le_trans h.to hb,h.toS,Nat.le_trans h.da hb,h.daS⟩
theorem CE.refl (a:T0):CE a a:=by
 obtain ⟨id,te,ip,⟨re,sk,⟨⟩⟩,st,he,nu,⟨fl,fd,⟨⟩⟩,to,da,by',ov,⟨⟩⟩:=a
 exact ⟨id,te,ip,re,sk,st,he,nu,fl,fd,to,to,da,da,by',ov,rfl,rfl,SqE.refl _,SqE.refl _⟩
theorem CE.symm {a b:T0} (h:CE a b):CE b a:=by
 obtain ⟨id,te,ip,re,sk,st,he,nu,fl,fd,to,to',da,da',by',ov,h1,h2,h3,h4⟩:=h
 exact ⟨id,te,ip,re,sk,st,he,nu,fl,fd,to',to,da',da,by',ov,h2,h1,h3.symm,h4.symm⟩
theorem CE.trans {a b c:T0} (h:CE a b) (k:CE b c):CE a c:=by
 obtain ⟨id,te,ip,re,sk,st,he,nu,fl,fd,to,to',da,da',by',ov,rfl,rfl,h3,h4⟩:=h
 obtain ⟨id2,te2,ip2,re2,sk2,st2,he2,nu2,fl2,fd2,to2,to2',da2,da2',by2,ov2,k1,rfl,k3,k4⟩:=k
 simp only [mkC,Prod.mk.injEq] at k1
 obtain ⟨rfl,rfl,rfl,⟨rfl,rfl,_⟩,rfl,rfl,rfl,⟨rfl,rfl,_⟩,rfl,rfl,rfl,rfl,_⟩:=k1
 exact ⟨_,_,_,_,_,_,_,_,_,_,to,to2',da,da2',_,_,rfl,rfl,h3.trans k3,h4.trans k4⟩
theorem O6 (n:Nat) {a b:T0} (h:CE a b) (h1:Ok 4000000 a) (hn:10000000≤n):wa n a b=some true:=by
 obtain ⟨id,te,ip,re,sk,st,he,nu,fl,fd,to,to',da,da',by',ov,rfl,rfl,h3,h4⟩:=h
 have e1:=qU n to to' h3 h1.to hn
 have e2:=TZ n da da' h4 h1.da hn
 unfold wa Kn
 simp only [mkC,beq_self_eq_true,if_true,Bool.and_self,e1,e2,Option.bind_some]
/-! Copies. -/
/-! What is spoiled. -/
open Go Go.RowKit
def bb (b:Mbx):List Int×List Int:=(bs b.1,bs b.2.1)
theorem Eib (v1 v2:BA) (b:Mbx):((v1.toList==b.1.toList)&&((v2.toList==b.2.1.toList)&&true))=decide (bb b=(bs v1,bs v2)):=by
 rw [tc,tc,Bool.and_true,bb,←Bool.decide_and]
 exact decide_eq_decide.2 ⟨fun h=>by rw [h.1,h.2],fun h=>by rw [Prod.mk.injEq] at h;exact ⟨h.1.symm,h.2.symm⟩⟩
theorem Rhb (v1 v2:BA) (b:Mbx):((b.1.toList==v1.toList)&&((b.2.1.toList==v2.toList)&&true))=decide (bb b=(bs v1,bs v2)):=by
 rw [←Eib]
 congr 1
 · rw [tc,tc];exact decide_eq_decide.2 eq_comm
 · congr 1;rw [tc,tc];exact decide_eq_decide.2 eq_comm
theorem jp (s:BA):(s.toList==(⟨#[]⟩:BA).toList)=(bs s).isEmpty:=by
 rw [tc]
 cases h:bs s with
 | nil=>rfl
 | cons a l=>exact decide_eq_false (by simp [bs])
/-! Is it one of these? -/
theorem o0 (n:Nat) (s:Sq Mbx) (hs:s.n≤4000000) (v1 v2:BA):∀ (r:List (List Int×List Int)) (i m:Nat),(sqL bb s).drop i=r→i≤s.n→r.length<m→
  ∃ x:Int,0≤x∧dy n m s (s.n:Int) (i:Int) v1 v2=some (if r.contains (bs v1,bs v2)=true then .ret x else .out ())
 | [],i,m,h,hi,hm=>by
  obtain ⟨m,rfl⟩:∃ q,m=q+1:=⟨m - 1,by omega⟩
  have:=fq h
  have e:¬((i:Int)<(s.n:Int)):=by omega
  exact ⟨0,Int.le_refl _,by simp [dy,tT,e]⟩
 | b::r,i,m,h,hi,hm=>by
  obtain ⟨m,rfl⟩:∃ q,m=q+1:=⟨m - 1,by omega⟩
  obtain ⟨h1,h2,h3⟩:=sj h
  have e1:=wr1 (k:=i) (by omega)
  have a3:(0:Int)≤(i:Int):=by omega
  have a4:(i:Int)<(s.n:Int):=by omega
  obtain ⟨x,hx0,hx⟩:=o0 n s hs v1 v2 r (i+1) m h3 (by omega) (by simpa using hm)
  by_cases g:b=(bs v1,bs v2)
  · refine ⟨i,a3,?_⟩
    simp only [dy,tT,a3,a4,e1,Int.toNat_natCast,Eib,h2,g,decide_true,if_true,and_self]
    simp
  · refine ⟨x,hx0,?_⟩
    have g':((bs v1,bs v2)==b)=false:=by simpa using fun e=>g e.symm
    simp only [dy,tT,a3,a4,e1,Int.toNat_natCast,Eib,h2,g,decide_true,decide_false,if_true,and_self,Bool.false_eq_true,if_false]
    rw [hx,List.contains_cons,g',Bool.false_or]
theorem CN (n:Nat) (s:Sq Mbx) (hs:s.n≤4000000) (v:Mbx) (hn:10000000≤n):sCn n s v=some ((sqL bb s).contains (bb v)):=by
 obtain ⟨x,hx0,hx⟩:=o0 n s hs v.1 v.2.1 _ 0 n rfl (Nat.zero_le _) (by rw [List.drop_zero,Bc];omega)
 rw [show ((0:Nat):Int)=0 from rfl,List.drop_zero] at hx
 unfold sCn khb sIx nhb
 simp only [hx,Option.bind_some]
 show _=some ((sqL bb s).contains (bs v.1,bs v.2.1))
 cases (sqL bb s).contains (bs v.1,bs v.2.1)
 · rfl
 · simp [onL,hx0]
theorem gW (n:Nat) (s:Sq Mbx) (hs:s.n≤4000000) (v1 v2:BA):∀ (r:List (List Int×List Int)) (i m:Nat),(sqL bb s).drop i=r→i≤s.n→r.length<m→
  ∃ x:Int,0≤x∧rb n m s (i:Int) v1 v2=some (if r.contains (bs v1,bs v2)=true then .ret x else .out ())
 | [],i,m,h,hi,hm=>by
  obtain ⟨m,rfl⟩:∃ q,m=q+1:=⟨m - 1,by omega⟩
  have:=fq h
  have e:¬((i:Int)<(s.n:Int)):=by omega
  exact ⟨0,Int.le_refl _,by simp [rb,Pe,e]⟩
 | b::r,i,m,h,hi,hm=>by
  obtain ⟨m,rfl⟩:∃ q,m=q+1:=⟨m - 1,by omega⟩
  obtain ⟨h1,h2,h3⟩:=sj h
  have e1:=wr1 (k:=i) (by omega)
  have a3:(0:Int)≤(i:Int):=by omega
  have a4:(i:Int)<(s.n:Int):=by omega
  obtain ⟨x,hx0,hx⟩:=gW n s hs v1 v2 r (i+1) m h3 (by omega) (by simpa using hm)
  by_cases g:b=(bs v1,bs v2)
  · refine ⟨i,a3,?_⟩
    simp only [rb,Pe,a3,a4,e1,Int.toNat_natCast,Rhb,h2,g,decide_true,if_true,and_self]
    simp
  · refine ⟨x,hx0,?_⟩
    have g':((bs v1,bs v2)==b)=false:=by simpa using fun e=>g e.symm
    simp only [rb,Pe,a3,a4,e1,Int.toNat_natCast,Rhb,h2,g,decide_true,decide_false,if_true,and_self,Bool.false_eq_true,if_false]
    rw [hx,List.contains_cons,g',Bool.false_or]
theorem Cbb (n:Nat) (s:Sq Mbx) (hs:s.n≤4000000) (v:Mbx) (hn:10000000≤n):∃ x:Int,xd n s v=some x∧decide (x≥0)=(sqL bb s).contains (bb v):=by
 obtain ⟨x,hx0,hx⟩:=gW n s hs v.1 v.2.1 _ 0 n rfl (Nat.zero_le _) (by rw [List.drop_zero,Bc];omega)
 rw [show ((0:Nat):Int)=0 from rfl,List.drop_zero] at hx
 unfold xd lr
 simp only [hx,Option.bind_some]
 show ∃ y:Int,_∧decide (y≥0)=(sqL bb s).contains (bs v.1,bs v.2.1)
 cases (sqL bb s).contains (bs v.1,bs v.2.1)
 · exact ⟨-1,rfl,rfl⟩
 · exact ⟨x,rfl,decide_eq_true hx0⟩
/-! Recipients. -/
def EU (b:List Int×List Int):Bool:=Su b.1&&Km b.2
def M6:List (List Int×List Int)→List (List Int×List Int)→Bool
 | _,[]=>true
 | pre,b::r=>EU b&&(!pre.contains b&&M6 (pre++[b]) r)
theorem xfb {s:Sq Mbx} {i:Nat} (hi:i≤s.n):sqL bb (⟨Int.toNat (i:Int) - Int.toNat (0:Int),fun j=>s.at' (Int.toNat (0:Int)+j)⟩:Sq Mbx)=(sqL bb s).take i:=by
 unfold sqL
 show (List.range (i - 0)).map (fun j=>bb (s.at' (0+j)))=_
 rw [←List.map_take,List.take_range,Nat.sub_zero,Nat.min_eq_left hi]
 simp
theorem S5 {α:Type} {l r:List α} {i:Nat} {b:α} (h:l.drop i=b::r):l.take (i+1)=l.take i++[b]:=by
 have h0:l[i]?=some b:=by
  have:=congrArg (fun l=>l[0]?) h
  simpa using this
 rw [List.take_add_one,h0];rfl
theorem Shb (n:Nat) (s:Sq Mbx) (hs:s.n≤4000000) (hS:∀ i,i<s.n→(s.at' i).1.size≤20000∧(s.at' i).2.1.size≤20000) (hn:10000000≤n):∀ (r:List (List Int×List Int)) (i m:Nat),(sqL bb s).drop i=r→i≤s.n→r.length<m→
  ep n m s s (s.n:Int) (i:Int)=some (if M6 ((sqL bb s).take i) r=true then .out s else .ret false)
 | [],i,m,h,hi,hm=>by
  obtain ⟨m,rfl⟩:∃ q,m=q+1:=⟨m - 1,by omega⟩
  have:=fq h
  have e:¬((i:Int)<(s.n:Int)):=by omega
  simp [ep,OL,e,M6]
 | b::r,i,m,h,hi,hm=>by
  obtain ⟨m,rfl⟩:∃ q,m=q+1:=⟨m - 1,by omega⟩
  obtain ⟨h1,h2,h3⟩:=sj h
  have e1:=wr1 (k:=i) (by omega)
  have a3:(0:Int)≤(i:Int):=by omega
  have a4:(i:Int)<(s.n:Int):=by omega
  have a5:(i:Int)≤(s.n:Int):=by omega
  obtain ⟨z1,z2⟩:=hS i h1
  have ih:=Shb n s hs hS hn r (i+1) m h3 (by omega) (by simpa using hm)
  have hM:=T6 n (s.at' i).1 (s.at' i).2.1 (by omega) (by omega) hn
  have hC:=CN n (⟨Int.toNat (i:Int) - Int.toNat (0:Int),fun j=>s.at' (Int.toNat (0:Int)+j)⟩:Sq Mbx) (by show i - 0≤_;omega) ((s.at' i).1,((s.at' i).2.1,())) hn
  rw [xfb hi] at hC
  have hb:bb ((s.at' i).1,((s.at' i).2.1,()))=b:=h2
  rw [hb] at hC
  have hb2:(Su (bs (s.at' i).1)&&Km (bs (s.at' i).2.1))=EU b:=by rw [←h2];rfl
  rw [hb2] at hM
  rw [S5 h] at ih
  simp only [Int.toNat_natCast] at hC
  simp only [ep,OL,a3,a4,a5,e1,Int.toNat_natCast,hM,hC,decide_true,if_true,and_self,Option.bind_some,M6]
  by_cases g1:EU b=true
  · by_cases g2:((sqL bb s).take i).contains b=true
    · simp only [g1,g2];simp
    · have g2':((sqL bb s).take i).contains b=false:=by simpa using g2
      simp only [g1,g2']
      simpa using ih
  · have g1':EU b=false:=by simpa using g1
    simp only [g1'];simp
theorem vkb (n:Nat) (s:Sq Mbx) (hs:s.n≤4000000) (hS:∀ i,i<s.n→(s.at' i).1.size≤20000∧(s.at' i).2.1.size≤20000) (hn:10000000≤n):Dgb n s=some (M6 [] (sqL bb s)&&decide (s.n≤8)):=by
 have h:=Shb n s hs hS hn _ 0 n rfl (Nat.zero_le _) (by rw [List.drop_zero,Bc];omega)
 rw [show ((0:Nat):Int)=0 from rfl,List.drop_zero,List.take_zero] at h
 unfold Dgb sab
 rw [h]
 cases M6 [] (sqL bb s)
 · rfl
 · simp only [if_true,Option.bind_some,onL,Bool.true_and,Option.some.injEq]
   exact decide_eq_decide.2 (by omega)
/-! Lines of a text. -/
def ue (l:List Int):Bool:=decide (l.length≤509)&&(!l.contains 13&&!l.contains 10)
theorem oab:∀ l:List UInt8,Lib.containsAny l [13,10]=((l.map fun c=>(c.toNat:Int)).contains 13 || (l.map fun c=>(c.toNat:Int)).contains 10)
 | []=>by decide
 | b::l=>by
  have ih:=oab l
  unfold Lib.containsAny at ih ⊢
  have hg:=Lib.indexAny_ge [13,10] l
  have e13:((13:Int)==(b.toNat:Int))=(b==13):=by
   rw [Bool.eq_iff_iff,beq_iff_eq,beq_iff_eq]
   exact ⟨fun h=>UInt8.toNat_inj.1 (by show b.toNat=13;omega),fun h=>by rw [h];rfl⟩
  have e10:((10:Int)==(b.toNat:Int))=(b==10):=by
   rw [Bool.eq_iff_iff,beq_iff_eq,beq_iff_eq]
   exact ⟨fun h=>UInt8.toNat_inj.1 (by show b.toNat=10;omega),fun h=>by rw [h];rfl⟩
  simp only [List.map_cons,List.contains_cons,e13,e10]
  unfold Lib.indexAny
  by_cases h1:b=13
  · subst h1;rfl
  by_cases h2:b=10
  · subst h2;simp
  have c1:([13,10]:List UInt8).contains b=false:=by simp [h1,h2]
  have d1:(b==13)=false:=by simpa using h1
  have d2:(b==10)=false:=by simpa using h2
  rw [if_neg (by rw [c1];simp),d1,d2,Bool.false_or,Bool.false_or,←ih]
  by_cases hz:Lib.indexAny l [13,10]= -1
  · rw [hz];rfl
  · rw [if_neg (by simpa using hz)]
    exact decide_eq_decide.2 (by omega)
theorem Jgb (n:Nat) (s:BA) (hs:s.size≤1000000):Ll n s=some (ue (bs s)):=by
 unfold Ll zw ue
 rw [ra]
 by_cases h:s.size≤509
 · have h':(s.size:Int)≤509:=by omega
   have hc:gcb s (⟨#[13,10]⟩:BA)=some (Lib.containsAny s.data.toList [13,10]):=by
    unfold gcb
    rw [if_pos ⟨by omega,rfl⟩];rfl
   simp only [h',h,decide_true,if_true,hc,Option.bind_some,oab,Bool.not_or,Bool.true_and]
   rfl
 · have h':¬(s.size:Int)≤509:=by omega
   simp [h,h']
theorem gab (n:Nat) (s:BA) (hs:s.size≤1000000):∀ (r:List Int) (k m:Nat),(bs s).drop k=r→k≤s.size→r.length<m→ld n m s k=some (if (!r.contains 13&&!r.contains 10)=true then .out s else .ret false)
 | [],k,m,h,hk,hm=>by
  obtain ⟨m,rfl⟩:∃ q,m=q+1:=⟨m - 1,by omega⟩
  have:=li h
  simp [ld,Zj,this]
 | c::r,k,m,h,hk,hm=>by
  obtain ⟨m,rfl⟩:∃ q,m=q+1:=⟨m - 1,by omega⟩
  obtain ⟨h1,h2,h3,h4,h5⟩:=Hd h
  have e1:=wr1 (k:=k) (by omega)
  have a3:(0:Int)≤(k:Int):=by omega
  have ih:=gab n s hs r (k+1) m h3 (by omega) (by simpa using hm)
  simp only [ld,Zj,h1,h2,a3,e1]
  by_cases g1:c=13
  · subst g1;simp
  · by_cases g2:c=10
    · subst g2;simp
    · have g3:((13:Int)==c)=false:=by simpa using fun e=>g1 e.symm
      have g4:((10:Int)==c)=false:=by simpa using fun e=>g2 e.symm
      simp only [List.contains_cons,g3,g4,Bool.false_or]
      simpa [g1,g2] using ih
theorem ogb (n:Nat) (s:BA) (hs:s.size≤1000000) (hn:10000000≤n):Un n s=some (ue (bs s)):=by
 have h:=gab n s hs (bs s) 0 n (by simp) (by omega) (by rw [ra];omega)
 rw [show ((0:Nat):Int)=0 from rfl] at h
 unfold Un sC ue
 rw [h,ra]
 cases (!(bs s).contains 13&&!(bs s).contains 10)
 · simp [onL]
 · simp only [if_true,Option.bind_some,onL,Bool.and_true,Option.some.injEq]
   exact decide_eq_decide.2 (by omega)
theorem hab (n:Nat) (s:Sq BA) (hs:s.n≤4000000) (hS:∀ i,i<s.n→(s.at' i).size≤20000):∀ (r:List (List Int)) (i m:Nat),(sqL bs s).drop i=r→i≤s.n→r.length<m→
  ∃ x:Int,0≤x∧vf n m s (s.n:Int) (i:Int)=some (if r.all ue=true then .out () else .ret x)
 | [],i,m,h,hi,hm=>by
  obtain ⟨m,rfl⟩:∃ q,m=q+1:=⟨m - 1,by omega⟩
  have:=fq h
  have e:¬((i:Int)<(s.n:Int)):=by omega
  exact ⟨0,Int.le_refl _,by simp [vf,dq,e]⟩
 | b::r,i,m,h,hi,hm=>by
  obtain ⟨m,rfl⟩:∃ q,m=q+1:=⟨m - 1,by omega⟩
  obtain ⟨h1,h2,h3⟩:=sj h
  have e1:=wr1 (k:=i) (by omega)
  have a3:(0:Int)≤(i:Int):=by omega
  have a4:(i:Int)<(s.n:Int):=by omega
  obtain ⟨x,hx0,hx⟩:=hab n s hs hS r (i+1) m h3 (by omega) (by simpa using hm)
  have hz:=hS i h1
  have hd:cC n (s.at' i)=some (!ue b):=by
   unfold cC dC
   rw [Jgb n _ (by omega),h2];rfl
  cases hb:ue b
  · refine ⟨i,a3,?_⟩
    rw [hb] at hd
    simp only [vf,dq,a3,a4,e1,Int.toNat_natCast,hd,decide_true,if_true,and_self,Option.bind_some,Bool.not_false]
    simp [hb]
  · refine ⟨x,hx0,?_⟩
    rw [hb] at hd
    simp only [vf,dq,a3,a4,e1,Int.toNat_natCast,hd,decide_true,if_true,and_self,Option.bind_some,Bool.not_true,Bool.false_eq_true,if_false]
    rw [hx,List.all_cons,hb,Bool.true_and]
theorem ngb (n:Nat) (s:Sq BA) (hs:s.n≤4000000) (hS:∀ i,i<s.n→(s.at' i).size≤20000) (hn:10000000≤n):pT n s=some (!(sqL bs s).all ue,()):=by
 obtain ⟨x,hx0,hx⟩:=hab n s hs hS _ 0 n rfl (Nat.zero_le _) (by rw [List.drop_zero,Bc];omega)
 rw [show ((0:Nat):Int)=0 from rfl,List.drop_zero] at hx
 unfold pT DQ PW EQ
 rw [hx]
 cases (sqL bs s).all ue
 · simp [onL,hx0]
 · simp [onL]
def Di:List (List Int)→Int
 | []=>0
 | l::r=>(l.length:Int)+2+Di r
theorem ibb:∀ l,0≤Di l
 | []=>Int.le_refl _
 | l::r=>by have:=ibb r;simp only [Di];omega
theorem vab (n:Nat) (s:Sq BA) (hs:s.n≤4000000) (hS:∀ i,i<s.n→(s.at' i).size≤20000):∀ (r:List (List Int)) (i m:Nat) (z:Int),(sqL bs s).drop i=r→i≤s.n→r.length<m→0≤z→z≤20002*i→
  Vf n m z s (s.n:Int) (i:Int)=some (.out (z+Di r))
 | [],i,m,z,h,hi,hm,hz,hz2=>by
  obtain ⟨m,rfl⟩:∃ q,m=q+1:=⟨m - 1,by omega⟩
  have:=fq h
  have e:¬((i:Int)<(s.n:Int)):=by omega
  simp [Vf,Gu,e,Di]
 | b::r,i,m,z,h,hi,hm,hz,hz2=>by
  obtain ⟨m,rfl⟩:∃ q,m=q+1:=⟨m - 1,by omega⟩
  obtain ⟨h1,h2,h3⟩:=sj h
  have e1:=wr1 (k:=i) (by omega)
  have a3:(0:Int)≤(i:Int):=by omega
  have a4:(i:Int)<(s.n:Int):=by omega
  have hsz:=hS i h1
  have hl:(b.length:Int)=((s.at' i).size:Int):=by rw [←h2,ra]
  have w1:IntKind.wrap .i64 (((s.at' i).size:Int)+2)=((s.at' i).size:Int)+2:=wr (by omega) (by omega)
  have w2:IntKind.wrap .i64 (z+(((s.at' i).size:Int)+2))=z+(((s.at' i).size:Int)+2):=wr (by omega) (by omega)
  have ih:=vab n s hs hS r (i+1) m (z+(((s.at' i).size:Int)+2)) h3 (by omega) (by simpa using hm) (by omega) (by omega)
  simp only [Vf,Gu,a3,a4,e1,w1,w2,Int.toNat_natCast,decide_true,if_true,and_self]
  rw [ih]
  simp only [Di]
  congr 2
  omega
theorem Hgb (n:Nat) (s:Sq BA) (hs:s.n≤4000000) (hS:∀ i,i<s.n→(s.at' i).size≤20000) (hn:10000000≤n):xR n s=some (Di (sqL bs s)):=by
 have h:=vab n s hs hS _ 0 n 0 rfl (Nat.zero_le _) (by rw [List.drop_zero,Bc];omega) (Int.le_refl _) (by simp)
 rw [show ((0:Nat):Int)=0 from rfl,List.drop_zero,Int.zero_add] at h
 unfold xR sQ
 rw [h];rfl
/-! What is left of a line. -/
def veb:List Int→Bool
 | a::b::r=>(decide (a=13)&&decide (b=10)) || veb (b::r)
 | _=>false
theorem pmb:∀ l:List UInt8,Lib.contains l [13,10]=veb (l.map fun c=>(c.toNat:Int))
 | []=>by decide
 | [a]=>by
  unfold Lib.contains Lib.index
  have:([13,10]:List UInt8).isPrefixOf [a]=false:=by simp [List.isPrefixOf]
  rw [if_neg (by rw [this];simp)]
  rfl
 | a::b::l=>by
  have ih:=pmb (b::l)
  have hg:=Lib.index_ge (b::l) [13,10]
  have e1:(13==a)=decide ((a.toNat:Int)=13):=by
   rw [Bool.eq_iff_iff,beq_iff_eq,decide_eq_true_iff]
   exact ⟨fun h=>by rw [←h];rfl,fun h=>(UInt8.toNat_inj.1 (by show a.toNat=13;omega)).symm⟩
  have e2:(10==b)=decide ((b.toNat:Int)=10):=by
   rw [Bool.eq_iff_iff,beq_iff_eq,decide_eq_true_iff]
   exact ⟨fun h=>by rw [←h];rfl,fun h=>(UInt8.toNat_inj.1 (by show b.toNat=10;omega)).symm⟩
  have hp:([13,10]:List UInt8).isPrefixOf (a::b::l)=(decide ((a.toNat:Int)=13)&&decide ((b.toNat:Int)=10)):=by
   simp [List.isPrefixOf,e1,e2]
  show _=veb (_::_::_)
  simp only [veb]
  rw [←hp]
  unfold Lib.contains at ih ⊢
  rw [Lib.index]
  cases ([13,10]:List UInt8).isPrefixOf (a::b::l)
  · have ih':decide (0≤Lib.index (b::l) [13,10])=veb ((b.toNat:Int)::l.map fun c=>(c.toNat:Int)):=ih
    rw [Bool.false_or,←ih',if_neg (by simp)]
    by_cases hz:Lib.index (b::l) [13,10]= -1
    · rw [hz];rfl
    · rw [if_neg (by simpa using hz)]
      exact decide_eq_decide.2 (by omega)
  · simp
def igb (sk:Bool) (l:List Int):Bool:=if sk=true then l.isEmpty || decide (l=[13]) else decide (l.length<512)&&!veb l
theorem Okb (s:BA):(s.toList==(⟨#[13]⟩:BA).toList)=decide (bs s=[13]):=by rw [tc];rfl
theorem Yib (n:Nat) (s:BA) (sk:Bool) (hs:s.size≤1000000):Ju n (s,(sk,()))=some (igb sk (bs s)):=by
 unfold Ju Bw igb
 cases sk
 · simp only [Bool.false_eq_true,if_false,ra]
   by_cases h:s.size<512
   · have h':(s.size:Int)<512:=by omega
     have hc:Iu s (⟨#[13,10]⟩:BA)=some (Lib.contains s.data.toList [13,10]):=by
      unfold Iu
      rw [if_pos (by omega)]
     simp only [h',h,decide_true,if_true,hc,Option.bind_some,pmb,Bool.true_and]
     rfl
   · have h':¬(s.size:Int)<512:=by omega
     simp [h,h']
 · simp only [if_true,jp,Okb]
   cases (bs s).isEmpty<;>simp
open Go Go.RowKit
theorem Vib (n:Nat) (s:BA) (hs:s.size≤1000000) (i:Nat) (a b:Int) (r:List Int) (h:(bs s).drop i=a::b::r):nM n (s.extract 0 (i+2))=some (decide (a=13)&&decide (b=10)):=by
 have hl:=congrArg List.length h
 rw [List.length_drop,ra,List.length_cons,List.length_cons] at hl
 have hz:(s.extract 0 (i+2)).size=i+2:=by rw [ByteArray.size_extract];omega
 have h0:(bs (s.extract 0 (i+2)))[i]?=some a:=by
  rw [Gf,List.drop_zero,List.getElem?_take,if_pos (by omega)]
  have:=congrArg (fun l=>l[0]?) h
  simpa using this
 have h1:(bs (s.extract 0 (i+2)))[i+1]?=some b:=by
  rw [Gf,List.drop_zero,List.getElem?_take,if_pos (by omega)]
  have:=congrArg (fun l=>l[1]?) h
  simpa using this
 have b0:=DX h0
 have b1:=DX h1
 have w2:IntKind.wrap .i64 (((i+2:Nat):Int) - 2)=(i:Int):=by rw [wr (by omega) (by omega)];omega
 have w1:IntKind.wrap .i64 (((i+2:Nat):Int) - 1)=((i+1:Nat):Int):=by rw [wr (by omega) (by omega)];omega
 unfold nM yJ
 rw [hz,w2,w1,b0,b1]
 rw [if_pos (by simp;omega),if_pos (by omega)]
 by_cases g:a=13
 · rw [if_pos (by simpa using g),if_pos (by omega),decide_eq_true g,Bool.true_and]
   congr 1
 · rw [if_neg (by simpa using g),decide_eq_false g];rfl
theorem UZ (n:Nat) (s:BA) (sk:Bool) (hs:s.size≤1000000):∀ (r:List Int) (k m:Nat),(bs s).drop k=r→r.length<m→Wb n m ((k+2:Nat):Int) s sk=some (if veb r=true then .ret false else .out ())
 | [],k,m,h,hm=>by
  obtain ⟨m,rfl⟩:∃ q,m=q+1:=⟨m - 1,by omega⟩
  have hl:=congrArg List.length h
  rw [List.length_drop,ra,List.length_nil] at hl
  have e:¬(((k+2:Nat):Int)≤(s.size:Int)):=by omega
  simp only [Wb,kg,e,decide_false,Bool.false_eq_true,if_false,veb]
 | [a],k,m,h,hm=>by
  obtain ⟨m,rfl⟩:∃ q,m=q+1:=⟨m - 1,by omega⟩
  have hl:=congrArg List.length h
  rw [List.length_drop,ra,List.length_cons,List.length_nil] at hl
  have e:¬(((k+2:Nat):Int)≤(s.size:Int)):=by omega
  simp only [Wb,kg,e,decide_false,Bool.false_eq_true,if_false,veb]
 | a::b::r,k,m,h,hm=>by
  obtain ⟨m,rfl⟩:∃ q,m=q+1:=⟨m - 1,by omega⟩
  have hl:=congrArg List.length h
  rw [List.length_drop,ra,List.length_cons,List.length_cons] at hl
  have e:((k+2:Nat):Int)≤(s.size:Int):=by omega
  have e0:(0:Int)≤((k+2:Nat):Int):=by omega
  have e1:=wr1 (k:=k+2) (by omega)
  have ih:=UZ n s sk hs (b::r) (k+1) m (by rw [←List.drop_drop,h];rfl) (by simpa using hm)
  have he:=Vib n s hs k a b r h
  have z:Int.toNat (0:Int)=0:=rfl
  simp only [Wb,kg,e,e0,e1,z,Int.toNat_natCast,he,decide_true,if_true,and_self,Option.bind_some,veb]
  by_cases g:(decide (a=13)&&decide (b=10))=true
  · simp only [g,Bool.true_or];rfl
  · have g':(decide (a=13)&&decide (b=10))=false:=by simpa using g
    simp only [g',Bool.false_or]
    exact ih
theorem Mcb (n:Nat) (s:BA) (sk:Bool) (hs:s.size≤1000000) (hn:10000000≤n):nv n (s,(sk,()))=some (igb sk (bs s)):=by
 unfold nv Kw igb
 cases sk
 · simp only [Bool.false_eq_true,if_false,ra]
   by_cases h:s.size<512
   · have h':¬((s.size:Int)>511):=by omega
     have hL:=UZ n s false hs (bs s) 0 n (by simp) (by rw [ra];omega)
     rw [show ((0+2:Nat):Int)=2 from rfl] at hL
     simp only [h',h,decide_false,decide_true,Bool.false_eq_true,if_false,hL,Option.bind_some,Bool.true_and]
     cases veb (bs s)<;>rfl
   · have h':(s.size:Int)>511:=by omega
     simp [h,h']
 · simp only [if_true,jp,Okb]
   cases (bs s).isEmpty<;>simp
def inR (x lo hi:Int):Bool:=decide (lo≤x)&&decide (x≤hi)
theorem cgb (n:Nat) (x lo hi:Int):In n x lo hi=some (inR x lo hi):=by
 unfold In eC inR
 by_cases h:lo≤x
 · rw [if_pos (by simpa using h),decide_eq_true h];rfl
 · rw [if_neg (by simpa using h),decide_eq_false h];rfl
theorem rkb (n:Nat) (x hi:Int):dJ n x hi=some (inR x 0 hi):=by
 unfold dJ xQ inR
 by_cases h:0≤x
 · rw [if_pos (by simpa using h),decide_eq_true h];rfl
 · rw [if_neg (by simpa using h),decide_eq_false h];rfl
def y3 (l:List Int):Bool:=decide (l.length≤200)&&Km l
theorem Kab (n:Nat) (s:BA) (hs:s.size≤1000000) (hn:10000000≤n):Wj n s=some (y3 (bs s)):=by
 unfold Wj yI y3
 rw [ra]
 by_cases h:s.size≤200
 · rw [if_pos (by simp;omega),fw n s hs hn,gC,decide_eq_true h];rfl
 · rw [if_neg (by simp;omega),decide_eq_false h];rfl
def Hkb (st:Int) (l:List Int):Bool:=if st=0 then l.isEmpty else if st=5 then l.isEmpty || y3 l else y3 l
def Wib (st:Int) (nu:Bool) (fl fd:List Int) (to:List (List Int×List Int)):Bool:=
 if 2≤st∧st≤4 then (if nu=true then fl.isEmpty&&fd.isEmpty else Su fl&&Km fd)&&(M6 [] to&&(decide (to.length≤8)&&(to.isEmpty==decide (st=2))))
 else !nu&&((fl.isEmpty&&fd.isEmpty)&&to.isEmpty)
def Mjb (st:Int) (da:List (List Int)) (by':Int) (ov:Bool):Bool:=
 if st=4∧ov=false then da.all ue&&(decide (by'=Di da)&&decide (by'≤8192)) else da.isEmpty&&(decide (by'=0)&&(!ov || decide (st=4)))
def mkb (id te ip:Int) (sk:Bool) (re:List Int) (st:Int) (he:List Int) (nu:Bool) (fl fd:List Int) (to:List (List Int×List Int)) (da:List (List Int)) (by':Int) (ov:Bool):Bool:=
 inR id 1 1099511627776&&(inR te 0 3&&(inR ip 0 1099511627776&&(igb sk re&&(inR st 0 5&&(Hkb st he&&(Wib st nu fl fd to&&Mjb st da by' ov))))))
def I6 (c:T0):Bool:=mkb c.1 c.2.1 c.2.2.1 c.2.2.2.1.2.1 (bs c.2.2.2.1.1) c.2.2.2.2.1 (bs c.2.2.2.2.2.1) c.2.2.2.2.2.2.1 (bs c.2.2.2.2.2.2.2.1.1) (bs c.2.2.2.2.2.2.2.1.2.1) (sqL bb c.2.2.2.2.2.2.2.2.1) (sqL bs c.2.2.2.2.2.2.2.2.2.1) c.2.2.2.2.2.2.2.2.2.2.1 c.2.2.2.2.2.2.2.2.2.2.2.1
theorem TL {α:Type} (l:List α):l.isEmpty=decide (l.length=0):=by cases l<;>simp
theorem mjb {T α:Type} (f:T→α) (s:Sq T):((s.n:Int)==(0:Int))=(sqL f s).isEmpty:=by
 rw [TL,Bc,Bool.eq_iff_iff,beq_iff_eq,decide_eq_true_iff];omega
theorem X7 (n:Nat) (c:T0) (h:Ok 30000 c) (hn:10000000≤n):ae n c=some (Wib c.2.2.2.2.1 c.2.2.2.2.2.2.1 (bs c.2.2.2.2.2.2.2.1.1) (bs c.2.2.2.2.2.2.2.1.2.1) (sqL bb c.2.2.2.2.2.2.2.2.1)):=by
 obtain ⟨id,te,ip,⟨re,sk,⟨⟩⟩,st,he,nu,⟨fl,fd,⟨⟩⟩,to,da,by',ov,⟨⟩⟩:=c
 have hto:to.n≤30000:=h.to
 have h1:fl.size≤20000:=h.fl
 have h2:fd.size≤20000:=h.fd
 have hM:=T6 n fl fd (by omega) (by omega) hn
 have hT:=vkb n to (by omega) h.toS hn
 have hl:to.n=(sqL bb to).length:=(Bc bb to).symm
 unfold ae Vq
 simp only [jp,mjb bb,hM,hT,Bool.and_true,Option.bind_some]
 rw [hl]
 unfold Wib
 have e2:(st==(2:Int))=decide (st=2):=by rw [Bool.eq_iff_iff,beq_iff_eq,decide_eq_true_iff]
 rw [e2]
 generalize (sqL bb to).isEmpty=tE
 generalize M6 [] (sqL bb to)=t1
 generalize decide ((sqL bb to).length≤8)=t2
 generalize (bs fl).isEmpty=f1
 generalize (bs fd).isEmpty=f2
 generalize (Su (bs fl)&&Km (bs fd))=f3
 by_cases g1:st<2
 · have:¬(2≤st∧st≤4):=by omega
   simp only [g1,this,decide_true,Bool.true_eq_false,if_false]
   cases nu<;>cases f1<;>cases f2<;>simp
 · by_cases g2:st>4
   · have:¬(2≤st∧st≤4):=by omega
     simp only [g1,g2,this,decide_true,decide_false,if_true,if_false]
     cases nu<;>cases f1<;>cases f2<;>simp
   · have:2≤st∧st≤4:=by omega
     simp only [g1,g2,this,decide_true,decide_false,if_true]
     cases nu<;>cases f1<;>cases f2<;>cases f3<;>cases t1<;>cases t2<;>simp
theorem Igb (n:Nat) (c:T0) (h:Ok 30000 c) (hn:10000000≤n):Gz n c=some (Mjb c.2.2.2.2.1 (sqL bs c.2.2.2.2.2.2.2.2.2.1) c.2.2.2.2.2.2.2.2.2.2.1 c.2.2.2.2.2.2.2.2.2.2.2.1):=by
 obtain ⟨id,te,ip,⟨re,sk,⟨⟩⟩,st,he,nu,⟨fl,fd,⟨⟩⟩,to,da,by',ov,⟨⟩⟩:=c
 have hda:da.n≤30000:=h.da
 have hF:=ngb n da (by omega) h.daS hn
 have hS:=Hgb n da (by omega) h.daS hn
 unfold Gz tQ
 simp only [mjb bs,hF,hS,Option.bind_some,ba,ia]
 unfold Mjb
 have e4:(st==(4:Int))=decide (st=4):=by rw [Bool.eq_iff_iff,beq_iff_eq,decide_eq_true_iff]
 have e5:(st !=(4:Int))=!decide (st=4):=by rw [bne,e4]
 have e6:(by'==(0:Int))=decide (by'=0):=by rw [Bool.eq_iff_iff,beq_iff_eq,decide_eq_true_iff]
 have e7:(by'==Di (sqL bs da))=decide (by'=Di (sqL bs da)):=by rw [Bool.eq_iff_iff,beq_iff_eq,decide_eq_true_iff]
 rw [e5,e4,e6,e7]
 generalize (sqL bs da).isEmpty=tE
 generalize (sqL bs da).all ue=t1
 generalize decide (by'=Di (sqL bs da))=t2
 generalize decide (by'=0)=t3
 generalize decide (by'≤8192)=t4
 by_cases g:st=4
 · cases ov<;>cases tE<;>cases t1<;>cases t2<;>cases t3<;>simp [g]
 · cases ov<;>cases tE<;>cases t1<;>cases t2<;>cases t3<;>simp [g]
theorem Ogb:y3 []=false:=by decide
theorem s7 (n:Nat) (c:T0) (h:Ok 30000 c) (hn:10000000≤n):RO n c=some (I6 c):=by
 have hE:=X7 n c h hn
 have hT:=Igb n c h hn
 obtain ⟨id,te,ip,⟨re,sk,⟨⟩⟩,st,he,nu,⟨fl,fd,⟨⟩⟩,to,da,by',ov,⟨⟩⟩:=c
 have h1:re.size≤20000:=h.re
 have h2:he.size≤20000:=h.he
 have hF:=Yib n re sk (by omega)
 have hH:=Kab n he (by omega) hn
 unfold RO QX I6 mkb
 simp only [cgb,hF,hH,hE,hT,jp,Option.bind_some]
 have e0:(st==(0:Int))=decide (st=0):=by rw [Bool.eq_iff_iff,beq_iff_eq,decide_eq_true_iff]
 have e1:(st !=(0:Int))=!decide (st=0):=by rw [bne,e0]
 have e5:(st !=(5:Int))=!decide (st=5):=by
  rw [bne,show (st==(5:Int))=decide (st=5) by rw [Bool.eq_iff_iff,beq_iff_eq,decide_eq_true_iff]]
 rw [e0,e1,e5]
 have hel:Hkb st (bs he)=if decide (st=0)=true then (bs he).isEmpty else if decide (st=5)=true then (bs he).isEmpty || y3 (bs he) else y3 (bs he):=by
  unfold Hkb;by_cases g:st=0<;>by_cases g5:st=5<;>simp [g,g5]
 have hnil:(bs he).isEmpty=true→y3 (bs he)=false:=fun e=>by rw [List.isEmpty_iff.1 e];exact Ogb
 rw [hel]
 revert hnil
 generalize (bs he).isEmpty=hE'
 generalize y3 (bs he)=hO
 generalize Wib _ _ _ _ _=v1
 generalize Mjb _ _ _ _=v2
 generalize inR id 1 1099511627776=a1
 generalize inR te 0 3=a2
 generalize inR ip 0 1099511627776=a3
 generalize igb _ _=a4
 generalize inR st 0 5=a5
 generalize decide (st=0)=s0
 generalize decide (st=5)=s5
 intro hnil
 cases a1
 · simp
 cases a2
 · simp
 cases a3
 · simp
 cases a4
 · simp
 cases a5
 · simp
 cases hE'<;>cases hO<;>cases s0<;>cases s5<;>cases v1<;>simp at hnil ⊢
open Go Go.RowKit
section
variable (n:Nat) (id te ip:Int) (re:BA) (sk:Bool) (st:Int) (he:BA) (nu:Bool) (fl fd:BA) (to:Sq Mbx) (da:Sq BA) (by':Int) (ov:Bool)
theorem Qkb (hre:re.size≤20000) (hn:10000000≤n):ti n id te ip re sk st he nu fl fd to da by' ov=
  some (if (inR id 1 1099511627776&&(inR te 0 3&&(inR ip 0 1099511627776&&(igb sk (bs re)&&(inR st 0 5&&decide (to.n≤8))))))=true then .out (id,te,ip,re,sk,st,he,nu,fl,fd,to,da,by',ov) else .ret false):=by
 have hF:=Mcb n re sk (by omega) hn
 unfold ti bl
 simp only [rkb,hF,Option.bind_some]
 have e1:inR id 1 1099511627776=(!decide (id<1)&&!decide (id>1099511627776)):=by
  unfold inR
  rw [←decide_not,←decide_not]
  congr 1<;>exact decide_eq_decide.2 (by omega)
 have e2:inR st 0 5=(!decide (st<0)&&!decide (st>5)):=by
  unfold inR
  rw [←decide_not,←decide_not]
  congr 1<;>exact decide_eq_decide.2 (by omega)
 have e3:decide (to.n≤8)=!decide ((to.n:Int)>8):=by
  rw [←decide_not];exact decide_eq_decide.2 (by omega)
 rw [e1,e2,e3]
 cases decide (id<1)
 · cases decide (id>1099511627776)
   · cases inR te 0 3
     · simp
     · cases inR ip 0 1099511627776
       · simp
       · cases igb sk (bs re)
         · simp
         · cases decide (st<0)
           · cases decide (st>5)
             · cases decide ((to.n:Int)>8)<;>simp
             · simp
           · simp
   · simp
 · simp
theorem Rkb (hel:Bool):ve n hel id te ip re sk st he nu fl fd to da by' ov=
  some (if (if st=0 then (bs he).isEmpty else if st=5 then (bs he).isEmpty || hel else hel)=true then .out (id,te,ip,re,sk,st,he,nu,fl,fd,to,da,by',ov) else .ret false):=by
 unfold ve cl
 simp only [jp]
 by_cases g0:st=0
 · cases (bs he).isEmpty<;>simp [g0]
 · by_cases g5:st=5
   · cases (bs he).isEmpty<;>cases hel<;>simp [g0,g5]
   · cases hel<;>simp [g0,g5]
theorem Tkb (hfl:fl.size≤20000) (hfd:fd.size≤20000) (hn:10000000≤n):ui n id te ip re sk st he nu fl fd to da by' ov=
  some (if (if nu=true then (bs fl).isEmpty&&(bs fd).isEmpty else Su (bs fl)&&Km (bs fd))=true then .out (id,te,ip,re,sk,st,he,nu,fl,fd,to,da,by',ov) else .ret false):=by
 have hM:ze n (fl,(fd,()))=some (Su (bs fl)&&Km (bs fd)):=Ddb n fl fd (by omega) (by omega) hn
 unfold ui el
 simp only [jp,hM,Option.bind_some,Bool.and_true]
 cases nu
 · cases (Su (bs fl)&&Km (bs fd))<;>simp
 · cases (bs fl).isEmpty<;>cases (bs fd).isEmpty<;>simp
theorem Tgb (hs:inR st 0 5=true):yC n st=some (decide (2≤st∧st≤4)):=by
 unfold yC AC
 unfold inR at hs
 simp only [Bool.and_eq_true,decide_eq_true_iff] at hs
 rcases (by omega:st=0∨st=1∨st=2∨st=3∨st=4∨st=5) with rfl | rfl | rfl | rfl | rfl | rfl<;>rfl
theorem Skb (hs:inR st 0 5=true) (hfl:fl.size≤20000) (hfd:fd.size≤20000) (hn:10000000≤n):we n id te ip re sk st he nu fl fd to da by' ov=
  some (if (if 2≤st∧st≤4 then (if nu=true then (bs fl).isEmpty&&(bs fd).isEmpty else Su (bs fl)&&Km (bs fd))&&((sqL bb to).isEmpty==decide (st=2)) else !nu&&(((bs fl).isEmpty&&(bs fd).isEmpty)&&(sqL bb to).isEmpty))=true then .out (id,te,ip,re,sk,st,he,nu,fl,fd,to,da,by',ov) else .ret false):=by
 have h3:=Tkb n id te ip re sk st he nu fl fd to da by' ov hfl hfd hn
 unfold we dl
 rw [Tgb n st hs,h3]
 have e2:(st==(2:Int))=decide (st=2):=by rw [Bool.eq_iff_iff,beq_iff_eq,decide_eq_true_iff]
 have eg:decide ((to.n:Int)>0)=!(sqL bb to).isEmpty:=by
  rw [TL,Bc,←decide_not];exact decide_eq_decide.2 (by omega)
 by_cases g:2≤st∧st≤4
 · simp only [g,decide_true,if_true,Option.bind_some,and_self]
   cases (if nu=true then (bs fl).isEmpty&&(bs fd).isEmpty else Su (bs fl)&&Km (bs fd))
   · simp [onL]
   · simp only [if_true,onL,mjb bb,e2,Bool.true_and]
     cases ((sqL bb to).isEmpty==decide (st=2))<;>simp
 · simp only [g,decide_false,Bool.false_eq_true,if_false,Option.bind_some,jp,Bool.and_true,eg]
   cases nu<;>cases (bs fl).isEmpty<;>cases (bs fd).isEmpty<;>cases (sqL bb to).isEmpty<;>simp
theorem iib (hs:to.n≤4000000) (hS:∀ i,i<to.n→(to.at' i).1.size≤20000∧(to.at' i).2.1.size≤20000) (hn:10000000≤n):∀ (r:List (List Int×List Int)) (i m:Nat),(sqL bb to).drop i=r→i≤to.n→r.length<m→
  Cb n m (i:Int) id te ip re sk st he nu fl fd to da by' ov=some (if M6 ((sqL bb to).take i) r=true then .out (id,te,ip,re,sk,st,he,nu,fl,fd,to,da,by',ov) else .ret false)
 | [],i,m,h,hi,hm=>by
  obtain ⟨m,rfl⟩:∃ q,m=q+1:=⟨m - 1,by omega⟩
  have:=fq h
  have e:¬((i:Int)<(to.n:Int)):=by omega
  simp [Cb,ri,e,M6]
 | b::r,i,m,h,hi,hm=>by
  obtain ⟨m,rfl⟩:∃ q,m=q+1:=⟨m - 1,by omega⟩
  obtain ⟨h1,h2,h3⟩:=sj h
  have e1:=wr1 (k:=i) (by omega)
  have a3:(0:Int)≤(i:Int):=by omega
  have a4:(i:Int)<(to.n:Int):=by omega
  have a5:(i:Int)≤(to.n:Int):=by omega
  obtain ⟨z1,z2⟩:=hS i h1
  have ih:=iib hs hS hn r (i+1) m h3 (by omega) (by simpa using hm)
  have hM:ze n ((to.at' i).1,((to.at' i).2.1,()))=some (EU b):=by
   rw [Ddb n (to.at' i).1 (to.at' i).2.1 (by omega) (by omega) hn,←h2];rfl
  obtain ⟨x,hC,hx⟩:=Cbb n (⟨Int.toNat (i:Int) - Int.toNat (0:Int),fun j=>to.at' (Int.toNat (0:Int)+j)⟩:Sq Mbx) (by show i - 0≤_;omega) ((to.at' i).1,((to.at' i).2.1,())) hn
  rw [xfb hi] at hx
  have hb:bb ((to.at' i).1,((to.at' i).2.1,()))=b:=h2
  rw [hb] at hx
  rw [S5 h] at ih
  simp only [Int.toNat_natCast] at hC
  have hJ:vi n (i:Int) id te ip re sk st he nu fl fd to da by' ov=some (if (EU b&&!((sqL bb to).take i).contains b)=true then .out ((i:Int),id,te,ip,re,sk,st,he,nu,fl,fd,to,da,by',ov) else .ret false):=by
   unfold vi il
   simp only [a3,a4,a5,Int.toNat_natCast,hM,hC,hx,and_self,if_true,Option.bind_some]
   by_cases g1:EU b=true
   · by_cases g2:((sqL bb to).take i).contains b=true
     · simp only [g1,g2];simp
     · have g2':((sqL bb to).take i).contains b=false:=by simpa using g2
       simp only [g1,g2'];simp
   · have g1':EU b=false:=by simpa using g1
     simp only [g1'];simp
  simp only [Cb,ri,a4,decide_true,if_true,hJ,Option.bind_some,M6]
  by_cases g:(EU b&&!((sqL bb to).take i).contains b)=true
  · rw [if_pos g]
    simp only [onL,e1,ih,←Bool.and_assoc,g,Bool.true_and]
  · have g':(EU b&&!((sqL bb to).take i).contains b)=false:=by simpa using g
    simp only [g',←Bool.and_assoc,Bool.false_and,Bool.false_eq_true,if_false,onL]
theorem Ukb:xe n id te ip re sk st he nu fl fd to da by' ov=
  some (if (if st=4 then !ov || (sqL bs da).isEmpty else (sqL bs da).isEmpty&&!ov)=true then .out (id,te,ip,re,sk,st,he,nu,fl,fd,to,da,by',ov) else .ret false):=by
 have eg:decide ((da.n:Int)>0)=!(sqL bs da).isEmpty:=by
  rw [TL,Bc,←decide_not];exact decide_eq_decide.2 (by omega)
 unfold xe ll
 rw [eg]
 by_cases g:st=4
 · cases ov<;>cases (sqL bs da).isEmpty<;>simp [g]
 · cases ov<;>cases (sqL bs da).isEmpty<;>simp [g]
def Nib:Int→List (List Int)→Bool
 | z,[]=>true
 | z,l::r=>ue l&&(decide (z+((l.length:Int)+2)≤8192)&&Nib (z+((l.length:Int)+2)) r)
theorem ceb:∀ (r:List (List Int)) (z:Int),z≤8192→Nib z r=(r.all ue&&decide (z+Di r≤8192))
 | [],z,h=>by simp [Nib,Di,h]
 | l::r,z,h=>by
  have:=ibb r
  rw [show Di (l::r)=(l.length:Int)+2+Di r from rfl]
  simp only [Nib,List.all_cons]
  by_cases g:z+((l.length:Int)+2)≤8192
  · rw [ceb r _ g,decide_eq_true g,Bool.true_and,←Bool.and_assoc]
    congr 1
    exact decide_eq_decide.2 (by omega)
  · have g2:¬(z+((l.length:Int)+2+Di r)≤8192):=by omega
    rw [decide_eq_false g,decide_eq_false g2];simp
theorem jib (hs:da.n≤4000000) (hS:∀ i,i<da.n→(da.at' i).size≤20000) (hn:10000000≤n):∀ (r:List (List Int)) (i m:Nat) (z:Int),(sqL bs da).drop i=r→i≤da.n→r.length<m→0≤z→z≤8192→
  Db n m z (i:Int) id te ip re sk st he nu fl fd to da by' ov=some (if Nib z r=true then .out (z+Di r,id,te,ip,re,sk,st,he,nu,fl,fd,to,da,by',ov) else .ret false)
 | [],i,m,z,h,hi,hm,hz,hz2=>by
  obtain ⟨m,rfl⟩:∃ q,m=q+1:=⟨m - 1,by omega⟩
  have:=fq h
  have e:¬((i:Int)<(da.n:Int)):=by omega
  simp [Db,si,e,Nib,Di]
 | b::r,i,m,z,h,hi,hm,hz,hz2=>by
  obtain ⟨m,rfl⟩:∃ q,m=q+1:=⟨m - 1,by omega⟩
  obtain ⟨h1,h2,h3⟩:=sj h
  have e1:=wr1 (k:=i) (by omega)
  have a3:(0:Int)≤(i:Int):=by omega
  have a4:(i:Int)<(da.n:Int):=by omega
  have hsz:=hS i h1
  have hl:((da.at' i).size:Int)=(b.length:Int):=by rw [←h2,ra]
  have hC:Un n (da.at' i)=some (ue b):=by rw [ogb n _ (by omega) hn,h2]
  have hJ7:xi n z (i:Int) id te ip re sk st he nu fl fd to da by' ov=some (if ue b=true then .out (z,(i:Int),id,te,ip,re,sk,st,he,nu,fl,fd,to,da,by',ov) else .ret false):=by
   unfold xi ol
   simp only [a3,a4,Int.toNat_natCast,hC,and_self,if_true,Option.bind_some]
   cases ue b<;>simp
  have w1:IntKind.wrap .i64 (z+(b.length:Int))=z+(b.length:Int):=wr (by omega) (by omega)
  have w2:IntKind.wrap .i64 (z+(b.length:Int)+2)=z+((b.length:Int)+2):=by rw [wr (by omega) (by omega)];omega
  have hJ:wi n z (i:Int) id te ip re sk st he nu fl fd to da by' ov=some (if (ue b&&decide (z+((b.length:Int)+2)≤8192))=true then .out (z+((b.length:Int)+2),(i:Int),id,te,ip,re,sk,st,he,nu,fl,fd,to,da,by',ov) else .ret false):=by
   unfold wi ml
   rw [hJ7]
   cases ue b
   · simp [onL]
   · simp only [if_true,Option.bind_some,onL,a3,a4,and_self,Int.toNat_natCast,hl,w1,w2,Bool.true_and]
     by_cases g:z+((b.length:Int)+2)>8192
     · have g':¬(z+((b.length:Int)+2)≤8192):=by omega
       simp [g,g']
     · have g':z+((b.length:Int)+2)≤8192:=by omega
       simp [g,g']
  simp only [Db,si,a4,decide_true,if_true,hJ,Option.bind_some,Nib]
  by_cases g:(ue b&&decide (z+((b.length:Int)+2)≤8192))=true
  · have g2:z+((b.length:Int)+2)≤8192:=by
     simp only [Bool.and_eq_true,decide_eq_true_iff] at g;exact g.2
    have ih:=jib hs hS hn r (i+1) m (z+((b.length:Int)+2)) h3 (by omega) (by simpa using hm) (by omega) g2
    rw [if_pos g]
    simp only [onL,e1,ih,←Bool.and_assoc,g,Bool.true_and,Di]
    rw [show z+((b.length:Int)+2)+Di r=z+((b.length:Int)+2+Di r) by omega]
  · have g':(ue b&&decide (z+((b.length:Int)+2)≤8192))=false:=by simpa using g
    simp only [g',←Bool.and_assoc,Bool.false_and,Bool.false_eq_true,if_false,onL]
end
theorem vhb:∀ l:List (List Int×List Int),l.isEmpty=true→M6 [] l=true
 | [],_=>rfl
 | _::_,h=>by cases h
theorem wab:∀ l:List (List Int),l.isEmpty=true→l.all ue=true∧Di l=0
 | [],_=>⟨rfl,rfl⟩
 | _::_,h=>by cases h
theorem kcb (st:Int) (nu:Bool) (fl fd:List Int) (to:List (List Int×List Int)):Wib st nu fl fd to=((if 2≤st∧st≤4 then (if nu=true then fl.isEmpty&&fd.isEmpty else Su fl&&Km fd)&&(to.isEmpty==decide (st=2)) else !nu&&((fl.isEmpty&&fd.isEmpty)&&to.isEmpty))&&(M6 [] to&&decide (to.length≤8))):=by
 unfold Wib
 by_cases g:2≤st∧st≤4
 · rw [if_pos g,if_pos g]
   generalize (if nu=true then fl.isEmpty&&fd.isEmpty else Su fl&&Km fd)=a
   generalize M6 [] to=b
   generalize decide (to.length≤8)=c
   generalize (to.isEmpty==decide (st=2))=d
   cases a<;>cases b<;>cases c<;>cases d<;>rfl
 · rw [if_neg g,if_neg g]
   cases h:to.isEmpty
   · simp
   · rw [vhb _ h,List.isEmpty_iff.1 h];simp
theorem bdb (st:Int) (da:List (List Int)) (by':Int) (ov:Bool):Mjb st da by' ov=((if st=4 then !ov || da.isEmpty else da.isEmpty&&!ov)&&((da.all ue&&decide (Di da≤8192))&&(by'==Di da))):=by
 unfold Mjb
 have e7:(by'==Di da)=decide (by'=Di da):=by rw [Bool.eq_iff_iff,beq_iff_eq,decide_eq_true_iff]
 rw [e7]
 by_cases g:st=4
 · cases ov
   · rw [if_pos ⟨g,rfl⟩,if_pos g]
     by_cases h:by'=Di da
     · rw [h];cases da.all ue<;>simp
     · rw [decide_eq_false h];cases da.all ue<;>simp
   · rw [if_neg (by simp),if_pos g]
     cases h:da.isEmpty
     · simp
     · obtain ⟨h1,h2⟩:=wab _ h
       rw [h1,h2];simp [g]
 · rw [if_neg (fun x=>g x.1),if_neg g]
   cases h:da.isEmpty
   · simp
   · obtain ⟨h1,h2⟩:=wab _ h
     rw [h1,h2];cases ov<;>simp [g]
theorem yjb (n:Nat) (c:T0) (h:Ok 30000 c) (hn:10000000≤n):Pl n c=some (I6 c):=by
 obtain ⟨id,te,ip,⟨re,sk,⟨⟩⟩,st,he,nu,⟨fl,fd,⟨⟩⟩,to,da,by',ov,⟨⟩⟩:=c
 have hre:re.size≤20000:=h.re
 have hhe:he.size≤20000:=h.he
 have hfl:fl.size≤20000:=h.fl
 have hfd:fd.size≤20000:=h.fd
 have hto:to.n≤30000:=h.to
 have hda:da.n≤30000:=h.da
 have j0:=Qkb n id te ip re sk st he nu fl fd to da by' ov hre hn
 have hD:=NW n he (by omega) hn
 have l0:=iib n id te ip re sk st he nu fl fd to da by' ov (by omega) h.toS hn _ 0 n rfl (Nat.zero_le _) (by rw [List.drop_zero,Bc];omega)
 have l1:=jib n id te ip re sk st he nu fl fd to da by' ov (by omega) h.daS hn _ 0 n 0 rfl (Nat.zero_le _) (by rw [List.drop_zero,Bc];omega) (Int.le_refl _) (by decide)
 rw [show ((0:Nat):Int)=0 from rfl,List.drop_zero] at l0 l1
 rw [List.take_zero] at l0
 rw [Int.zero_add,ceb _ _ (by decide),Int.zero_add] at l1
 have e8:decide (to.n≤8)=decide ((sqL bb to).length≤8):=by rw [Bc]
 show _=some (mkb id te ip sk (bs re) st (bs he) nu (bs fl) (bs fd) (sqL bb to) (sqL bs da) by' ov)
 unfold Pl Lw
 simp only
 rw [j0]
 by_cases hs:inR st 0 5=true
 · have j2:=Skb n id te ip re sk st he nu fl fd to da by' ov hs hfl hfd hn
   have j5:=Ukb n id te ip re sk st he nu fl fd to da by' ov
   have hh:∀ b,(if st=0 then (bs he).isEmpty else if st=5 then (bs he).isEmpty || b else b)=(if st=0 then (bs he).isEmpty else if st=5 then (bs he).isEmpty || b else b):=fun _=>rfl
   have rest:∀ (hel:Bool),((ve n hel id te ip re sk st he nu fl fd to da by' ov).bind fun x_3=>onL x_3
    (fun a_4=>
    (we n a_4.1 a_4.2.1 a_4.2.2.1 a_4.2.2.2.1 a_4.2.2.2.2.1 a_4.2.2.2.2.2.1 a_4.2.2.2.2.2.2.1 a_4.2.2.2.2.2.2.2.1 a_4.2.2.2.2.2.2.2.2.1 a_4.2.2.2.2.2.2.2.2.2.1 a_4.2.2.2.2.2.2.2.2.2.2.1 a_4.2.2.2.2.2.2.2.2.2.2.2.1 a_4.2.2.2.2.2.2.2.2.2.2.2.2.1 a_4.2.2.2.2.2.2.2.2.2.2.2.2.2).bind fun x_5=>onL x_5
     (fun a_6=>
     (Cb n n (0:Int) a_6.1 a_6.2.1 a_6.2.2.1 a_6.2.2.2.1 a_6.2.2.2.2.1 a_6.2.2.2.2.2.1 a_6.2.2.2.2.2.2.1 a_6.2.2.2.2.2.2.2.1 a_6.2.2.2.2.2.2.2.2.1 a_6.2.2.2.2.2.2.2.2.2.1 a_6.2.2.2.2.2.2.2.2.2.2.1 a_6.2.2.2.2.2.2.2.2.2.2.2.1 a_6.2.2.2.2.2.2.2.2.2.2.2.2.1 a_6.2.2.2.2.2.2.2.2.2.2.2.2.2).bind fun x_7=>onL x_7
      (fun a_8=>
      (xe n a_8.1 a_8.2.1 a_8.2.2.1 a_8.2.2.2.1 a_8.2.2.2.2.1 a_8.2.2.2.2.2.1 a_8.2.2.2.2.2.2.1 a_8.2.2.2.2.2.2.2.1 a_8.2.2.2.2.2.2.2.2.1 a_8.2.2.2.2.2.2.2.2.2.1 a_8.2.2.2.2.2.2.2.2.2.2.1 a_8.2.2.2.2.2.2.2.2.2.2.2.1 a_8.2.2.2.2.2.2.2.2.2.2.2.2.1 a_8.2.2.2.2.2.2.2.2.2.2.2.2.2).bind fun x_9=>onL x_9
       (fun a_10=>
       (Db n n (0:Int) (0:Int) a_10.1 a_10.2.1 a_10.2.2.1 a_10.2.2.2.1 a_10.2.2.2.2.1 a_10.2.2.2.2.2.1 a_10.2.2.2.2.2.2.1 a_10.2.2.2.2.2.2.2.1 a_10.2.2.2.2.2.2.2.2.1 a_10.2.2.2.2.2.2.2.2.2.1 a_10.2.2.2.2.2.2.2.2.2.2.1 a_10.2.2.2.2.2.2.2.2.2.2.2.1 a_10.2.2.2.2.2.2.2.2.2.2.2.2.1 a_10.2.2.2.2.2.2.2.2.2.2.2.2.2).bind fun x_11=>onL x_11
        (fun a_12=>
        some (a_12.2.2.2.2.2.2.2.2.2.2.2.2.2.1==a_12.1))
        (fun a_13=>
        some a_13)
        (fun _=>none))
       (fun a_14=>
       some a_14)
       (fun _=>none))
      (fun a_15=>
      some a_15)
      (fun _=>none))
     (fun a_16=>
     some a_16)
     (fun _=>none))
    (fun a_17=>
    some a_17)
    (fun _=>none))=some ((if st=0 then (bs he).isEmpty else if st=5 then (bs he).isEmpty || hel else hel)&&((if 2≤st∧st≤4 then (if nu=true then (bs fl).isEmpty&&(bs fd).isEmpty else Su (bs fl)&&Km (bs fd))&&((sqL bb to).isEmpty==decide (st=2)) else !nu&&(((bs fl).isEmpty&&(bs fd).isEmpty)&&(sqL bb to).isEmpty))&&
     (M6 [] (sqL bb to)&&((if st=4 then !ov || (sqL bs da).isEmpty else (sqL bs da).isEmpty&&!ov)&&(((sqL bs da).all ue&&decide (Di (sqL bs da)≤8192))&&(by'==Di (sqL bs da))))))):=fun hel=>by
    rw [Rkb]
    generalize (if st=0 then (bs he).isEmpty else if st=5 then (bs he).isEmpty || hel else hel)=q1
    cases q1
    · simp [onL]
    simp only [if_true,Option.bind_some,onL,j2]
    generalize (if 2≤st∧st≤4 then (if nu=true then (bs fl).isEmpty&&(bs fd).isEmpty else Su (bs fl)&&Km (bs fd))&&((sqL bb to).isEmpty==decide (st=2)) else !nu&&(((bs fl).isEmpty&&(bs fd).isEmpty)&&(sqL bb to).isEmpty))=q2
    cases q2
    · simp [onL]
    simp only [if_true,Option.bind_some,onL,l0]
    generalize M6 [] (sqL bb to)=q3
    cases q3
    · simp [onL]
    simp only [if_true,Option.bind_some,onL,j5]
    generalize (if st=4 then !ov || (sqL bs da).isEmpty else (sqL bs da).isEmpty&&!ov)=q4
    cases q4
    · simp [onL]
    simp only [if_true,Option.bind_some,onL,l1]
    generalize ((sqL bs da).all ue&&decide (Di (sqL bs da)≤8192))=q5
    cases q5
    · simp [onL]
    simp only [if_true,Option.bind_some,onL,Bool.true_and]
   unfold mkb
   rw [kcb,bdb,hs,e8]
   have hel:Hkb st (bs he)=(if st=0 then (bs he).isEmpty else if st=5 then (bs he).isEmpty || y3 (bs he) else y3 (bs he)):=rfl
   rw [hel]
   have rest':=rest (y3 (bs he))
   have restF:¬(he.size≤200)→y3 (bs he)=false:=fun g=>by unfold y3;rw [ra,decide_eq_false g];rfl
   have restT:he.size≤200→y3 (bs he)=Km (bs he):=fun g=>by unfold y3;rw [ra,decide_eq_true g];rfl
   have fin:∀ (a1 a2 a3 a4 l8 h e t x:Bool),(a1&&(a2&&(a3&&(a4&&(true&&l8)))))=true→(h&&(e&&(t&&x)))=(a1&&(a2&&(a3&&(a4&&(true&&(h&&((e&&(t&&l8))&&x))))))):=fun a1 a2 a3 a4 l8 h e t x=>by
    cases a1<;>cases a2<;>cases a3<;>cases a4<;>cases l8<;>simp [Bool.and_assoc]
   have fin0:∀ (a1 a2 a3 a4 l8 h e t x:Bool),(a1&&(a2&&(a3&&(a4&&(true&&l8)))))=false→(a1&&(a2&&(a3&&(a4&&(true&&(h&&((e&&(t&&l8))&&x)))))))=false:=fun a1 a2 a3 a4 l8 h e t x=>by
    cases a1<;>cases a2<;>cases a3<;>cases a4<;>cases l8<;>simp
   cases hq0:(inR id 1 1099511627776&&(inR te 0 3&&(inR ip 0 1099511627776&&(igb sk (bs re)&&(true&&decide ((sqL bb to).length≤8)))))) with
   | false=>
    simp only [Bool.false_eq_true,if_false,Option.bind_some,onL,Option.some.injEq]
    exact (fin0 _ _ _ _ _ _ _ _ _ hq0).symm
   | true=>
    simp only [if_true,Option.bind_some,onL]
    rw [←fin _ _ _ _ _ _ _ _ _ hq0,←rest']
    by_cases g:he.size≤200
    · rw [if_pos (by simp;omega),hD,Option.bind_some,restT g];rfl
    · rw [if_neg (by simp;omega),restF g];rfl
 · have hs':inR st 0 5=false:=by simpa using hs
   unfold mkb
   rw [hs']
   simp [onL]
open Go Go.RowKit
theorem kab (n:Nat) (id te ip:Int) (re:BA) (sk:Bool) (st:Int) (he:BA) (nu:Bool) (fl fd:BA) (to:Sq Mbx) (da:Sq BA) (by':Int) (ov:Bool) (h0:to.n≤4000000) (h1:da.n≤4000000):
  Ch n (mkC id te ip re sk st he nu fl fd to da by' ov)=some (id,(te,(ip,(re,(sk,(st,(he,(nu,(fl,(fd,(by',(ov,(to,(da,())))))))))))))):=by
 have k1:Kz 32 to=some (to,()):=by unfold Kz;rw [if_pos (by omega)]
 have k2:Kz 16 da=some (da,()):=by unfold Kz;rw [if_pos (by omega)]
 unfold Ch aC
 simp only [mkC,k1,k2,Option.bind_some,ia]
section
variable (n:Nat) (id te ip:Int) (re:BA) (sk:Bool) (st:Int) (he:BA) (nu:Bool) (fl fd:BA) (to to3:Sq Mbx) (da da3:Sq BA) (by':Int) (ov:Bool)
end
open Go Go.RowKit
abbrev zTo:Sq Mbx:=⟨0,fun _=>ua (.pair .str (.pair .str .unit))⟩
abbrev zDa:Sq BA:=⟨0,fun _=>ua .str⟩
abbrev eS:BA:=⟨#[]⟩
def nSt (st:Int):Int:=if st≠0∧st≠5 then 1 else st
theorem BX (a b:Int):(a !=b)=!decide (a=b):=by
 rw [bne,show (a==b)=decide (a=b) by rw [Bool.eq_iff_iff,beq_iff_eq,decide_eq_true_iff]]
theorem Ii (a b:Int):(a==b)=decide (a=b):=by rw [Bool.eq_iff_iff,beq_iff_eq,decide_eq_true_iff]
section
variable (n:Nat) (id te ip:Int) (re:BA) (sk:Bool) (st:Int) (he:BA) (nu:Bool) (fl fd:BA) (to:Sq Mbx) (da:Sq BA) (by':Int) (ov:Bool)
theorem lgb:vh n id te ip re sk st he nu fl fd by' ov to da=some (id,(te,(ip,(re,(sk,(nSt st,(he,(false,(eS,(eS,((0:Int),(false,(zTo,(zDa,())))))))))))))):=by
 unfold vh nw nSt
 simp only [BX]
 by_cases g0:st=0<;>by_cases g5:st=5<;>simp [g0,g5]
def nam (to:Sq Mbx) (v:Mbx):Int×BA:=if st≠2∧st≠3 then (503,eS) else if to.n=8 then (452,eS) else if (sqL bb to).contains (bb v)=true then (250,eS) else (0,⟨#[114,99,112,116]⟩)
theorem Leb (k:Int) (w:BA) (nl:Bool) (a b:BA) (z:Int) (h:to.n≤4000000) (hn:10000000≤n):Wq n (mkC id te ip re sk st he nu fl fd to da by' ov) (k,(w,(nl,((a,(b,())),(z,())))))=some ((nam st to (a,(b,()))).1,((nam st to (a,(b,()))).2,())):=by
 have hC:=CN n to h (a,(b,())) hn
 unfold Wq bC nam
 simp only [mkC,BX,Ii,hC,Option.bind_some]
 have e8:decide ((to.n:Int)=8)=decide (to.n=8):=decide_eq_decide.2 (by omega)
 rw [e8]
 generalize (sqL bb to).contains (bb (a,(b,())))=q
 by_cases g2:st=2<;>by_cases g3:st=3<;>by_cases g8:to.n=8<;>cases q<;>simp [g2,g3,g8]
end
open Go Go.RowKit
abbrev flE (y:T0) (e:Int):Int×Int×Int×BA×Bool×Int×BA×Bool×BA×BA×Int×Bool×Int×Sq Mbx×Sq BA×Unit:=
 (y.1,(y.2.1,(y.2.2.1,(y.2.2.2.1.1,(y.2.2.2.1.2.1,(y.2.2.2.2.1,(y.2.2.2.2.2.1,(y.2.2.2.2.2.2.1,(y.2.2.2.2.2.2.2.1.1,(y.2.2.2.2.2.2.2.1.2.1,(y.2.2.2.2.2.2.2.2.2.2.1,(y.2.2.2.2.2.2.2.2.2.2.2.1,(e,(y.2.2.2.2.2.2.2.2.1,(y.2.2.2.2.2.2.2.2.2.1,())))))))))))))))
abbrev zC:T0:=mkC 0 0 0 eS false 0 eS false eS eS zTo zDa 0 false
abbrev oC (id te ip:Int):T0:=mkC id te ip eS false 0 eS false eS eS zTo zDa 0 false
theorem Mkb (B:Nat) (id te ip:Int):Ok B (oC id te ip):=⟨Nat.zero_le _,Nat.zero_le _,Nat.zero_le _,Nat.zero_le _,Nat.zero_le _,fun i hi=>absurd hi (Nat.not_lt_zero i),Nat.zero_le _,fun i hi=>absurd hi (Nat.not_lt_zero i)⟩
theorem Lkb (id te ip:Int):I6 (oC id te ip)=(inR id 1 1099511627776&&(inR te 0 3&&inR ip 0 1099511627776)):=by
 unfold I6 mkb
 simp only [mkC]
 have h1:igb false (bs eS)=true:=rfl
 have h2:inR 0 0 5=true:=rfl
 have h3:Hkb 0 (bs eS)=true:=rfl
 have h4:Wib 0 false (bs eS) (bs eS) (sqL bb zTo)=true:=rfl
 have h5:Mjb 0 (sqL bs zDa) 0 false=true:=rfl
 rw [h1,h2,h3,h4,h5]
 simp
theorem wib (n:Nat) (id te ip:Int) (hn:10000000≤n):wh n id te ip=some (if I6 (oC id te ip)=true then flE (oC id te ip) 0 else flE zC 1)∧vW n id te ip=some (if I6 (oC id te ip)=true then (oC id te ip,(0,())) else (zC,(1,()))):=by
 have h:=s7 n (oC id te ip) (Mkb 30000 id te ip) hn
 constructor
 · unfold wh pw
   rw [h,Option.bind_some]
   cases I6 (oC id te ip)<;>rfl
 · unfold vW rQ
   rw [h,Option.bind_some]
   cases I6 (oC id te ip)<;>rfl
open Go Go.RowKit
/-! What weighs much. -/
theorem skb (n:Nat) (l:Sq BA) (hS:∀ i,i<l.n→(l.at' i).size≤140737488351232):∀ (d i m:Nat) (z:Int),i+d=l.n→i≤l.n→0≤z→z≤281474976710656→(z<1048576→d<m)→0<m→i≤1048576→
  (z<1048576→l.n≤1048576)→∃ w,Pa n m l z (i:Int)=some (.out w)∧z≤w∧w≤281474976710656∧(w≤20000→∀ j,i≤j→j<l.n→(l.at' j).size≤20000)
 | 0,i,m,z,hi,hil,hz,hz2,hm,hm0,hi2,hln=>by
  obtain ⟨m,rfl⟩:∃ q,m=q+1:=⟨m - 1,by omega⟩
  have e:¬((i:Int)<(l.n:Int)):=by omega
  exact ⟨z,by simp [Pa,Nc,e],Int.le_refl _,hz2,fun _ j h1 h2=>by omega⟩
 | d+1,i,m,z,hi,hil,hz,hz2,hm,hm0,hi2,hln=>by
  obtain ⟨m,rfl⟩:∃ q,m=q+1:=⟨m - 1,by omega⟩
  have a4:(i:Int)<(l.n:Int):=by omega
  have a3:(0:Int)≤(i:Int):=by omega
  by_cases g:z<1048576
  · have hm':=hm g
    have hln':=hln g
    have e1:=wr1 (k:=i) (by omega)
    have hs:=hS i (by omega)
    have w1:IntKind.wrap .i64 (z+((l.at' i).size:Int))=z+((l.at' i).size:Int):=wr (by omega) (by omega)
    obtain ⟨w,hw,h1,h2,h3⟩:=skb n l hS d (i+1) m (z+((l.at' i).size:Int)) (by omega) (by omega) (by omega) (by omega) (fun _=>by omega) (by omega) (by omega) (fun _=>hln')
    refine ⟨w,?_,by omega,h2,fun hw2 j j1 j2=>?_⟩
    · simp only [Pa,Nc,a3,a4,g,e1,w1,Int.toNat_natCast,decide_true,if_true,and_self]
      exact hw
    · by_cases hj:j=i
      · subst hj;omega
      · exact h3 hw2 j (by omega) j2
  · exact ⟨z,by simp [Pa,Nc,a4,g],Int.le_refl _,hz2,fun hw=>by omega⟩
theorem Ilb (n:Nat) (l:Sq BA) (hl:l.n≤140737488351232) (hS:∀ i,i<l.n→(l.at' i).size≤140737488351232) (hn:10000000≤n):
  ∃ w:Int,Yg n l=some w∧0≤w∧w≤281474976710656∧(w≤20000→l.n≤20000∧∀ j,j<l.n→(l.at' j).size≤20000):=by
 obtain ⟨w,hw,h1,h2,h3⟩:=skb n l hS l.n 0 n (l.n:Int) (by omega) (Nat.zero_le _) (by omega) (by omega) (fun h=>by omega) (by omega) (by omega) (fun h=>by omega)
 rw [show ((0:Nat):Int)=0 from rfl] at hw
 refine ⟨w,?_,by omega,h2,fun hw2=>⟨by omega,fun j hj=>h3 hw2 j (Nat.zero_le _) hj⟩⟩
 unfold Yg zj
 rw [hw];rfl
section
variable (n:Nat) (c1 c2 c3:Int) (c4:BA) (c5:Bool) (c6:Int) (c7:BA) (c8:Bool) (c9 c10:BA) (to:Sq Mbx) (da:Sq BA) (c13:Int) (c14:Bool)
theorem Clb (hS:∀ i,i<to.n→(to.at' i).1.size≤140737488351232∧(to.at' i).2.1.size≤140737488351232):∀ (d i m:Nat) (z:Int),(1048576 - z).toNat≤d→d<m→0≤z→z≤1407374883553280→i≤to.n→i≤z→
  ∃ w:Int,Ea n m z (i:Int) c1 c2 c3 c4 c5 c6 c7 c8 c9 c10 to da c13 c14=some (.out w)∧z≤w∧w≤1407374883553280∧(w≤20000→z+(to.n - i)≤w∧∀ j,i≤j→j<to.n→(to.at' j).1.size≤20000∧(to.at' j).2.1.size≤20000):=by
 intro d
 induction d with
 | zero=>
  intro i m z hd hm hz hz2 hi hiz
  obtain ⟨m,rfl⟩:∃ q,m=q+1:=⟨m - 1,by omega⟩
  by_cases a4:(i:Int)<(to.n:Int)
  · have g:¬(z<1048576):=by omega
    exact ⟨z,by simp [Ea,db,a4,g],Int.le_refl _,hz2,fun hw=>by omega⟩
  · exact ⟨z,by simp [Ea,db,a4],Int.le_refl _,hz2,fun hw=>⟨by omega,fun j h1 h2=>by omega⟩⟩
 | succ d ih=>
  intro i m z hd hm hz hz2 hi hiz
  obtain ⟨m,rfl⟩:∃ q,m=q+1:=⟨m - 1,by omega⟩
  by_cases a4:(i:Int)<(to.n:Int)
  · by_cases g:z<1048576
    · have a3:(0:Int)≤(i:Int):=by omega
      have e1:=wr1 (k:=i) (by omega)
      obtain ⟨s1,s2⟩:=hS i (by omega)
      have w0:IntKind.wrap .i64 (z+1)=z+1:=wr (by omega) (by omega)
      have w1:IntKind.wrap .i64 (z+1+((to.at' i).1.size:Int))=z+1+((to.at' i).1.size:Int):=wr (by omega) (by omega)
      have w2:IntKind.wrap .i64 (z+1+((to.at' i).1.size:Int)+((to.at' i).2.1.size:Int))=z+1+((to.at' i).1.size:Int)+((to.at' i).2.1.size:Int):=wr (by omega) (by omega)
      obtain ⟨w,hw,h1,h2,h3⟩:=ih (i+1) m (z+1+((to.at' i).1.size:Int)+((to.at' i).2.1.size:Int)) (by omega) (by omega) (by omega) (by omega) (by omega) (by omega)
      refine ⟨w,?_,by omega,h2,fun hw2=>⟨by have:=(h3 hw2).1;omega,fun j j1 j2=>?_⟩⟩
      · simp only [Ea,db,a3,a4,g,e1,w0,w1,w2,Int.toNat_natCast,decide_true,if_true,and_self]
        exact hw
      · by_cases hj:j=i
        · subst hj;omega
        · exact (h3 hw2).2 j (by omega) j2
    · exact ⟨z,by simp [Ea,db,a4,g],Int.le_refl _,hz2,fun hw=>by omega⟩
  · exact ⟨z,by simp [Ea,db,a4],Int.le_refl _,hz2,fun hw=>⟨by omega,fun j h1 h2=>by omega⟩⟩
end
structure Big (c:T0):Prop where
 re:c.2.2.2.1.1.size≤140737488351232
 he:c.2.2.2.2.2.1.size≤140737488351232
 fl:c.2.2.2.2.2.2.2.1.1.size≤140737488351232
 fd:c.2.2.2.2.2.2.2.1.2.1.size≤140737488351232
 to:c.2.2.2.2.2.2.2.2.1.n≤140737488351232
 toS:∀ i,i<c.2.2.2.2.2.2.2.2.1.n→(c.2.2.2.2.2.2.2.2.1.at' i).1.size≤140737488351232∧(c.2.2.2.2.2.2.2.2.1.at' i).2.1.size≤140737488351232
 da:c.2.2.2.2.2.2.2.2.2.1.n≤140737488351232
 daS:∀ i,i<c.2.2.2.2.2.2.2.2.2.1.n→(c.2.2.2.2.2.2.2.2.2.1.at' i).size≤140737488351232
theorem Dlb (n:Nat) (c:T0) (h:Big c) (hn:10000000≤n):∃ w:Int,le n c=some w∧0≤w∧w≤1407374883553280∧(w≤20000→Ok 20000 c):=by
 obtain ⟨id,te,ip,⟨re,sk,⟨⟩⟩,st,he,nu,⟨fl,fd,⟨⟩⟩,to,da,by',ov,⟨⟩⟩:=c
 have h1:re.size≤140737488351232:=h.re
 have h2:he.size≤140737488351232:=h.he
 have h3:fl.size≤140737488351232:=h.fl
 have h4:fd.size≤140737488351232:=h.fd
 obtain ⟨v,k1,k2,k3,k4⟩:=Ilb n da h.da h.daS hn
 have w1:IntKind.wrap .i64 ((he.size:Int)+(re.size:Int))=(he.size:Int)+(re.size:Int):=wr (by omega) (by omega)
 have w2:IntKind.wrap .i64 ((he.size:Int)+(re.size:Int)+v)=(he.size:Int)+(re.size:Int)+v:=wr (by omega) (by omega)
 have w3:IntKind.wrap .i64 ((he.size:Int)+(re.size:Int)+v+(fl.size:Int))=(he.size:Int)+(re.size:Int)+v+(fl.size:Int):=wr (by omega) (by omega)
 have w4:IntKind.wrap .i64 ((he.size:Int)+(re.size:Int)+v+(fl.size:Int)+(fd.size:Int))=(he.size:Int)+(re.size:Int)+v+(fl.size:Int)+(fd.size:Int):=wr (by omega) (by omega)
 obtain ⟨w,l1,l2,l3,l4⟩:=Clb n id te ip re sk st he nu fl fd to da by' ov h.toS 1048576 0 n ((he.size:Int)+(re.size:Int)+v+(fl.size:Int)+(fd.size:Int)) (by omega) (by omega) (by omega) (by omega) (Nat.zero_le _) (by omega)
 rw [show ((0:Nat):Int)=0 from rfl] at l1
 refine ⟨w,?_,by omega,l3,fun hw=>?_⟩
 · unfold le Ug
   simp only [k1,Option.bind_some,w1,w2,w3,w4,l1,onL]
 · obtain ⟨m1,m2⟩:=l4 hw
   obtain ⟨o1,o2⟩:=k4 (by omega)
   exact ⟨by show re.size≤_;omega,by show he.size≤_;omega,by show fl.size≤_;omega,by show fd.size≤_;omega,by show to.n≤_;omega,fun i hi=>m2 i (Nat.zero_le _) hi,o1,o2⟩
def OkA (N:Nat) (a:T2):Prop:=a.2.2.2.1.1.size≤N∧a.2.2.2.2.1.2.1.size≤N∧a.2.2.2.2.1.2.2.2.1.1.size≤N∧a.2.2.2.2.1.2.2.2.1.2.1.size≤N
section
variable (n:Nat) (c1 c2 c3:Int) (c4:BA) (c5:Bool) (c6:Int) (c7:BA) (c8:Bool) (c9 c10:BA) (to:Sq Mbx) (da:Sq BA) (c13:Int) (c14:Bool) (l:Sq T2)
theorem Elb (hS:∀ i,i<l.n→OkA 140737488351232 (l.at' i)):∀ (d i m:Nat) (z:Int),(1048576 - z).toNat≤d→d<m→0≤z→z≤2814749767106560→i≤l.n→i≤z→
  ∃ w:Int,Tb n m z (i:Int) c1 c2 c3 c4 c5 c6 c7 c8 c9 c10 to da c13 c14 l=some (.out (w,c1,c2,c3,c4,c5,c6,c7,c8,c9,c10,to,da,c13,c14,l))∧z≤w∧(w≤20000→∀ j,i≤j→j<l.n→OkA 20000 (l.at' j)):=by
 intro d
 induction d with
 | zero=>
  intro i m z hd hm hz hz2 hi hiz
  obtain ⟨m,rfl⟩:∃ q,m=q+1:=⟨m - 1,by omega⟩
  by_cases a4:(i:Int)<(l.n:Int)
  · have g:¬(z<1048576):=by omega
    exact ⟨z,by simp [Tb,sf,a4,g],Int.le_refl _,fun hw=>by omega⟩
  · exact ⟨z,by simp [Tb,sf,a4],Int.le_refl _,fun hw j h1 h2=>by omega⟩
 | succ d ih=>
  intro i m z hd hm hz hz2 hi hiz
  obtain ⟨m,rfl⟩:∃ q,m=q+1:=⟨m - 1,by omega⟩
  by_cases a4:(i:Int)<(l.n:Int)
  · by_cases g:z<1048576
    · have a3:(0:Int)≤(i:Int):=by omega
      have e1:=wr1 (k:=i) (by omega)
      obtain ⟨s1,s2,s3,s4⟩:=hS i (by omega)
      generalize hq:l.at' i=q at s1 s2 s3 s4
      have w0:IntKind.wrap .i64 (z+1)=z+1:=wr (by omega) (by omega)
      have w1:IntKind.wrap .i64 (z+1+(q.2.2.2.1.1.size:Int))=z+1+(q.2.2.2.1.1.size:Int):=wr (by omega) (by omega)
      have w2:IntKind.wrap .i64 (z+1+(q.2.2.2.1.1.size:Int)+(q.2.2.2.2.1.2.1.size:Int))=z+1+(q.2.2.2.1.1.size:Int)+(q.2.2.2.2.1.2.1.size:Int):=wr (by omega) (by omega)
      have w3:IntKind.wrap .i64 (z+1+(q.2.2.2.1.1.size:Int)+(q.2.2.2.2.1.2.1.size:Int)+(q.2.2.2.2.1.2.2.2.1.1.size:Int))=z+1+(q.2.2.2.1.1.size:Int)+(q.2.2.2.2.1.2.1.size:Int)+(q.2.2.2.2.1.2.2.2.1.1.size:Int):=wr (by omega) (by omega)
      have w4:IntKind.wrap .i64 (z+1+(q.2.2.2.1.1.size:Int)+(q.2.2.2.2.1.2.1.size:Int)+(q.2.2.2.2.1.2.2.2.1.1.size:Int)+(q.2.2.2.2.1.2.2.2.1.2.1.size:Int))=z+1+(q.2.2.2.1.1.size:Int)+(q.2.2.2.2.1.2.1.size:Int)+(q.2.2.2.2.1.2.2.2.1.1.size:Int)+(q.2.2.2.2.1.2.2.2.1.2.1.size:Int):=wr (by omega) (by omega)
      obtain ⟨w,hw,h1,h3⟩:=ih (i+1) m (z+1+(q.2.2.2.1.1.size:Int)+(q.2.2.2.2.1.2.1.size:Int)+(q.2.2.2.2.1.2.2.2.1.1.size:Int)+(q.2.2.2.2.1.2.2.2.1.2.1.size:Int)) (by omega) (by omega) (by omega) (by omega) (by omega) (by omega)
      refine ⟨w,?_,by omega,fun hw2 j j1 j2=>?_⟩
      · simp only [Tb,sf,a3,a4,g,e1,hq,w0,w1,w2,w3,w4,Int.toNat_natCast,decide_true,if_true,and_self]
        exact hw
      · by_cases hj:j=i
        · subst hj;rw [hq];exact ⟨by omega,by omega,by omega,by omega⟩
        · exact h3 hw2 j (by omega) j2
    · exact ⟨z,by simp [Tb,sf,a4,g],Int.le_refl _,fun hw=>by omega⟩
  · exact ⟨z,by simp [Tb,sf,a4],Int.le_refl _,fun hw j h1 h2=>by omega⟩
end
abbrev Scr:=T0×(Sq T2×Unit)
theorem Pgb (n:Nat) (p:Scr) (h:Big p.1) (hS:∀ i,i<p.2.1.n→OkA 140737488351232 (p.2.1.at' i)) (hn:10000000≤n):∃ b,Bo n p=some b∧(b=false→Ok 20000 p.1∧∀ j,j<p.2.1.n→OkA 20000 (p.2.1.at' j)):=by
 obtain ⟨w,k1,k2,k3,k4⟩:=Dlb n p.1 h hn
 obtain ⟨c,l,⟨⟩⟩:=p
 obtain ⟨w2,l1,l2,l3⟩:=Elb n c.1 c.2.1 c.2.2.1 c.2.2.2.1.1 c.2.2.2.1.2.1 c.2.2.2.2.1 c.2.2.2.2.2.1 c.2.2.2.2.2.2.1 c.2.2.2.2.2.2.2.1.1 c.2.2.2.2.2.2.2.1.2.1 c.2.2.2.2.2.2.2.2.1 c.2.2.2.2.2.2.2.2.2.1 c.2.2.2.2.2.2.2.2.2.2.1 c.2.2.2.2.2.2.2.2.2.2.2.1 l hS 1048576 0 n w (by omega) (by omega) (by omega) (by omega) (Nat.zero_le _) (by omega)
 rw [show ((0:Nat):Int)=0 from rfl] at l1
 refine ⟨decide (w2>20000) || decide ((l.n:Int)>100),?_,fun hb=>?_⟩
 · unfold Bo UC
   simp only [k1,Option.bind_some,l1,onL]
   by_cases g:w2>20000
   · simp [g]
   · simp [g]
 · simp only [Bool.or_eq_false_iff,decide_eq_false_iff_not] at hb
   exact ⟨k4 (by omega),fun j hj=>l3 (by omega) j (Nat.zero_le _) hj⟩
open Go Go.RowKit
theorem GW (n:Nat) (e:Int):Pf n e=some e:=rfl
open Go Go.RowKit
theorem ikb (n:Nat) (hn:10000000≤n):Fo n=some true:=by
 have hm:I6 (oC 1 0 5)=true:=by rw [Lkb];decide
 have hO:=(wib n 1 0 5 hn).2
 rw [hm,if_pos rfl] at hO
 have hP:PV (bs (⟨#[69,72,76,79,32,120]⟩:BA))=.ok (2,([120],(false,([],([],0))))):=by rfl
 have h1:=rB n (⟨#[69,72,76,79,32,120]⟩:BA) (by decide) hn
 rw [hP] at h1
 obtain ⟨w,a,b,i1,i2,i3,i4⟩:=h1
 have i2':bs w=[120]:=i2
 have i1':qx n (⟨#[69,72,76,79,32,120]⟩:BA)=some ((2,(w,(false,((a,(b,())),(0,()))))),(0,())):=i1
 have hw:w.size=1:=by rw [←ra,i2'];rfl
 have hh:Wj n w=some true:=by
  rw [Kab n w (by omega) hn,i2']
  have:y3 [120]=true:=by decide
  rw [this]
 have hc:=s7 n (oC 1 0 5) (Mkb 30000 1 0 5) hn
 rw [hm] at hc
 have o1:=kab n 1 0 5 eS false 0 eS false eS eS zTo zDa 0 false (Nat.zero_le _) (Nat.zero_le _)
 have o2:=kab n 1 0 5 eS false 1 w false eS eS zTo zDa 0 false (Nat.zero_le _) (Nat.zero_le _)
 have hA:=lgb n 1 0 5 eS false 1 w false eS eS zTo zDa 0 false
 have n1:nSt 1=1:=rfl
 rw [n1] at hA
 have hC:ab n 1 0 5 eS false 0 eS false eS eS 0 false (2,(w,(false,((a,(b,())),(0,()))))) zTo zDa=some (mkC 1 0 5 eS false 1 w false eS eS zTo zDa 0 false,(250,(eS,()))):=by
  unfold ab Kb
  dsimp only
  rw [if_neg (by decide),if_pos (show ((2:Int)==2)=true from rfl),hh,Option.bind_some,if_neg (by decide),hA];rfl
 have hH:Ub n 1 0 5 eS false 0 eS false eS eS 0 false (⟨#[69,72,76,79,32,120]⟩,(false,())) zTo zDa=some (mkC 1 0 5 eS false 1 w false eS eS zTo zDa 0 false,(250,(eS,((2,(w,(false,((a,(b,())),(0,()))))),())))):=by
  unfold Ub Uf
  dsimp only
  rw [if_neg (by decide),if_neg (by decide),i1',Option.bind_some,if_pos (show ((0:Int)==0)=true from rfl)]
  show (ab n 1 0 5 eS false 0 eS false eS eS 0 false (2,(w,(false,((a,(b,())),(0,()))))) zTo zDa).bind _=_
  rw [hC,Option.bind_some,ia]
 have hL:Il n (oC 1 0 5) (⟨#[69,72,76,79,32,120]⟩,(false,()))=some (mkC 1 0 5 eS false 1 w false eS eS zTo zDa 0 false,(250,(eS,(0,())))):=by
  unfold Il rI
  rw [hc,Option.bind_some,if_neg (by decide),if_neg (by decide),ia,o1,Option.bind_some]
  show (Ub n 1 0 5 eS false 0 eS false eS eS 0 false (⟨#[69,72,76,79,32,120]⟩,(false,())) zTo zDa).bind _=_
  rw [hH,Option.bind_some]
  show (Ch n (mkC 1 0 5 eS false 1 w false eS eS zTo zDa 0 false)).bind _=_
  rw [o2];rfl
 unfold Fo YC
 rw [hO,Option.bind_some]
 show (Il n (oC 1 0 5) (⟨#[69,72,76,79,32,120]⟩,(false,()))).bind _=_
 rw [hL,Option.bind_some]
 simp only [GW,Option.bind_some]
 have:(w.toList==(⟨#[120]⟩:BA).toList)=true:=by rw [tc,i2'];rfl
 have hE:(eS.toList==(⟨#[]⟩:BA).toList)=true:=by rw [tc];rfl
 simp only [this,hE]
 rfl
theorem ajb {p:Scr} (h:Fit reachBytes K4 p):Big p.1∧∀ i,i<p.2.1.n→OkA 140737488351232 (p.2.1.at' i):=
 ⟨⟨h.1.2.2.2.1.1,h.1.2.2.2.2.2.1,h.1.2.2.2.2.2.2.2.1.1,h.1.2.2.2.2.2.2.2.1.2.1,h.1.2.2.2.2.2.2.2.2.1.1,fun i hi=>⟨(h.1.2.2.2.2.2.2.2.2.1.2 i hi).1,(h.1.2.2.2.2.2.2.2.2.1.2 i hi).2.1⟩,h.1.2.2.2.2.2.2.2.2.2.1.1,fun i hi=>h.1.2.2.2.2.2.2.2.2.2.1.2 i hi⟩,
  fun i hi=>⟨(h.2.1.2 i hi).2.2.2.1.1,(h.2.1.2 i hi).2.2.2.2.1.2.1,(h.2.1.2 i hi).2.2.2.2.1.2.2.2.1.1,(h.2.1.2 i hi).2.2.2.2.1.2.2.2.1.2.1⟩⟩
section
variable (n:Nat) (hn:10000000≤n) (dd:Int) (id te ip:Int) (re:BA) (sk:Bool) (st:Int) (he:BA) (nu:Bool) (fl fd:BA) (to:Sq Mbx) (da:Sq BA) (by':Int) (ov:Bool) (l:Sq T2)
include hn
end
open Go Go.RowKit
set_option maxRecDepth 100000
section
variable (n:Nat) (hn:10000000≤n) (id te ip:Int) (re:BA) (sk:Bool) (st:Int) (he:BA) (nu:Bool) (fl fd:BA) (to:Sq Mbx) (da:Sq BA) (by':Int) (ov:Bool)
theorem MH (hn:10000000≤n) (hok:Ok 20000 (mkC id te ip re sk st he nu fl fd to da by' ov)) (hm:I6 (mkC id te ip re sk st he nu fl fd to da by' ov)=true) (h5:st≠5) (l:BA×(Bool×Unit)) (st' code:Int) (asks:BA)
  (hH:∃ vv,Ub n id te ip re sk st he nu fl fd by' ov l to da=some (mkC id te ip re sk st' he nu fl fd to da by' ov,(code,(asks,(vv,()))))):
  Il n (mkC id te ip re sk st he nu fl fd to da by' ov) l=some (mkC id te ip re sk st' he nu fl fd to da by' ov,(code,(asks,(0,())))):=by
 obtain ⟨vv,hH⟩:=hH
 have hto:to.n≤20000:=hok.to
 have hda:da.n≤20000:=hok.da
 have h:=s7 n _ (hok.mono (by omega)) hn
 rw [hm] at h
 have h5':(st==(5:Int))=false:=by rw [Ii];exact decide_eq_false h5
 have o1:=kab n id te ip re sk st he nu fl fd to da by' ov (by omega) (by omega)
 have o2:=kab n id te ip re sk st' he nu fl fd to da by' ov (by omega) (by omega)
 unfold Il rI
 simp only [h,Option.bind_some,Bool.not_true,Bool.false_eq_true,if_false,mkC,h5',ia] at o1 o2 hH ⊢
 rw [o1,Option.bind_some,hH,Option.bind_some,o2,Option.bind_some]
theorem Bbb (h4:st≠4) (t:BA):∃ vv,Ub n id te ip re sk st he nu fl fd by' ov (t,(true,())) to da=some (mkC id te ip re sk st he nu fl fd to da by' ov,((500:Int),(eS,(vv,())))):=by
 refine ⟨(0,(eS,(false,((eS,(eS,())),(0,()))))),?_⟩
 unfold Ub Uf
 dsimp only
 rw [if_neg (by rw [Ii,decide_eq_false h4];simp),if_pos (show true=true from rfl),ia]
theorem Adb (h4:st≠4) (t:BA) (e:Int) (h0:e≠0) (ht:t.size≤20000) (hn:10000000≤n) (hP:PV (bs t)=.error e):∃ vv,Ub n id te ip re sk st he nu fl fd by' ov (t,(false,())) to da=some (mkC id te ip re sk st he nu fl fd to da by' ov,((if e=3 then 500 else 501:Int),(eS,(vv,())))):=by
 have h1:=rB n t ht hn
 rw [hP] at h1
 have h1':qx n t=some (lkb,(e,())):=h1
 refine ⟨lkb,?_⟩
 unfold Ub Uf
 dsimp only
 rw [if_neg (by rw [Ii,decide_eq_false h4];simp),if_neg (by simp),h1',Option.bind_some,if_neg (by rw [Ii,decide_eq_false h0];simp)]
 by_cases h3:e=3
 · rw [if_pos (by rw [h3];rfl),if_pos h3,ia]
 · rw [if_neg (by rw [Ii,decide_eq_false h3];simp),if_neg h3,ia]
theorem Bdb (h4:st≠4) (t:BA) (v:T1) (hP:qx n t=some (v,(0,()))) (st' code:Int) (asks:BA)
  (hC:ab n id te ip re sk st he nu fl fd by' ov v to da=some (mkC id te ip re sk st' he nu fl fd to da by' ov,(code,(asks,())))):
  ∃ vv,Ub n id te ip re sk st he nu fl fd by' ov (t,(false,())) to da=some (mkC id te ip re sk st' he nu fl fd to da by' ov,(code,(asks,(vv,())))):=by
 refine ⟨v,?_⟩
 unfold Ub Uf
 dsimp only
 rw [if_neg (by rw [Ii,decide_eq_false h4];simp),if_neg (by simp),hP,Option.bind_some,if_pos (show ((0:Int)==0)=true from rfl),hC,Option.bind_some,ia]
abbrev wLines:Sq (BA×(Bool×Unit)):=⟨9,fun q=>List.getD (α:=(BA×(Bool×Unit))) [((⟨#[]⟩:BA),(true,())),((⟨#[88,89,90,90]⟩:BA),(false,())),((⟨#[]⟩:BA),(false,())),((⟨#[77,65,73,76]⟩:BA),(false,())),((⟨#[82,67,80,84,32,84,79,58,60,62]⟩:BA),(false,())),((⟨#[72,69,76,79,32,45]⟩:BA),(false,())),((⟨#[68,65,84,65,32,120]⟩:BA),(false,())),((⟨#[69,72,76,79]⟩:BA),(false,())),((⟨#[77,65,73,76,32,70,82,79,77,58,97,64,98]⟩:BA),(false,()))] q (ua (.pair .str (.pair .bool .unit)))⟩
abbrev wWant:Sq Int:=⟨9,fun q=>List.getD (α:=Int) [(500:Int),(500:Int),(500:Int),(501:Int),(501:Int),(501:Int),(501:Int),(501:Int),(501:Int)] q (ua (.int .i64))⟩
abbrev wTurns:Sq BA:=⟨3,fun q=>List.getD (α:=BA) [(⟨#[77,65,73,76,32,70,82,79,77,58,60,97,64,98,62]⟩:BA),(⟨#[82,67,80,84,32,84,79,58,60,97,64,98,62]⟩:BA),(⟨#[68,65,84,65]⟩:BA)] q (ua .str)⟩
theorem udb (hn:10000000≤n) (hok:Ok 20000 (mkC id te ip re sk st he nu fl fd to da by' ov)) (hm:I6 (mkC id te ip re sk st he nu fl fd to da by' ov)=true) (h5:st≠5) (h4:st≠4):∀ i,i<9→
  Il n (mkC id te ip re sk st he nu fl fd to da by' ov) ((wLines.at' i).1,((wLines.at' i).2.1,()))=some (mkC id te ip re sk st he nu fl fd to da by' ov,(wWant.at' i,(eS,(0,())))):=by
 have H:=fun l code hH=>MH n id te ip re sk st he nu fl fd to da by' ov hn hok hm h5 l st code eS hH
 have Hb:=fun t e h0 ht hP=>Adb n id te ip re sk st he nu fl fd to da by' ov h4 t e h0 ht hn hP
 intro i hi
 match i,hi with
 | 0,_=>exact H _ _ (Bbb n id te ip re sk st he nu fl fd to da by' ov h4 _)
 | 1,_=>exact H _ _ (Hb (⟨#[88,89,90,90]⟩:BA) 3 (by decide) (by decide) (by rfl))
 | 2,_=>exact H _ _ (Hb (⟨#[]⟩:BA) 3 (by decide) (by decide) (by rfl))
 | 3,_=>exact H _ _ (Hb (⟨#[77,65,73,76]⟩:BA) 8 (by decide) (by decide) (by rfl))
 | 4,_=>exact H _ _ (Hb (⟨#[82,67,80,84,32,84,79,58,60,62]⟩:BA) 8 (by decide) (by decide) (by rfl))
 | 5,_=>exact H _ _ (Hb (⟨#[72,69,76,79,32,45]⟩:BA) 8 (by decide) (by decide) (by rfl))
 | 6,_=>exact H _ _ (Hb (⟨#[68,65,84,65,32,120]⟩:BA) 8 (by decide) (by decide) (by rfl))
 | 7,_=>exact H _ _ (Hb (⟨#[69,72,76,79]⟩:BA) 8 (by decide) (by decide) (by rfl))
 | 8,_=>exact H _ _ (Hb (⟨#[77,65,73,76,32,70,82,79,77,58,97,64,98]⟩:BA) 8 (by decide) (by decide) (by rfl))
theorem keb (hn:10000000≤n) (hok:Ok 20000 (mkC id te ip re sk st he nu fl fd to da by' ov)):wa n (mkC id te ip re sk st he nu fl fd to da by' ov) (mkC id te ip re sk st he nu fl fd to da by' ov)=some true:=
 O6 n (CE.refl _) (hok.mono (by omega)) hn
theorem dgb (hn:10000000≤n) (hok:Ok 20000 (mkC id te ip re sk st he nu fl fd to da by' ov)) (hm:I6 (mkC id te ip re sk st he nu fl fd to da by' ov)=true) (h5:st≠5) (h4:st≠4):∀ (d i m:Nat),i+d=9→d<m→
  Ka n m (i:Int) id te ip re sk st he nu fl fd to da by' ov wLines wWant=some (.out (id,te,ip,re,sk,st,he,nu,fl,fd,to,da,by',ov)):=by
 intro d
 induction d with
 | zero=>
  intro i m hi hm'
  obtain ⟨m,rfl⟩:∃ q,m=q+1:=⟨m - 1,by omega⟩
  have:¬((i:Int)<((9:Nat):Int)):=by omega
  simp only [Ka,Ic,wLines,this,decide_false,Bool.false_eq_true,if_false]
 | succ d ih=>
  intro i m hi hm'
  obtain ⟨m,rfl⟩:∃ q,m=q+1:=⟨m - 1,by omega⟩
  have e1:=wr1 (k:=i) (by omega)
  have a3:(0:Int)≤(i:Int):=by omega
  have a4:(i:Int)<((9:Nat):Int):=by omega
  have hL:=udb n id te ip re sk st he nu fl fd to da by' ov hn hok hm h5 h4 i (by omega)
  have hE:=keb n id te ip re sk st he nu fl fd to da by' ov hn hok
  have hS:((eS.toList==(⟨#[]⟩:BA).toList))=true:=by rw [tc];rfl
  have:=ih (i+1) m (by omega) (by omega)
  unfold Ka Ic
  rw [if_pos (by exact decide_eq_true a4),if_pos ⟨a3,a4⟩,ia,Int.toNat_natCast]
  rw [hL,Option.bind_some]
  simp only [GW,Option.bind_some]
  rw [if_pos (by rfl),if_pos ⟨a3,a4⟩,if_pos (by rw [bne_self_eq_false]),if_pos (by rw [hS];rfl)]
  rw [hE,Option.bind_some,if_neg (by simp),e1]
  exact this
def okJ (i st:Int):Bool:=(i==0&&st==1) || (i==1&&(st==2 || st==3)) || (i==2&&st==3)
theorem Flb (i code:Int) (asks:BA) (e:Int) (tu:Sq BA) (x x1 x2:Int) (x3:BA) (x4:Bool) (x5:Int) (x6:BA) (x7:Bool) (x8 x9:BA) (x10:Sq Mbx) (x11:Sq BA) (x12:Int) (x13:Bool):
  Ua n i code asks e id te ip re sk st he nu fl fd to da by' ov tu x x1 x2 x3 x4 x5 x6 x7 x8 x9 x10 x11 x12 x13=some (.out (i,code,asks,e,okJ i st,id,te,ip,re,sk,st,he,nu,fl,fd,to,da,by',ov,tu,x,x1,x2,x3,x4,x5,x6,x7,x8,x9,x10,x11,x12,x13)):=by
 unfold Ua Xd okJ
 generalize (i==(0:Int))=b0
 generalize (i==(1:Int))=b1
 generalize (i==(2:Int))=b2
 generalize (st==(1:Int))=d1
 generalize (st==(2:Int))=d2
 generalize (st==(3:Int))=d3
 cases b0<;>cases b1<;>cases b2<;>cases d1<;>cases d2<;>cases d3<;>rfl
theorem Efb (hn:10000000≤n) (hok:Ok 20000 (mkC id te ip re sk st he nu fl fd to da by' ov)) (hm:I6 (mkC id te ip re sk st he nu fl fd to da by' ov)=true) (h5:st≠5) (h4:st≠4):∀ i:Nat,i<3→
  ∃ st' code asks,Il n (mkC id te ip re sk st he nu fl fd to da by' ov) (wTurns.at' i,(false,()))=some (mkC id te ip re sk st' he nu fl fd to da by' ov,(code,(asks,(0,()))))∧
   (okJ i st=false→code=503∧asks=eS∧st'=st)∧(okJ i st=true→code≠503):=by
 have H:=fun l st' code asks hH=>MH n id te ip re sk st he nu fl fd to da by' ov hn hok hm h5 l st' code asks hH
 have Hc:=fun t v hP st' code asks hC=>Bdb n id te ip re sk st he nu fl fd to da by' ov h4 t v hP st' code asks hC
 intro i hi
 match i,hi with
 | 0,_=>
  have h1:=rB n (⟨#[77,65,73,76,32,70,82,79,77,58,60,97,64,98,62]⟩:BA) (by decide) hn
  rw [show PV (bs (⟨#[77,65,73,76,32,70,82,79,77,58,60,97,64,98,62]⟩:BA))=.ok (3,([],(false,([97],([98], -1))))) from by rfl] at h1
  obtain ⟨w,a,b,i1,_,_,_⟩:=h1
  by_cases g:st=1
  · refine ⟨st,0,⟨#[109,97,105,108]⟩,H _ st 0 _ (Hc _ _ i1 st 0 _ ?_),?_,fun _=>by decide⟩
    · unfold ab Kb
      dsimp only
      rw [if_neg (by decide),if_neg (by decide),if_neg (by decide),if_neg (by decide),if_neg (by decide),if_neg (by decide),if_neg (by decide),if_neg (by decide),if_neg (by rw [g];decide),if_neg (show ¬(decide ((-1:Int)>8192)=true) from by decide)]
    · rw [g];intro h;exact absurd h (by decide)
  · refine ⟨st,503,eS,H _ st 503 _ (Hc _ _ i1 st 503 _ ?_),fun _=>⟨rfl,rfl,rfl⟩,?_⟩
    · unfold ab Kb
      dsimp only
      rw [if_neg (by decide),if_neg (by decide),if_neg (by decide),if_neg (by decide),if_neg (by decide),if_neg (by decide),if_neg (by decide),if_neg (by decide),if_pos (by rw [BX,decide_eq_false g];rfl)]
    · intro h
      have:okJ ((0:Nat):Int) st=(st==1):=by unfold okJ;simp
      rw [this,Ii,decide_eq_false g] at h
      cases h
 | 1,_=>
  have h1:=rB n (⟨#[82,67,80,84,32,84,79,58,60,97,64,98,62]⟩:BA) (by decide) hn
  rw [show PV (bs (⟨#[82,67,80,84,32,84,79,58,60,97,64,98,62]⟩:BA))=.ok (4,([],(false,([97],([98],0))))) from by rfl] at h1
  obtain ⟨w,a,b,i1,_,_,_⟩:=h1
  have hto:to.n≤20000:=hok.to
  have hN:=Leb n id te ip re sk st he nu fl fd to da by' ov 4 w false a b 0 (by omega) hn
  have hE:okJ ((1:Nat):Int) st=(st==2 || st==3):=by unfold okJ;simp
  refine ⟨st,(nam st to (a,(b,()))).1,(nam st to (a,(b,()))).2,H _ st _ _ (Hc _ _ i1 st _ _ ?_),?_,?_⟩
  · unfold ab Kb
    dsimp only
    rw [if_neg (by decide),if_neg (by decide),if_neg (by decide),if_neg (by decide),if_neg (by decide),if_neg (by decide),if_pos (show ((4:Int)==4)=true from rfl)]
    show (Wq n (mkC id te ip re sk st he nu fl fd to da by' ov) (4,(w,(false,((a,(b,())),(0,())))))).bind _=_
    rw [hN,Option.bind_some]
  · intro h
    rw [hE] at h
    have g2:st≠2:=fun g=>by rw [g] at h;exact absurd h (by decide)
    have g3:st≠3:=fun g=>by rw [g] at h;exact absurd h (by decide)
    unfold nam
    rw [if_pos ⟨g2,g3⟩]
    exact ⟨rfl,rfl,rfl⟩
  · intro h
    rw [hE] at h
    have g:¬(st≠2∧st≠3):=fun g=>by
     rw [Ii,Ii,decide_eq_false g.1,decide_eq_false g.2] at h
     cases h
    unfold nam
    rw [if_neg g]
    split
    · decide
    · split<;>decide
 | 2,_=>
  have h1:=rB n (⟨#[68,65,84,65]⟩:BA) (by decide) hn
  rw [show PV (bs (⟨#[68,65,84,65]⟩:BA))=.ok (5,([],(false,([],([],0))))) from by rfl] at h1
  obtain ⟨w,a,b,i1,_,_,_⟩:=h1
  have hE:okJ ((2:Nat):Int) st=(st==3):=by unfold okJ;simp
  by_cases g:st=3
  · refine ⟨4,354,eS,H _ 4 354 _ (Hc _ _ i1 4 354 _ ?_),?_,fun _=>by decide⟩
    · unfold ab Kb
      dsimp only
      rw [if_neg (by decide),if_neg (by decide),if_neg (by decide),if_neg (by decide),if_neg (by decide),if_neg (by decide),if_neg (by decide),if_pos (show ((5:Int)==5)=true from rfl),if_neg (by rw [g];decide)]
    · rw [g];intro h;exact absurd h (by decide)
  · refine ⟨st,503,eS,H _ st 503 _ (Hc _ _ i1 st 503 _ ?_),fun _=>⟨rfl,rfl,rfl⟩,?_⟩
    · unfold ab Kb
      dsimp only
      rw [if_neg (by decide),if_neg (by decide),if_neg (by decide),if_neg (by decide),if_neg (by decide),if_neg (by decide),if_neg (by decide),if_pos (show ((5:Int)==5)=true from rfl),if_pos (by rw [BX,decide_eq_false g];rfl)]
    · intro h
      rw [hE,Ii,decide_eq_false g] at h
      cases h
theorem egb (hn:10000000≤n) (hok:Ok 20000 (mkC id te ip re sk st he nu fl fd to da by' ov)) (hm:I6 (mkC id te ip re sk st he nu fl fd to da by' ov)=true) (h5:st≠5) (h4:st≠4):∀ (d i m:Nat),i+d=3→d<m→
  La n m (i:Int) id te ip re sk st he nu fl fd to da by' ov wTurns=some (.out ()):=by
 intro d
 induction d with
 | zero=>
  intro i m hi hm'
  obtain ⟨m,rfl⟩:∃ q,m=q+1:=⟨m - 1,by omega⟩
  unfold La Jc
  rw [if_neg (by rw [decide_eq_true_eq];omega)]
 | succ d ih=>
  intro i m hi hm'
  obtain ⟨m,rfl⟩:∃ q,m=q+1:=⟨m - 1,by omega⟩
  have e1:=wr1 (k:=i) (by omega)
  have a3:(0:Int)≤(i:Int):=by omega
  have a4:(i:Int)<((3:Nat):Int):=by omega
  obtain ⟨st',code,asks,hL,k1,k2⟩:=Efb n id te ip re sk st he nu fl fd to da by' ov hn hok hm h5 h4 i (by omega)
  have hE:=keb n id te ip re sk st he nu fl fd to da by' ov hn hok
  have hS:((eS.toList==(⟨#[]⟩:BA).toList))=true:=by rw [tc];rfl
  have:=ih (i+1) m (by omega) (by omega)
  have hJ:=fun (s:Int)=>Flb n id te ip re sk st he nu fl fd to da by' ov (i:Int) code asks 0 wTurns id te ip re sk s he nu fl fd to da by' ov
  have e9:((0:Int) !=0)=false:=rfl
  have e10:(decide ((i:Int)<3))=true:=decide_eq_true (by omega)
  have w3:(wTurns.n:Int)=((3:Nat):Int):=rfl
  unfold La Jc
  simp only [Int.toNat_natCast]
  cases hj:okJ (i:Int) st with
  | false=>
   obtain ⟨rfl,rfl,rfl⟩:=k1 hj
   simp only [e10,w3,a3,a4,and_self,if_true,ba,ia,hL,mkC,Option.bind_some,hJ,onL,GW,e9,hj,Bool.not_false,bne_self_eq_false,hS,Bool.not_true,Bool.false_eq_true,if_false,e1] at hE hL ⊢
   simp only [hL,hE,Option.bind_some,hJ,onL,GW,e9,hj,Bool.not_false,bne_self_eq_false,hS,Bool.not_true,Bool.false_eq_true,if_false,if_true,e1,ba,ia]
   exact this
  | true=>
   have g:=k2 hj
   have g':(code==(503:Int))=false:=by rw [Ii,decide_eq_false g]
   simp only [e10,w3,a3,a4,and_self,if_true,ba,ia,hL,mkC,Option.bind_some,hJ,onL,GW,e9,hj,Bool.not_false,bne_self_eq_false,hS,Bool.not_true,Bool.false_eq_true,if_false,e1] at hE hL ⊢
   simp only [hL,hE,Option.bind_some,hJ,onL,GW,e9,hj,g',Bool.not_false,bne_self_eq_false,hS,Bool.not_true,Bool.false_eq_true,if_false,if_true,e1,ba,ia]
   exact this
end
theorem plain_CallerWrongs (p:Scr) (h:Fit reachBytes K4 p):∃ n,w2_CallerWrongs n p=some true:=⟨10000000,by
 obtain ⟨h1,h2⟩:=ajb h
 have hn:10000000≤10000000:=Nat.le_refl _
 obtain ⟨b,hb,hb2⟩:=Pgb 10000000 p h1 h2 hn
 unfold w2_CallerWrongs fh
 rw [hb,Option.bind_some]
 cases b with
 | true=>rfl
 | false=>
  obtain ⟨hok,_⟩:=hb2 rfl
  obtain ⟨⟨id,te,ip,⟨re,sk,⟨⟩⟩,st,he,nu,⟨fl,fd,⟨⟩⟩,to,da,by',ov,⟨⟩⟩,l,⟨⟩⟩:=p
  have hm:=yjb 10000000 (mkC id te ip re sk st he nu fl fd to da by' ov) (hok.mono (by omega)) hn
  rw [if_pos rfl]
  dsimp only
  rw [hm,Option.bind_some]
  cases hmm:I6 (mkC id te ip re sk st he nu fl fd to da by' ov) with
  | false=>rfl
  | true=>
   rw [if_pos (show (!true)=false from rfl)]
   by_cases h4:st=4
   · rw [if_neg (by rw [h4];decide)]
   by_cases h5:st=5
   · rw [if_pos (by rw [h5];decide),if_pos (by rw [h5];decide)]
   have l0:=dgb 10000000 id te ip re sk st he nu fl fd to da by' ov hn hok hmm h5 h4 9 0 10000000 (by omega) (by omega)
   have l1:=egb 10000000 id te ip re sk st he nu fl fd to da by' ov hn hok hmm h5 h4 3 0 10000000 (by omega) (by omega)
   rw [show ((0:Nat):Int)=0 from rfl] at l0 l1
   rw [if_pos (by rw [Ii,decide_eq_false h4]),if_neg (by rw [Ii,decide_eq_false h5];simp),l0,Option.bind_some]
   simp only [onL]
   rw [l1,Option.bind_some]
   simp only [onL,ikb 10000000 hn,Option.bind_some]⟩
end Go.Proofs.YtdohilmgblkppaaGreatDoor.AM
