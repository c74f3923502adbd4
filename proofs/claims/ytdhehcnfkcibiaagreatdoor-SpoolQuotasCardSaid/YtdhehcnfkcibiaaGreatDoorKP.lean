/- Texts, plainly: which bytes are a text (both sides). -/
import Derived.Test.YtdhehcnfkcibiaaGreatDoorKQ
import Derived.Test.YtdhehcnfkcibiaaGreatDoorKG
set_option linter.all false
set_option linter.unusedVariables false
set_option linter.unusedSimpArgs false
namespace Go.Proofs.YtdhehcnfkcibiaaGreatDoor.AM
open Go Go.RowKit
def bN:List Int→Option (List Int×List Int)
 | []=>none
 | [_]=>none
 | c::d::r=>if c=13∧d=10 then some ([],r) else (bN (d::r)).map fun p=>(c::p.1,p.2)
theorem cN:∀ (l a b:List Int),bN l=some (a,b)→l=a++13::10::b
 | [],a,b,h=>by cases h
 | [c],a,b,h=>by cases h
 | c::d::r,a,b,h=>by
  rw [bN] at h
  by_cases hc:c=13∧d=10
  · rw [if_pos hc] at h
    cases h
    rw [hc.1,hc.2];rfl
  · rw [if_neg hc] at h
    cases hp:bN (d::r) with
    | none=>rw [hp] at h;cases h
    | some p=>
     rw [hp] at h
     cases h
     have:=cN (d::r) p.1 p.2 hp
     rw [this];rfl
abbrev eB:BA:=⟨#[]⟩
abbrev ceB:BA:=⟨#[13,10]⟩
theorem vF:∀ (l:List UInt8) (k:Int),GQ l [13,10] k=match bN (l.map fun c=>(c.toNat:Int)) with
  | none=> -1
  | some p=>(p.1.length:Int)+k
 | [],k=>rfl
 | [b],k=>by
  unfold GQ
  have h:(List.isPrefixOf [(13:UInt8),10] [b])=false:=by simp [List.isPrefixOf]
  rw [h];rfl
 | b::c::l,k=>by
  have ih:=vF (c::l) (k+1)
  unfold GQ
  have e1:∀ (x y:UInt8),(x.toNat:Int)=(y.toNat:Int)↔x=y:=fun x y=>⟨fun e=>UInt8.toNat_inj.1 (by omega),fun e=>by rw [e]⟩
  have e13:((b.toNat:Int)=13)↔b=13:=e1 b 13
  have e10:((c.toNat:Int)=10)↔c=10:=e1 c 10
  rw [List.map_cons,List.map_cons,bN]
  by_cases h:b=13∧c=10
  · have hp:(List.isPrefixOf [(13:UInt8),10] (b::c::l))=true:=by rw [h.1,h.2];rfl
    rw [if_pos hp,if_pos ⟨e13.2 h.1,e10.2 h.2⟩]
    simp
  · have hp:(List.isPrefixOf [(13:UInt8),10] (b::c::l))=false:=by
     simp only [List.isPrefixOf,Bool.and_true,Bool.and_eq_false_iff,beq_eq_false_iff_ne]
     by_cases hb:b=13
     · right;exact fun e=>h ⟨hb,e.symm⟩
     · left;exact fun e=>hb e.symm
    have hn:¬((b.toNat:Int)=13∧(c.toNat:Int)=10):=fun e=>h ⟨e13.1 e.1,e10.1 e.2⟩
    rw [hp,if_neg (by simp),ih,if_neg hn,List.map_cons]
    cases bN ((c.toNat:Int)::l.map fun c=>(c.toNat:Int)) with
    | none=>rfl
    | some p=>
     show (p.1.length:Int)+(k+1)=((p.1.length+1:Nat):Int)+k
     omega
theorem QS (n:Nat) (s:BA) (hs:s.size≤1000000) (h:bN (bs s)=none):pD n s ceB=some (s,(eB,(false,()))):=by
 have hi:Bx s ceB=some (-1):=by
  unfold Bx
  rw [if_pos (by omega)]
  have:=vF s.data.toList 0
  have hb:bN (s.data.toList.map fun c=>(c.toNat:Int))=none:=h
  rw [hb] at this
  exact congrArg some this
 unfold pD pB tI jA
 rw [hi];rfl
theorem SS (n:Nat) (s:BA) (hs:s.size≤1000000) {p:List Int×List Int} (h:bN (bs s)=some p):∃ a b,pD n s ceB=some (a,(b,(true,())))∧bs a=p.1∧bs b=p.2:=by
 have hl:=cN _ _ _ h
 have hlen:s.size=p.1.length+(p.2.length+2):=by rw [←Fa,hl];simp
 have hi:Bx s ceB=some (p.1.length:Int):=by
  unfold Bx
  rw [if_pos (by omega)]
  have:=vF s.data.toList 0
  have hb:bN (s.data.toList.map fun c=>(c.toNat:Int))=some p:=h
  rw [hb] at this
  simp only [Int.add_zero] at this
  exact congrArg some this
 have w:IntKind.wrap .i64 ((p.1.length:Int)+(ceB.size:Int))=((p.1.length+2:Nat):Int):=by
  rw [show (ceB.size:Int)=2 from rfl,wr (by omega) (by omega)];rfl
 refine ⟨s.extract 0 p.1.length,s.extract (p.1.length+2) s.size,?_,?_,?_⟩
 · unfold pD pB tI jA
   rw [hi,Option.bind_some,if_pos (by simp),if_pos ⟨by omega,by omega⟩,w,if_pos ⟨by omega,by omega⟩,Option.bind_some]
   rfl
 · rw [sj,List.drop_zero,hl,List.take_left]
 · rw [sj,←Fa,List.take_length,hl]
   rw [List.drop_append]
   simp
def CL (l:List Int):Bool:=decide (l.length≤509)&&(!l.contains 13&&!l.contains 10)
theorem nO:∀ l:List UInt8,Lib.containsAny l [13,10]=((l.map fun c=>(c.toNat:Int)).contains 13 || (l.map fun c=>(c.toNat:Int)).contains 10)
 | []=>by decide
 | b::l=>by
  have ih:=nO l
  unfold Lib.containsAny at ih ⊢
  have hg:=Lib.indexAny_ge [13,10] l
  have e13:((13:Int)==(b.toNat:Int))=(b==13):=by
   rw [Bool.eq_iff_iff,beq_iff_eq,beq_iff_eq]
   exact ⟨fun h=>UInt8.toNat_inj.1 (by show b.toNat=13;omega),fun h=>by rw [h];rfl⟩
  have e10:((10:Int)==(b.toNat:Int))=(b==10):=by
   rw [Bool.eq_iff_iff,beq_iff_eq,beq_iff_eq]
   exact ⟨fun h=>UInt8.toNat_inj.1 (by show b.toNat=10;omega),fun h=>by rw [h];rfl⟩
  simp only [List.map_cons,List.contains_cons,e13,e10]
  unfold Lib.indexAny
  by_cases h1:b=13
  · subst h1;rfl
  by_cases h2:b=10
  · subst h2;simp
  have c1:([13,10]:List UInt8).contains b=false:=by simp [h1,h2]
  have d1:(b==13)=false:=by simpa using h1
  have d2:(b==10)=false:=by simpa using h2
  rw [if_neg (by rw [c1];simp),d1,d2,Bool.false_or,Bool.false_or,←ih]
  by_cases hz:Lib.indexAny l [13,10]= -1
  · rw [hz];rfl
  · rw [if_neg (by simpa using hz)]
    exact decide_eq_decide.2 (by omega)
theorem jT (n:Nat) (s:BA) (hs:s.size≤1000000):Pq n s=some (CL (bs s)):=by
 unfold Pq Pr CL
 rw [Fa]
 by_cases h:s.size≤509
 · have h':(s.size:Int)≤509:=by omega
   have hc:RP s (⟨#[13,10]⟩:BA)=some (Lib.containsAny s.data.toList [13,10]):=by
    unfold RP
    rw [if_pos ⟨by omega,rfl⟩];rfl
   simp only [h',h,decide_true,if_true,hc,Option.bind_some,nO,Bool.not_or,Bool.true_and]
   rfl
 · have h':¬(s.size:Int)≤509:=by omega
   simp [h,h']
def sK:Nat→List Int→Bool
 | 0,_=>false
 | d+1,l=>l.isEmpty || match bN l with
  | none=>false
  | some p=>CL p.1&&sK d p.2
def rM (l:List Int):Bool:=decide (l.length≤8192)&&sK (l.length+1) l
theorem DS {d:Nat} {l:List Int} {p:List Int×List Int} (hc:bN l=some p):sK (d+1) l=(CL p.1&&sK d p.2):=by
 have hne:l.isEmpty=false:=by
  cases l with
  | nil=>cases hc
  | cons _ _=>rfl
 simp only [sK,hc,hne,Bool.false_or]
theorem zQ {d:Nat} {l:List Int} (hc:bN l=none):sK (d+1) l=l.isEmpty:=by
 simp only [sK,hc,Bool.or_false]
theorem lR (n:Nat):∀ (d m:Nat) (s:BA),s.size<d→d≤m→s.size≤1000000→Ge n m s=some (if sK d (bs s)=true then .out () else .ret false)
 | 0,m,s,h,_,_=>by omega
 | d+1,m,s,h,hm,hs=>by
  obtain ⟨m,rfl⟩:∃ q,m=q+1:=⟨m - 1,by omega⟩
  have h0:((s.toList==(⟨#[]⟩:BA).toList))=(bs s).isEmpty:=by
   rw [Hv]
   cases hb:bs s with
   | nil=>simp [bs]
   | cons c r=>simp [bs]
  rw [Ge,Sm,h0,show (⟨#[13,10]⟩:BA)=ceB from rfl]
  cases hc:bN (bs s) with
  | none=>
   rw [zQ hc,QS n s hs hc]
   cases (bs s).isEmpty<;>rfl
  | some p=>
   obtain ⟨a,b,h1,h2,h3⟩:=SS n s hs hc
   have hne:(bs s).isEmpty=false:=by
    cases hb:bs s with
    | nil=>rw [hb] at hc;cases hc
    | cons _ _=>rfl
   have hl:=congrArg List.length (cN _ _ _ hc)
   simp only [List.length_append,List.length_cons,Fa] at hl
   have e2:=congrArg List.length h2
   have e3:=congrArg List.length h3
   rw [Fa] at e2 e3
   rw [DS hc,h1,hne,if_pos (by rfl),Option.bind_some,if_pos (by rfl),jT n a (by omega),h2,Option.bind_some]
   have ih:=lR n d m b (by omega) (by omega) (by omega)
   rw [h3] at ih
   cases CL p.1 with
   | true=>rw [if_neg (by simp),ih,Bool.true_and]
   | false=>rfl
theorem rW (n:Nat) (s:BA) (hs:s.size≤1000000) (hn:10000000≤n):Qr n s=some (rM (bs s)):=by
 unfold Qr Tv rM
 rw [Fa]
 by_cases h:s.size≤8192
 · rw [if_neg (by simp;omega),decide_eq_true h,lR n (s.size+1) n s (by omega) (by omega) hs]
   cases sK (s.size+1) (bs s)<;>rfl
 · rw [if_pos (by simp;omega),decide_eq_false h];rfl
open Go Go.RowKit
abbrev A6:Type:=((BA×(BA×Unit))×(Int×(Int×(Int×(Int×Unit)))))
abbrev ic:Type:=(Int×(Int×(Bool×((BA×(BA×Unit))×((Sq A6)×(BA×(Int×(Bool×(Bool×Unit)))))))))
abbrev C6:Type:=(Int×((Sq ic)×Unit))
abbrev L6:CTy:=.pair .str (.pair .str .unit)
def P7 (p:Nat→Bool):Nat→Nat→Bool
 | 0,_=>true
 | d+1,i=>p i&&P7 p d (i+1)
theorem Oe (p:Nat→Bool) (d i:Nat):P7 p (d+1) i=(p i&&P7 p d (i+1)):=rfl
theorem fC (p:Nat→Bool):∀ (d i:Nat),P7 p d i=true↔∀ k,i≤k→k<i+d→p k=true
 | 0,i=>by simp [P7];intro k h1 h2;omega
 | d+1,i=>by
  simp only [P7,Bool.and_eq_true,fC p d (i+1)]
  constructor
  · rintro ⟨h1,h2⟩ k hk hk2
    by_cases e:k=i
    · rw [e];exact h1
    · exact h2 k (by omega) (by omega)
  · intro h
    exact ⟨h i (Nat.le_refl _) (by omega),fun k h1 h2=>h k (by omega) (by omega)⟩
theorem eS {p q:Nat→Bool} {d i:Nat} (h:∀ k,i≤k→k<i+d→p k=q k):P7 p d i=P7 q d i:=by
 rw [Bool.eq_iff_iff,fC,fC]
 exact ⟨fun g k h1 h2=>by rw [←h k h1 h2];exact g k h1 h2,fun g k h1 h2=>by rw [h k h1 h2];exact g k h1 h2⟩
theorem LG (n:Nat) (a l m:Int):Nc n a l m=some (decide (l≤a)&&decide (a≤m)):=by
 unfold Nc im
 by_cases h:l≤a
 · rw [if_pos (decide_eq_true h),decide_eq_true h,Bool.true_and]
 · rw [if_neg (by simpa using h),decide_eq_false h,Bool.false_and]
theorem CY (n:Nat) (a m:Int):np n a m=some (decide (0≤a)&&decide (a≤m)):=by
 unfold np yE
 by_cases h:0≤a
 · rw [if_pos (decide_eq_true h),decide_eq_true h,Bool.true_and]
 · rw [if_neg (by simpa using h),decide_eq_false h,Bool.false_and]
def qY (b:BA×(BA×Unit)):Bool:=wI (bs b.1)&&XC (bs b.2.1)
def J6 (l m a:Int):Bool:=decide (l≤a)&&decide (a≤m)
def j8 (r:A6):Bool:=qY r.1&&(J6 0 4 r.2.1&&(J6 0 1048576 r.2.2.1&&(J6 0 2199023255552 r.2.2.2.1&&J6 0 599 r.2.2.2.2.1)))
def XM (a b:A6):Bool:=decide (bs a.1.1=bs b.1.1)&&decide (bs a.1.2.1=bs b.1.2.1)
def TV (q:Sq A6) (i:Nat):Bool:=j8 (q.at' i)&&P7 (fun k=>!XM (q.at' k) (q.at' i)) i 0
def z6 (B:Nat) (r:A6):Prop:=r.1.1.size≤B∧r.1.2.1.size≤B
structure MailS (B:Nat) (m:ic):Prop where
 body:m.2.2.2.2.2.1.size≤B
 fl:m.2.2.2.1.1.size≤B
 fd:m.2.2.2.1.2.1.size≤B
 rn:m.2.2.2.2.1.n≤B
 rc:∀ i,i<m.2.2.2.2.1.n→z6 B (m.2.2.2.2.1.at' i)
theorem WW (n:Nat) (r:A6) (hs:z6 100000 r) (hn:10000000≤n):ar n r=some (j8 r):=by
 obtain ⟨⟨a,b,u⟩,s,t,x,c,u2⟩:=r
 unfold ar Tr j8 qY J6
 simp only [TQ n a b hs.1 hs.2 hn,LG,Option.bind_some]
 cases wI (bs a)&&XC (bs b) with
 | false=>rfl
 | true=>
  rw [if_pos (by rfl),Bool.true_and]
  cases decide (0≤s)&&decide (s≤4) with
  | false=>rfl
  | true=>
   rw [if_pos (by rfl),Bool.true_and]
   cases decide (0≤t)&&decide (t≤1048576) with
   | false=>rfl
   | true=>
    rw [if_pos (by rfl),Bool.true_and]
    cases decide (0≤x)&&decide (x≤2199023255552) with
    | false=>rfl
    | true=>rw [if_pos (by rfl),Bool.true_and]
def cT (r:A6):El L6:=(r.1.1,(r.1.2.1,()))
theorem XP (r:A6) (hs:z6 100000 r):Xe L6 (cT r)=true:=by
 have h1:=hs.1
 have h2:=hs.2
 simp only [L6,cT,Xe,Bool.and_eq_true,Nat.ble_eq,and_true]
 constructor<;>omega
theorem rR (a b:A6):CV L6 (cT a) (cT b)=XM b a:=by
 simp only [L6,cT,CV,Hv,Bool.and_true,XM]
 rw [Bool.eq_iff_iff]
 simp only [Bool.and_eq_true,decide_eq_true_eq]
 exact ⟨fun h=>⟨h.1.symm,h.2.symm⟩,fun h=>⟨h.1.symm,h.2.symm⟩⟩
theorem gP (n:Nat) (q:Sq A6) (hs:∀ i,i<q.n→z6 100000 (q.at' i)) (hq:q.n≤1000000) (hn:10000000≤n):∀ (d m i:Nat) (seen:Sq (BA×(BA×Unit))),i+d=q.n→d<m→seen.n=i→(∀ k,k<i→seen.at' k=cT (q.at' k))→
  nc n m q q (q.n:Int) (i:Int) seen=some (if P7 (TV q) d i=true then .out q else .ret false)
 | 0,m,i,seen,hi,hm,h1,h2=>by
  obtain ⟨m,rfl⟩:∃ p,m=p+1:=⟨m - 1,by omega⟩
  rw [nc,th,if_neg (by simp;omega)];rfl
 | d+1,m,i,seen,hi,hm,h1,h2=>by
  obtain ⟨m,rfl⟩:∃ p,m=p+1:=⟨m - 1,by omega⟩
  have e1:=L8 (k:=i) (by omega)
  have hr:=hs i (by omega)
  have hrc:=WW n (q.at' i) hr hn
  have hk:=XP (q.at' i) hr
  have hhas:sI L6 seen (cT (q.at' i))=!P7 (fun k=>!XM (q.at' k) (q.at' i)) i 0:=by
   rw [Bool.eq_iff_iff,Bool.not_eq_true',←Bool.not_eq_true,fC]
   unfold sI
   rw [h1]
   simp only [List.any_map,List.any_eq_true,List.mem_range,Function.comp]
   constructor
   · rintro ⟨k,hk,he⟩ hall
     rw [h2 k hk,rR] at he
     have:=hall k (Nat.zero_le _) (by omega)
     simp [he] at this
   · intro hne
     apply Classical.byContradiction
     intro hno
     apply hne
     intro k _ hk
     simp only [Bool.not_eq_true']
     cases hb:XM (q.at' k) (q.at' i) with
     | false=>rfl
     | true=>exact absurd ⟨k,by omega,by rw [h2 k (by omega),rR];exact hb⟩ hno
  rw [nc,th,if_pos (decide_eq_true (by omega)),if_pos ⟨by omega,by omega⟩]
  rw [Oe]
  simp only [Int.toNat_natCast]
  have eta:(((q.at' i).1.1,((q.at' i).1.2.1,())),((q.at' i).2.1,((q.at' i).2.2.1,((q.at' i).2.2.2.1,((q.at' i).2.2.2.2.1,())))))=q.at' i:=rfl
  have etb:(((q.at' i).1.1,((q.at' i).1.2.1,())):El L6)=cT (q.at' i):=rfl
  rw [eta,etb,hrc,Option.bind_some]
  rw [show TV q i=(j8 (q.at' i)&&P7 (fun k=>!XM (q.at' k) (q.at' i)) i 0) from rfl]
  cases hb:j8 (q.at' i) with
  | false=>rfl
  | true=>
   rw [if_pos (by rfl),if_pos hk,hhas,Bool.true_and]
   cases ho:P7 (fun k=>!XM (q.at' k) (q.at' i)) i 0 with
   | false=>rfl
   | true=>
    rw [if_neg (by simp),if_pos hk,e1,Bool.true_and]
    have hp:(AI L6 seen (cT (q.at' i))).n=i+1:=by
     simp only [AI,hhas,ho,Bool.not_true,cond_false,h1]
    refine gP n q hs hq hn d m (i+1) _ (by omega) (by omega) hp fun k hk=>?_
    simp only [AI,h1]
    by_cases e:k<i
    · rw [if_pos e];exact h2 k e
    · rw [if_neg e,show k=i by omega]
theorem ST (n:Nat) (q:Sq A6) (hs:∀ i,i<q.n→z6 100000 (q.at' i)) (hq:q.n≤1000000) (hn:10000000≤n):Fm n q=some (P7 (TV q) q.n 0&&J6 1 8 (q.n:Int)):=by
 unfold Fm gp
 have:=gP n q hs hq hn q.n n 0 (⟨0,fun _=>Ea (.pair .str (.pair .str .unit))⟩:Sq (BA×(BA×Unit))) (by omega) (by omega) rfl (fun k h=>by omega)
 rw [show ((0:Nat):Int)=0 from rfl] at this
 rw [this]
 cases P7 (TV q) q.n 0 with
 | false=>rfl
 | true=>simp [W7,LG,J6]
def SY (m:ic):Bool:=cond m.2.2.1 (decide (bs m.2.2.2.1.1=[])&&decide (bs m.2.2.2.1.2.1=[])) (qY m.2.2.2.1)
def wJ (m:ic):Bool:=J6 1 1099511627776 m.1&&(J6 0 3 m.2.1&&(J6 0 1099511627776 m.2.2.2.2.2.2.1&&((P7 (TV m.2.2.2.2.1) m.2.2.2.2.1.n 0&&J6 1 8 (m.2.2.2.2.1.n:Int))&&(SY m&&rM (bs m.2.2.2.2.2.1)))))
theorem SR (n:Nat) (m:ic) (hs:MailS 100000 m) (hn:10000000≤n):fm n m=some (wJ m):=by
 unfold fm Yv wJ SY
 have hd:=rW n m.2.2.2.2.2.1 (by have:=hs.body;omega) hn
 have hr:=ST n m.2.2.2.2.1 hs.rc (by have:=hs.rn;omega) hn
 simp only [LG,Option.bind_some,hr,hd,Hv,Bool.and_true]
 have hb:bs (⟨#[]⟩:BA)=[]:=rfl
 rw [hb]
 have hbx:=TQ n m.2.2.2.1.1 m.2.2.2.1.2.1 hs.fl hs.fd hn
 rw [hbx]
 unfold J6 qY
 cases decide (1≤m.1)&&decide (m.1≤1099511627776) with
 | false=>rfl
 | true=>
  cases decide (0≤m.2.1)&&decide (m.2.1≤3) with
  | false=>rfl
  | true=>
   cases decide (0≤m.2.2.2.2.2.2.1)&&decide (m.2.2.2.2.2.2.1≤1099511627776) with
   | false=>rfl
   | true=>
    cases (P7 (TV m.2.2.2.2.1) m.2.2.2.2.1.n 0&&(decide (1≤(m.2.2.2.2.1.n:Int))&&decide ((m.2.2.2.2.1.n:Int)≤8))) with
    | false=>rfl
    | true=>
     cases m.2.2.1 with
     | true=>
      cases (decide (bs m.2.2.2.1.1=[])&&decide (bs m.2.2.2.1.2.1=[])) with
      | false=>rfl
      | true=>rfl
     | false=>
      cases (wI (bs m.2.2.2.1.1)&&XC (bs m.2.2.2.1.2.1)) with
      | false=>rfl
      | true=>rfl
open Go Go.RowKit
set_option maxRecDepth 100000
theorem zT (m:ic):(m.1,(m.2.1,(m.2.2.1,((m.2.2.2.1.1,(m.2.2.2.1.2.1,())),(m.2.2.2.2.1,(m.2.2.2.2.2.1,(m.2.2.2.2.2.2.1,(m.2.2.2.2.2.2.2.1,(m.2.2.2.2.2.2.2.2.1,())))))))))=m:=rfl
theorem aX (s:C6):(s.1,(s.2.1,()))=s:=rfl
structure SpS (B:Nat) (s:C6):Prop where
 n:s.2.1.n≤B
 m:∀ i,i<s.2.1.n→MailS B (s.2.1.at' i)
def CQ (p:Nat→Bool):Nat→Nat→Nat
 | 0,_=>0
 | d+1,i=>cond (p i) 1 0+CQ p d (i+1)
theorem bL (p:Nat→Bool) (d i:Nat):CQ p (d+1) i=cond (p i) 1 0+CQ p d (i+1):=rfl
def ZP (q:Sq ic) (i:Nat):Bool:=!(q.at' i).2.2.1
def Q7 (s1:Int) (q:Sq ic) (i:Nat):Bool:=wJ (q.at' i)&&(decide ((q.at' i).1<s1)&&(decide (i=0) || decide ((q.at' (i - 1)).1<(q.at' i).1)))
def q8 (s:C6):Bool:=J6 1 1099511627776 s.1&&(decide (s.2.1.n≤128)&&(P7 (Q7 s.1 s.2.1) s.2.1.n 0&&decide (CQ (ZP s.2.1) s.2.1.n 0≤64)))
theorem aC (n:Nat) (q:Sq ic) (hq:q.n≤1000000):∀ (d m i c:Nat),i+d=q.n→d<m→c≤i→zb n m (c:Int) q (q.n:Int) (i:Int)=some (.out (((c+CQ (ZP q) d i:Nat):Int)))
 | 0,m,i,c,hi,hm,hc=>by
  obtain ⟨m,rfl⟩:∃ p,m=p+1:=⟨m - 1,by omega⟩
  rw [zb,re,if_neg (by simp;omega)];rfl
 | d+1,m,i,c,hi,hm,hc=>by
  obtain ⟨m,rfl⟩:∃ p,m=p+1:=⟨m - 1,by omega⟩
  have e1:=L8 (k:=i) (by omega)
  have e2:=L8 (k:=c) (by omega)
  rw [zb,re,if_pos (decide_eq_true (by omega)),if_pos ⟨by omega,by omega⟩,e1,e2]
  rw [Int.toNat_natCast,bL]
  cases hb:(q.at' i).2.2.1 with
  | true=>
   have:ZP q i=false:=by unfold ZP;rw [hb];rfl
   rw [if_neg (by simp),aC n q hq d m (i+1) c (by omega) (by omega) (by omega),this]
   simp only [cond_false,Nat.zero_add]
  | false=>
   have:ZP q i=true:=by unfold ZP;rw [hb];rfl
   rw [if_pos (by rfl),aC n q hq d m (i+1) (c+1) (by omega) (by omega) (by omega),this]
   simp only [cond_true]
   congr 3;omega
theorem vI (n:Nat) (s:C6) (hq:s.2.1.n≤1000000) (hn:10000000≤n):Wf n s=some ((CQ (ZP s.2.1) s.2.1.n 0:Nat):Int):=by
 unfold Wf fj
 have:=aC n s.2.1 hq s.2.1.n n 0 0 (by omega) (by omega) (Nat.le_refl _)
 rw [show ((0:Nat):Int)=0 from rfl] at this
 rw [this,Nat.zero_add];rfl
theorem nP (n:Nat) (s1:Int) (q:Sq ic) (hs:∀ i,i<q.n→MailS 100000 (q.at' i)) (hq:q.n≤1000000) (hn:10000000≤n):∀ (d m i:Nat) (last:Int),i+d=q.n→d<m→last=(if i=0 then 0 else (q.at' (i - 1)).1)→
  cd n m last q (q.n:Int) (i:Int) s1 q=some (if P7 (Q7 s1 q) d i=true then .out (s1,q) else .ret false)
 | 0,m,i,last,hi,hm,hl=>by
  obtain ⟨m,rfl⟩:∃ p,m=p+1:=⟨m - 1,by omega⟩
  rw [cd,ri,if_neg (by simp;omega)];rfl
 | d+1,m,i,last,hi,hm,hl=>by
  obtain ⟨m,rfl⟩:∃ p,m=p+1:=⟨m - 1,by omega⟩
  have e1:=L8 (k:=i) (by omega)
  have hM:=SR n (q.at' i) (hs i (by omega)) hn
  rw [cd,ri,if_pos (decide_eq_true (by omega)),if_pos ⟨by omega,by omega⟩,e1,Oe]
  simp only [Int.toNat_natCast]
  rw [zT,hM,Option.bind_some,show Q7 s1 q i=(wJ (q.at' i)&&(decide ((q.at' i).1<s1)&&(decide (i=0) || decide ((q.at' (i - 1)).1<(q.at' i).1)))) from rfl]
  cases hb:wJ (q.at' i) with
  | false=>rfl
  | true=>
   have hid:1≤(q.at' i).1:=by
    unfold wJ J6 at hb
    simp only [Bool.and_eq_true,decide_eq_true_eq] at hb
    exact hb.1.1
   have hlast:(decide (i=0) || decide ((q.at' (i - 1)).1<(q.at' i).1))=decide (last<(q.at' i).1):=by
    rw [hl]
    by_cases h0:i=0
    · subst h0
      simp only [decide_true,Bool.true_or,if_true]
      exact (decide_eq_true (by omega)).symm
    · rw [if_neg h0,decide_eq_false h0,Bool.false_or]
   rw [if_pos (by rfl),hlast,Bool.true_and]
   by_cases g1:(q.at' i).1≤last
   · rw [if_neg (by simpa using g1),decide_eq_false (show ¬(last<(q.at' i).1) by omega),Bool.and_false];rfl
   rw [if_pos (by simpa using g1),decide_eq_true (show last<(q.at' i).1 by omega),Bool.and_true]
   by_cases g2:(q.at' i).1≥s1
   · rw [if_pos (by simpa using g2),decide_eq_false (show ¬((q.at' i).1<s1) by omega)];rfl
   rw [if_neg (by simpa using g2),decide_eq_true (show (q.at' i).1<s1 by omega),Bool.true_and]
   exact nP n s1 q hs hq hn d m (i+1) _ (by omega) (by omega) (by rw [if_neg (by omega)];rfl)
theorem ZJ (n:Nat) (s:C6) (hs:SpS 100000 s) (hn:10000000≤n):aj n s=some (q8 s):=by
 have hL:=nP n s.1 s.2.1 hs.m (by have:=hs.n;omega) hn s.2.1.n n 0 0 (by omega) (by have:=hs.n;omega) rfl
 rw [show ((0:Nat):Int)=0 from rfl] at hL
 have hl:=vI n s (by have:=hs.n;omega) hn
 unfold aj Ks q8 J6
 rw [hL]
 cases P7 (Q7 s.1 s.2.1) s.2.1.n 0 with
 | false=>simp [W7]
 | true=>
  rw [if_pos rfl,Option.bind_some]
  simp only [W7]
  rw [aX,hl]
  by_cases g1:s.1≥1
  · rw [if_pos (by simpa using g1),decide_eq_true (show 1≤s.1 from g1),Bool.true_and]
    by_cases g2:s.1≤1099511627776
    · rw [if_pos (by simpa using g2),decide_eq_true g2,Bool.true_and]
      by_cases g3:s.2.1.n≤128
      · rw [if_pos (by simp;omega),decide_eq_true g3,Bool.true_and,Bool.true_and,Option.bind_some]
        congr 1
        exact decide_eq_decide.2 (by omega)
      · rw [if_neg (by simp;omega),decide_eq_false g3];rfl
    · rw [if_neg (by simpa using g2),decide_eq_false g2];rfl
  · rw [if_neg (by simpa using g1),decide_eq_false (show ¬(1≤s.1) from g1)];rfl
def R1 (m:ic) (k:Nat):Int:=(m.2.2.2.2.1.at' k).2.1
def IT (m:ic):Bool:=P7 (fun k=>!(R1 m k==0 || R1 m k==1)) m.2.2.2.2.1.n 0
def LV (st:Sq Int) (v:Int):Bool:=!P7 (fun j=>!(v==st.at' j)) st.n 0
theorem fO (n:Nat) (st:Sq Int) (v:Int) (hq:st.n≤1000000):∀ (d m i:Nat),i+d=st.n→d<m→
  (P7 (fun j=>!(v==st.at' j)) d i=true→ya n m st v (st.n:Int) (i:Int)=some (.out ()))∧(P7 (fun j=>!(v==st.at' j)) d i=false→∃ k:Nat,ya n m st v (st.n:Int) (i:Int)=some (.ret (k:Int)))
 | 0,m,i,hi,hm=>by
  obtain ⟨m,rfl⟩:∃ p,m=p+1:=⟨m - 1,by omega⟩
  rw [ya,Pb,if_neg (by simp;omega)]
  exact ⟨fun _=>rfl,fun h=>(by cases h)⟩
 | d+1,m,i,hi,hm=>by
  obtain ⟨m,rfl⟩:∃ p,m=p+1:=⟨m - 1,by omega⟩
  have e1:=L8 (k:=i) (by omega)
  rw [ya,Pb,if_pos (decide_eq_true (by omega)),if_pos ⟨by omega,by omega⟩,e1,Oe,Int.toNat_natCast]
  cases h0:(v==st.at' i) with
  | true=>rw [if_pos rfl];exact ⟨fun h=>(by cases h),fun _=>⟨i,rfl⟩⟩
  | false=>
   rw [if_neg (by simp),Bool.not_false,Bool.true_and]
   exact fO n st v hq d m (i+1) (by omega) (by omega)
theorem DM (n:Nat) (st:Sq Int) (v:Int) (hq:st.n≤1000000) (hn:10000000≤n):Ob n st v=some (LV st v):=by
 have hL:=fO n st v hq st.n n 0 (by omega) (by omega)
 rw [show ((0:Nat):Int)=0 from rfl] at hL
 unfold Ob Uc wd ce LV
 cases h:P7 (fun j=>!(v==st.at' j)) st.n 0 with
 | true=>rw [hL.1 h];rfl
 | false=>
  obtain ⟨k,hk⟩:=hL.2 h
  rw [hk]
  simp only [Option.bind_some,W7]
  rw [decide_eq_true (by omega)];rfl
def S2 (m:ic) (st:Sq Int):Bool:=!P7 (fun k=>!LV st (R1 m k)) m.2.2.2.2.1.n 0
theorem NC (n:Nat) (q:Sq A6) (st:Sq Int) (hq:q.n≤1000000) (hst:st.n≤1000000) (hn:10000000≤n):∀ (d m i:Nat),i+d=q.n→d<m→
  (P7 (fun k=>!LV st (q.at' k).2.1) d i=true→oa n m q (q.n:Int) (i:Int) st=some (.out ()))∧(P7 (fun k=>!LV st (q.at' k).2.1) d i=false→∃ k:Nat,oa n m q (q.n:Int) (i:Int) st=some (.ret (k:Int)))
 | 0,m,i,hi,hm=>by
  obtain ⟨m,rfl⟩:∃ p,m=p+1:=⟨m - 1,by omega⟩
  rw [oa,Aa,if_neg (by simp;omega)]
  exact ⟨fun _=>rfl,fun h=>(by cases h)⟩
 | d+1,m,i,hi,hm=>by
  obtain ⟨m,rfl⟩:∃ p,m=p+1:=⟨m - 1,by omega⟩
  have e1:=L8 (k:=i) (by omega)
  rw [oa,Aa,if_pos (decide_eq_true (by omega)),if_pos ⟨by omega,by omega⟩,e1,Oe]
  simp only [Int.toNat_natCast,rh,Hi,DM n st _ hst hn,Option.bind_some]
  cases h0:LV st (q.at' i).2.1 with
  | true=>rw [if_pos rfl];exact ⟨fun h=>(by cases h),fun _=>⟨i,rfl⟩⟩
  | false=>
   rw [if_neg (by simp),Bool.not_false,Bool.true_and]
   exact NC n q st hq hst hn d m (i+1) (by omega) (by omega)
theorem zY (n:Nat) (m:ic) (st:Sq Int) (hq:m.2.2.2.2.1.n≤1000000) (hst:st.n≤1000000) (hn:10000000≤n):Wv n m st=some (S2 m st):=by
 have hL:=NC n m.2.2.2.2.1 st hq hst hn m.2.2.2.2.1.n n 0 (by omega) (by omega)
 rw [show ((0:Nat):Int)=0 from rfl] at hL
 unfold Wv Xv za Na Da Za S2 R1
 cases h:P7 (fun k=>!LV st (m.2.2.2.2.1.at' k).2.1) m.2.2.2.2.1.n 0 with
 | true=>rw [hL.1 h];rfl
 | false=>
  obtain ⟨k,hk⟩:=hL.2 h
  rw [hk]
  simp only [Option.bind_some,W7]
  rw [decide_eq_true (by omega)];rfl
theorem LQ (n:Nat) (m:ic) (hq:m.2.2.2.2.1.n≤1000000) (hn:10000000≤n):Lj n m=some (IT m):=by
 unfold Lj em
 rw [zT,zY n m _ hq (by decide) hn,Option.bind_some]
 unfold S2 IT
 rw [Bool.not_not]
 congr 1
 refine eS fun k _ _=>?_
 unfold LV
 simp only [P7,List.getD]
 rw [Bool.not_not]
 show _=_
 simp only [Bool.not_or,Bool.and_true]
 rfl
def Z3 (m:ic):Int:=(m.2.2.2.2.2.1.size:Int)
def J8 (t:Int) (q:Sq ic):Nat→Nat→Int→Int→Int×Int
 | 0,_,c,b=>(c,b)
 | d+1,i,c,b=>if ((q.at' i).2.1==t&&!IT (q.at' i))=true then J8 t q d (i+1) (c+1) (b+(Z3 (q.at' i)+1000)) else J8 t q d (i+1) c b
def bd (i:Nat):Int:=(i:Int)*101000
theorem G6:bd 0=0:=rfl
theorem H6 (i:Nat):bd (i+1)=bd i+101000:=by unfold bd;omega
theorem I6 {i:Nat} (h:i≤1000000):bd i≤101000000000:=by unfold bd;omega
theorem IS (t:Int) (q:Sq ic) (hs:∀ i,i<q.n→MailS 100000 (q.at' i)):∀ (d i:Nat) (c b:Int),i+d=q.n→0≤c→c≤i→0≤b→b≤bd i→(0≤(J8 t q d i c b).1∧(J8 t q d i c b).1≤q.n)∧0≤(J8 t q d i c b).2∧(J8 t q d i c b).2≤bd q.n:=by
 intro d
 induction d with
 | zero=>
  intro i c b hi h1 h2 h3 h4
  simp only [J8]
  have:i=q.n:=by omega
  subst this
  exact ⟨⟨h1,h2⟩,h3,h4⟩
 | succ d ih=>
  intro i c b hi h1 h2 h3 h4
  have hb:=(hs i (by omega)).body
  have hz:Z3 (q.at' i)=((q.at' i).2.2.2.2.2.1.size:Int):=rfl
  have hd:=H6 i
  simp only [J8]
  split
  · exact ih (i+1) _ _ (by omega) (by omega) (by omega) (by omega) (by omega)
  · exact ih (i+1) _ _ (by omega) (by omega) (by omega) (by omega) (by omega)
theorem bW (n:Nat) (t:Int) (q:Sq ic) (hs:∀ i,i<q.n→MailS 100000 (q.at' i)) (hq:q.n≤1000000) (hn:10000000≤n):∀ (d m i:Nat) (c b:Int),i+d=q.n→d<m→0≤c→c≤i→0≤b→b≤bd i→
  Dc n m t c b q (q.n:Int) (i:Int)=some (.out (J8 t q d i c b)):=by
 intro d
 induction d with
 | zero=>
  intro m i c b hi hm h1 h2 h3 h4
  obtain ⟨m,rfl⟩:∃ p,m=p+1:=⟨m - 1,by omega⟩
  rw [Dc,Bh,if_neg (by simp;omega)];rfl
 | succ d ih=>
  intro m i c b hi hm h1 h2 h3 h4
  obtain ⟨m,rfl⟩:∃ p,m=p+1:=⟨m - 1,by omega⟩
  have e1:=L8 (k:=i) (by omega)
  have hb:=(hs i (by omega)).body
  have hd:=H6 i
  have hd2:=I6 (i:=i) (by omega)
  have hO:=LQ n (q.at' i) (by have:=(hs i (by omega)).rn;omega) hn
  have w1:IntKind.wrap .i64 (c+1)=c+1:=wr (by omega) (by omega)
  have w2:IntKind.wrap .i64 (((q.at' i).2.2.2.2.2.1.size:Int)+1000)=((q.at' i).2.2.2.2.2.1.size:Int)+1000:=wr (by omega) (by omega)
  have w3:IntKind.wrap .i64 (b+(((q.at' i).2.2.2.2.2.1.size:Int)+1000))=b+(((q.at' i).2.2.2.2.2.1.size:Int)+1000):=wr (by omega) (by omega)
  rw [Dc,Bh,if_pos (decide_eq_true (by omega)),if_pos ⟨by omega,by omega⟩,e1,w1]
  simp only [Int.toNat_natCast,J8]
  rw [zT,hO,Option.bind_some]
  simp only [Mj,Hk,Option.bind_some,w2,w3]
  cases h0:((q.at' i).2.1==t) with
  | false=>
   rw [if_neg (by simp),if_neg (by simp)]
   exact ih m (i+1) c b (by omega) (by omega) (by omega) (by omega) (by omega) (by omega)
  | true=>
   rw [if_pos rfl,Bool.true_and]
   cases h5:IT (q.at' i) with
   | true=>
    rw [if_neg (by simp),if_neg (by simp)]
    exact ih m (i+1) c b (by omega) (by omega) (by omega) (by omega) (by omega) (by omega)
   | false=>
    rw [if_pos (by rfl),if_pos (by rfl)]
    exact ih m (i+1) _ _ (by omega) (by omega) (by omega) (by omega) (by omega) (by omega)
theorem QQ (n:Nat) (s:C6) (t:Int) (hs:SpS 100000 s) (hn:10000000≤n):Yj n s t=some ((J8 t s.2.1 s.2.1.n 0 0 0).1,((J8 t s.2.1 s.2.1.n 0 0 0).2,())):=by
 have hL:=bW n t s.2.1 hs.m (by have:=hs.n;omega) hn s.2.1.n n 0 0 0 (by omega) (by have:=hs.n;omega) (by omega) (by omega) (by omega) (by rw [G6];omega)
 rw [show ((0:Nat):Int)=0 from rfl] at hL
 unfold Yj Ip
 rw [hL];rfl
open Go Go.RowKit
abbrev Z5:Type:=(Int×(Int×(Int×(Int×(Int×Unit)))))
abbrev E6:Type:=(BA×(Int×(Int×(Int×(Z5×(Bool×Unit))))))
abbrev d6:Type:=((Sq E6)×(BA×(Int×(Int×((Sq Int)×(Int×(Int×(Nat×Unit))))))))
abbrev l8:CTy:=(.pair (.pair .str (.pair .str .unit)) (.pair (.int .i64) (.pair (.int .i64) (.pair (.int .i64) (.pair (.int .i64) .unit)))))
abbrev D7:CTy:=(.pair (.int .i64) (.pair (.int .i64) (.pair .bool (.pair (.pair .str (.pair .str .unit)) (.pair (.sl l8) (.pair .str (.pair (.int .i64) (.pair .bool (.pair .bool .unit)))))))))
structure ME (a b:ic):Prop where
 c1:a.1=b.1
 c2:a.2.1=b.2.1
 c3:a.2.2.1=b.2.2.1
 c4:a.2.2.2.1.1=b.2.2.2.1.1
 c5:a.2.2.2.1.2.1=b.2.2.2.1.2.1
 rn:a.2.2.2.2.1.n=b.2.2.2.2.1.n
 rc:∀ k,k<a.2.2.2.2.1.n→a.2.2.2.2.1.at' k=b.2.2.2.2.1.at' k
 c6:a.2.2.2.2.2.1=b.2.2.2.2.2.1
 c7:a.2.2.2.2.2.2.1=b.2.2.2.2.2.2.1
 c8:a.2.2.2.2.2.2.2.1=b.2.2.2.2.2.2.2.1
 c9:a.2.2.2.2.2.2.2.2.1=b.2.2.2.2.2.2.2.2.1
structure SE (a b:C6):Prop where
 c1:a.1=b.1
 n:a.2.1.n=b.2.1.n
 m:∀ k,k<a.2.1.n→ME (a.2.1.at' k) (b.2.1.at' k)
structure CE (a b:d6):Prop where
 tn:a.1.n=b.1.n
 t:∀ k,k<a.1.n→a.1.at' k=b.1.at' k
 c2:a.2.1=b.2.1
 c3:a.2.2.1=b.2.2.1
 c4:a.2.2.2.1=b.2.2.2.1
 bn:a.2.2.2.2.1.n=b.2.2.2.2.1.n
 bk:∀ k,k<a.2.2.2.2.1.n→a.2.2.2.2.1.at' k=b.2.2.2.2.1.at' k
 c6:a.2.2.2.2.2.1=b.2.2.2.2.2.1
 c7:a.2.2.2.2.2.2.1=b.2.2.2.2.2.2.1
 c8:a.2.2.2.2.2.2.2.1=b.2.2.2.2.2.2.2.1
theorem ME.refl (a:ic):ME a a:=⟨rfl,rfl,rfl,rfl,rfl,rfl,fun _ _=>rfl,rfl,rfl,rfl,rfl⟩
theorem ME.symm {a b:ic} (h:ME a b):ME b a:=⟨h.c1.symm,h.c2.symm,h.c3.symm,h.c4.symm,h.c5.symm,h.rn.symm,fun k hk=>(h.rc k (by rw [h.rn];exact hk)).symm,h.c6.symm,h.c7.symm,h.c8.symm,h.c9.symm⟩
theorem ME.trans {a b c:ic} (h:ME a b) (g:ME b c):ME a c:=⟨h.c1.trans g.c1,h.c2.trans g.c2,h.c3.trans g.c3,h.c4.trans g.c4,h.c5.trans g.c5,h.rn.trans g.rn,fun k hk=>(h.rc k hk).trans (g.rc k (by rw [←h.rn];exact hk)),h.c6.trans g.c6,h.c7.trans g.c7,h.c8.trans g.c8,h.c9.trans g.c9⟩
theorem SE.refl (a:C6):SE a a:=⟨rfl,rfl,fun _ _=>.refl _⟩
theorem SE.symm {a b:C6} (h:SE a b):SE b a:=⟨h.c1.symm,h.n.symm,fun k hk=>(h.m k (by rw [h.n];exact hk)).symm⟩
theorem SE.trans {a b c:C6} (h:SE a b) (g:SE b c):SE a c:=⟨h.c1.trans g.c1,h.n.trans g.n,fun k hk=>(h.m k hk).trans (g.m k (by rw [←h.n];exact hk))⟩
theorem CE.refl (a:d6):CE a a:=⟨rfl,fun _ _=>rfl,rfl,rfl,rfl,rfl,fun _ _=>rfl,rfl,rfl,rfl⟩
theorem MailS.of {B:Nat} {a b:ic} (h:MailS B b) (e:ME a b):MailS B a:=⟨by rw [e.c6];exact h.body,by rw [e.c4];exact h.fl,by rw [e.c5];exact h.fd,by rw [e.rn];exact h.rn,fun i hi=>by rw [e.rc i hi];exact h.rc i (by rw [←e.rn];exact hi)⟩
theorem MailS.mono {B C:Nat} {a:ic} (h:MailS B a) (hb:B≤C):MailS C a:=⟨Nat.le_trans h.body hb,Nat.le_trans h.fl hb,Nat.le_trans h.fd hb,Nat.le_trans h.rn hb,fun i hi=>⟨Nat.le_trans (h.rc i hi).1 hb,Nat.le_trans (h.rc i hi).2 hb⟩⟩
theorem SpS.of {B:Nat} {a b:C6} (h:SpS B b) (e:SE a b):SpS B a:=⟨by rw [e.n];exact h.n,fun i hi=>(h.m i (by rw [←e.n];exact hi)).of (e.m i hi)⟩
theorem SpS.mono {B C:Nat} {a:C6} (h:SpS B a) (hb:B≤C):SpS C a:=⟨Nat.le_trans h.n hb,fun i hi=>(h.m i hi).mono hb⟩
def Rises (q:Sq ic):Prop:=∀ i,i+1<q.n→(q.at' i).1<(q.at' (i+1)).1
theorem Rises.lt {q:Sq ic} (h:Rises q):∀ {d i:Nat},i+d+1<q.n→(q.at' i).1<(q.at' (i+d+1)).1
 | 0,i,hi=>h i hi
 | d+1,i,hi=>Int.lt_trans (h.lt (d:=d) (i:=i) (by omega)) (h (i+d+1) (by omega))
theorem Rises.of {q:Sq ic} (h:Rises q) {i j:Nat} (hij:i<j) (hj:j<q.n):(q.at' i).1<(q.at' j).1:=by
 have:=h.lt (d:=j - i - 1) (i:=i) (by omega)
 rwa [show i+(j - i - 1)+1=j by omega] at this
open Go Go.RowKit
abbrev B1:Type:=(Int×(Int×(Int×(ic×(Bool×Unit)))))
abbrev B6:Type:=(C6×(d6×((Sq B1)×Unit)))
structure CfS (B:Nat) (c:d6):Prop where
 tn:c.1.n≤B
 t:∀ i,i<c.1.n→(c.1.at' i).1.size≤B
 host:c.2.1.size≤B
 bn:c.2.2.2.2.1.n≤B
theorem CfS.of {B:Nat} {a b:d6} (h:CfS B b) (e:CE a b):CfS B a:=⟨by rw [e.tn];exact h.tn,fun i hi=>by rw [e.t i hi];exact h.t i (by rw [←e.tn];exact hi),by rw [e.c2];exact h.host,by rw [e.bn];exact h.bn⟩
theorem CfS.mono {B C:Nat} {a:d6} (h:CfS B a) (hb:B≤C):CfS C a:=⟨Nat.le_trans h.tn hb,fun i hi=>Nat.le_trans (h.t i hi) hb,Nat.le_trans h.host hb,Nat.le_trans h.bn hb⟩
theorem Y1 (n:Nat) (m1 m2:Int) (m3:Bool) (m4 m5:BA) (q:Sq A6) (m7:BA) (m8:Int) (m9 m10:Bool) (hs:∀ i,i<q.n→z6 140737488351232 (q.at' i)) (hq:q.n≤140737488351232) (hn:10000000≤n):∀ (d m i:Nat) (z:Int),(1048576≤z∨q.n - i≤d)→(1048576 - z).toNat<m→0≤z→z≤600000000000000→i≤q.n→
  ∃ w,Ab n m z (i:Int) m1 m2 m3 m4 m5 q m7 m8 m9 m10=some (.out w)∧z≤w∧w≤600000000000000∧(w≤30000→z+(q.n - i)≤w∧∀ j,i≤j→j<q.n→z6 30000 (q.at' j)):=by
 intro d
 induction d with
 | zero=>
  intro m i z hd hm hz hz2 hi
  obtain ⟨m,rfl⟩:∃ p,m=p+1:=⟨m - 1,by omega⟩
  rw [Ab,se]
  by_cases h:(i:Int)<(q.n:Int)
  · rw [if_pos (decide_eq_true h),if_neg (by simp;omega)]
    exact ⟨z,rfl,Int.le_refl _,hz2,fun hw=>by omega⟩
  · rw [if_neg (by simpa using h)]
    exact ⟨z,rfl,Int.le_refl _,hz2,fun hw=>⟨by omega,fun j h1 h2=>by omega⟩⟩
 | succ d ih=>
  intro m i z hd hm hz hz2 hi
  obtain ⟨m,rfl⟩:∃ p,m=p+1:=⟨m - 1,by omega⟩
  rw [Ab,se]
  by_cases h:(i:Int)<(q.n:Int)
  · by_cases g:z<1048576
    · obtain ⟨s1,s2⟩:=hs i (by omega)
      have e1:=L8 (k:=i) (by omega)
      have w0:IntKind.wrap .i64 (z+1)=z+1:=wr (by omega) (by omega)
      have w1:IntKind.wrap .i64 (z+1+((q.at' i).1.1.size:Int))=z+1+((q.at' i).1.1.size:Int):=wr (by omega) (by omega)
      have w2:IntKind.wrap .i64 (z+1+((q.at' i).1.1.size:Int)+((q.at' i).1.2.1.size:Int))=z+1+((q.at' i).1.1.size:Int)+((q.at' i).1.2.1.size:Int):=wr (by omega) (by omega)
      rw [if_pos (decide_eq_true h),if_pos (decide_eq_true g),if_pos ⟨by omega,h⟩,if_pos ⟨by omega,h⟩,e1,Int.toNat_natCast,w0,w1,w2]
      obtain ⟨w,k1,k2,k3,k4⟩:=ih m (i+1) (z+1+((q.at' i).1.1.size:Int)+((q.at' i).1.2.1.size:Int)) (by omega) (by omega) (by omega) (by omega) (by omega)
      refine ⟨w,k1,by omega,k3,fun hw=>?_⟩
      obtain ⟨l1,l2⟩:=k4 hw
      refine ⟨by omega,fun j h1 h2=>?_⟩
      by_cases e:j=i
      · rw [e];exact ⟨by omega,by omega⟩
      · exact l2 j (by omega) h2
    · rw [if_pos (decide_eq_true h),if_neg (by simpa using g)]
      exact ⟨z,rfl,Int.le_refl _,hz2,fun hw=>by omega⟩
  · rw [if_neg (by simpa using h)]
    exact ⟨z,rfl,Int.le_refl _,hz2,fun hw=>⟨by omega,fun j h1 h2=>by omega⟩⟩
theorem AY (n:Nat) (m:ic) (h:MailS 140737488351232 m) (hn:10000000≤n):∃ w:Int,Yf n m=some w∧0≤w∧w≤600000000000000∧(w≤30000→MailS 30000 m):=by
 have h1:=h.body
 have h2:=h.fl
 have h3:=h.fd
 have h4:=h.rn
 have w1:IntKind.wrap .i64 ((m.2.2.2.2.2.1.size:Int)+(m.2.2.2.1.1.size:Int))=(m.2.2.2.2.2.1.size:Int)+(m.2.2.2.1.1.size:Int):=wr (by omega) (by omega)
 have w2:IntKind.wrap .i64 ((m.2.2.2.2.2.1.size:Int)+(m.2.2.2.1.1.size:Int)+(m.2.2.2.1.2.1.size:Int))=(m.2.2.2.2.2.1.size:Int)+(m.2.2.2.1.1.size:Int)+(m.2.2.2.1.2.1.size:Int):=wr (by omega) (by omega)
 obtain ⟨w,k1,k2,k3,k4⟩:=Y1 n m.1 m.2.1 m.2.2.1 m.2.2.2.1.1 m.2.2.2.1.2.1 m.2.2.2.2.1 m.2.2.2.2.2.1 m.2.2.2.2.2.2.1 m.2.2.2.2.2.2.2.1 m.2.2.2.2.2.2.2.2.1 h.rc h.rn hn m.2.2.2.2.1.n n 0 ((m.2.2.2.2.2.1.size:Int)+(m.2.2.2.1.1.size:Int)+(m.2.2.2.1.2.1.size:Int)) (.inr (by omega)) (by omega) (by omega) (by omega) (by omega)
 rw [show ((0:Nat):Int)=0 from rfl] at k1
 refine ⟨w,?_,by omega,k3,fun hw=>?_⟩
 · unfold Yf ij
   rw [w1,w2,k1];rfl
 · obtain ⟨l1,l2⟩:=k4 hw
   exact ⟨by omega,by omega,by omega,by omega,fun i hi=>l2 i (by omega) hi⟩
theorem Z1 (n:Nat) (s1:Int) (q:Sq ic) (hs:∀ i,i<q.n→MailS 140737488351232 (q.at' i)) (hq:q.n≤140737488351232) (hn:10000000≤n):∀ (d m i:Nat) (z:Int),(1048576≤z∨q.n - i≤d)→d<m→0≤z→z≤700000000000000→i≤q.n→
  ∃ w,mb n m z (i:Int) s1 q=some (.out w)∧z≤w∧w≤700000000000000∧(w≤30000→∀ j,i≤j→j<q.n→MailS 30000 (q.at' j)):=by
 intro d
 induction d with
 | zero=>
  intro m i z hd hm hz hz2 hi
  obtain ⟨m,rfl⟩:∃ p,m=p+1:=⟨m - 1,by omega⟩
  rw [mb,Md]
  by_cases h:(i:Int)<(q.n:Int)
  · rw [if_pos (decide_eq_true h),if_neg (by simp;omega)]
    exact ⟨z,rfl,Int.le_refl _,hz2,fun hw=>by omega⟩
  · rw [if_neg (by simpa using h)]
    exact ⟨z,rfl,Int.le_refl _,hz2,fun hw j h1 h2=>by omega⟩
 | succ d ih=>
  intro m i z hd hm hz hz2 hi
  obtain ⟨m,rfl⟩:∃ p,m=p+1:=⟨m - 1,by omega⟩
  rw [mb,Md]
  by_cases h:(i:Int)<(q.n:Int)
  · by_cases g:z<1048576
    · obtain ⟨x,x1,x2,x3,x4⟩:=AY n (q.at' i) (hs i (by omega)) hn
      have e1:=L8 (k:=i) (by omega)
      have w0:IntKind.wrap .i64 (z+x)=z+x:=wr (by omega) (by omega)
      rw [if_pos (decide_eq_true h),if_pos (decide_eq_true g),if_pos ⟨by omega,h⟩,Int.toNat_natCast,zT,x1,Option.bind_some,e1,w0]
      obtain ⟨w,k1,k2,k3,k4⟩:=ih m (i+1) (z+x) (by omega) (by omega) (by omega) (by omega) (by omega)
      refine ⟨w,k1,by omega,k3,fun hw j h1 h2=>?_⟩
      by_cases e:j=i
      · rw [e];exact x4 (by omega)
      · exact k4 hw j (by omega) h2
    · rw [if_pos (decide_eq_true h),if_neg (by simpa using g)]
      exact ⟨z,rfl,Int.le_refl _,hz2,fun hw=>by omega⟩
  · rw [if_neg (by simpa using h)]
    exact ⟨z,rfl,Int.le_refl _,hz2,fun hw j h1 h2=>by omega⟩
theorem A2 (n:Nat) (s:C6) (h:SpS 140737488351232 s) (hn:10000000≤n):∃ w:Int,ug n s=some w∧0≤w∧w≤700000000000000∧(w≤30000→SpS 30000 s):=by
 have h1:=h.n
 obtain ⟨w,k1,k2,k3,k4⟩:=Z1 n s.1 s.2.1 h.m h.n hn (min s.2.1.n 1048576) n 0 (s.2.1.n:Int) (by omega) (by omega) (by omega) (by omega) (by omega)
 rw [show ((0:Nat):Int)=0 from rfl] at k1
 refine ⟨w,?_,by omega,k3,fun hw=>⟨by omega,fun i hi=>k4 hw i (by omega) hi⟩⟩
 unfold ug Xh
 rw [k1];rfl
theorem S1 (n:Nat) (q:Sq E6) (c2:BA) (c3 c4:Int) (c5:Sq Int) (c6 c7:Int) (c8:Nat) (hs:∀ i,i<q.n→(q.at' i).1.size≤140737488351232) (hq:q.n≤140737488351232) (hn:10000000≤n):∀ (d m i:Nat) (z:Int),(1048576≤z∨q.n - i≤d)→d<m→0≤z→z≤700000000000000→i≤q.n→
  ∃ w,db n m z (i:Int) q c2 c3 c4 c5 c6 c7 c8=some (.out w)∧z≤w∧w≤700000000000000∧(w≤30000→∀ j,i≤j→j<q.n→(q.at' j).1.size≤30000):=by
 intro d
 induction d with
 | zero=>
  intro m i z hd hm hz hz2 hi
  obtain ⟨m,rfl⟩:∃ p,m=p+1:=⟨m - 1,by omega⟩
  rw [db,pd]
  by_cases h:(i:Int)<(q.n:Int)
  · rw [if_pos (decide_eq_true h),if_neg (by simp;omega)]
    exact ⟨z,rfl,Int.le_refl _,hz2,fun hw=>by omega⟩
  · rw [if_neg (by simpa using h)]
    exact ⟨z,rfl,Int.le_refl _,hz2,fun hw j h1 h2=>by omega⟩
 | succ d ih=>
  intro m i z hd hm hz hz2 hi
  obtain ⟨m,rfl⟩:∃ p,m=p+1:=⟨m - 1,by omega⟩
  rw [db,pd]
  by_cases h:(i:Int)<(q.n:Int)
  · by_cases g:z<1048576
    · have x3:=hs i (by omega)
      have e1:=L8 (k:=i) (by omega)
      have w0:IntKind.wrap .i64 (z+((q.at' i).1.size:Int))=z+((q.at' i).1.size:Int):=wr (by omega) (by omega)
      rw [if_pos (decide_eq_true h),if_pos (decide_eq_true g),if_pos ⟨by omega,h⟩,Int.toNat_natCast,e1,w0]
      obtain ⟨w,k1,k2,k3,k4⟩:=ih m (i+1) (z+((q.at' i).1.size:Int)) (by omega) (by omega) (by omega) (by omega) (by omega)
      refine ⟨w,k1,by omega,k3,fun hw j h1 h2=>?_⟩
      by_cases e:j=i
      · rw [e];omega
      · exact k4 hw j (by omega) h2
    · rw [if_pos (decide_eq_true h),if_neg (by simpa using g)]
      exact ⟨z,rfl,Int.le_refl _,hz2,fun hw=>by omega⟩
  · rw [if_neg (by simpa using h)]
    exact ⟨z,rfl,Int.le_refl _,hz2,fun hw j h1 h2=>by omega⟩
theorem X1 (n:Nat) (c:d6) (h:CfS 140737488351232 c) (hn:10000000≤n):∃ w:Int,gf n c=some w∧0≤w∧w≤700000000000000∧(w≤30000→CfS 30000 c):=by
 have h1:=h.tn
 have h2:=h.host
 have h3:=h.bn
 have w1:IntKind.wrap .i64 ((c.2.1.size:Int)+(c.2.2.2.2.1.n:Int))=(c.2.1.size:Int)+(c.2.2.2.2.1.n:Int):=wr (by omega) (by omega)
 have w2:IntKind.wrap .i64 ((c.2.1.size:Int)+(c.2.2.2.2.1.n:Int)+(c.1.n:Int))=(c.2.1.size:Int)+(c.2.2.2.2.1.n:Int)+(c.1.n:Int):=wr (by omega) (by omega)
 obtain ⟨w,k1,k2,k3,k4⟩:=S1 n c.1 c.2.1 c.2.2.1 c.2.2.2.1 c.2.2.2.2.1 c.2.2.2.2.2.1 c.2.2.2.2.2.2.1 c.2.2.2.2.2.2.2.1 h.t h.tn hn (min c.1.n 1048576) n 0 ((c.2.1.size:Int)+(c.2.2.2.2.1.n:Int)+(c.1.n:Int)) (by omega) (by omega) (by omega) (by omega) (by omega)
 rw [show ((0:Nat):Int)=0 from rfl] at k1
 refine ⟨w,?_,by omega,k3,fun hw=>⟨by omega,fun i hi=>k4 hw i (by omega) hi,by omega,by omega⟩⟩
 unfold gf Ch
 rw [w1,w2,k1];rfl
theorem rY (c:d6):(c.1,(c.2.1,(c.2.2.1,(c.2.2.2.1,(c.2.2.2.2.1,(c.2.2.2.2.2.1,(c.2.2.2.2.2.2.1,(c.2.2.2.2.2.2.2.1,()))))))))=c:=rfl
theorem oT (n:Nat) (p1:Int) (p2:Sq ic) (p3:Sq E6) (p4:BA) (p5 p6:Int) (p7:Sq Int) (p8 p9:Int) (p10:Nat) (l:Sq B1) (hs:∀ i,i<l.n→MailS 140737488351232 (l.at' i).2.2.2.1) (hq:l.n≤140737488351232) (hn:10000000≤n):∀ (d m i:Nat) (z:Int),(1048576≤z+d∨l.n - i≤d)→d<m→0≤z→z≤1500000000000000→i≤l.n→
  ∃ w,Sa n m z (i:Int) p1 p2 p3 p4 p5 p6 p7 p8 p9 p10 l=some (.out (w,p1,p2,p3,p4,p5,p6,p7,p8,p9,p10,l))∧z≤w∧(w≤30000→∀ j,i≤j→j<l.n→MailS 30000 (l.at' j).2.2.2.1):=by
 intro d
 induction d with
 | zero=>
  intro m i z hd hm hz hz2 hi
  obtain ⟨m,rfl⟩:∃ p,m=p+1:=⟨m - 1,by omega⟩
  rw [Sa,Oc]
  by_cases h:(i:Int)<(l.n:Int)
  · rw [if_pos (decide_eq_true h),if_neg (by simp;omega)]
    exact ⟨z,rfl,Int.le_refl _,fun hw=>by omega⟩
  · rw [if_neg (by simpa using h)]
    exact ⟨z,rfl,Int.le_refl _,fun hw j h1 h2=>by omega⟩
 | succ d ih=>
  intro m i z hd hm hz hz2 hi
  obtain ⟨m,rfl⟩:∃ p,m=p+1:=⟨m - 1,by omega⟩
  rw [Sa,Oc]
  by_cases h:(i:Int)<(l.n:Int)
  · by_cases g:z<1048576
    · obtain ⟨x,x1,x2,x3,x4⟩:=AY n (l.at' i).2.2.2.1 (hs i (by omega)) hn
      have e1:=L8 (k:=i) (by omega)
      have w0:IntKind.wrap .i64 (z+1)=z+1:=wr (by omega) (by omega)
      have w1:IntKind.wrap .i64 (z+1+x)=z+1+x:=wr (by omega) (by omega)
      rw [if_pos (decide_eq_true h),if_pos (decide_eq_true g),if_pos ⟨by omega,h⟩,Int.toNat_natCast,zT,x1,Option.bind_some,e1,w0,w1]
      obtain ⟨w,k1,k2,k4⟩:=ih m (i+1) (z+1+x) (by omega) (by omega) (by omega) (by omega) (by omega)
      refine ⟨w,k1,by omega,fun hw j h1 h2=>?_⟩
      by_cases e:j=i
      · rw [e];exact x4 (by omega)
      · exact k4 hw j (by omega) h2
    · rw [if_pos (decide_eq_true h),if_neg (by simpa using g)]
      exact ⟨z,rfl,Int.le_refl _,fun hw=>by omega⟩
  · rw [if_neg (by simpa using h)]
    exact ⟨z,rfl,Int.le_refl _,fun hw j h1 h2=>by omega⟩
structure ScS (B:Nat) (p:B6):Prop where
 s:SpS B p.1
 c:CfS B p.2.1
 ln:p.2.2.1.n≤B
 m:∀ i,i<p.2.2.1.n→MailS B (p.2.2.1.at' i).2.2.2.1
theorem pT (n:Nat) (p:B6) (h:ScS 140737488351232 p) (hn:10000000≤n):∃ b,oe n p=some b∧(b=false→ScS 30000 p):=by
 obtain ⟨x,x1,x2,x3,x4⟩:=A2 n p.1 h.s hn
 obtain ⟨y,y1,y2,y3,y4⟩:=X1 n p.2.1 h.c hn
 have hl:=h.ln
 have w0:IntKind.wrap .i64 (x+y)=x+y:=wr (by omega) (by omega)
 obtain ⟨w,k1,k2,k3⟩:=oT n p.1.1 p.1.2.1 p.2.1.1 p.2.1.2.1 p.2.1.2.2.1 p.2.1.2.2.2.1 p.2.1.2.2.2.2.1 p.2.1.2.2.2.2.2.1 p.2.1.2.2.2.2.2.2.1 p.2.1.2.2.2.2.2.2.2.1 p.2.2.1 h.m h.ln hn 1048576 n 0 (x+y) (by omega) (by omega) (by omega) (by omega) (by omega)
 rw [show ((0:Nat):Int)=0 from rfl] at k1
 unfold oe Ag
 rw [aX,x1,Option.bind_some,rY,y1,Option.bind_some,w0,k1,Option.bind_some]
 simp only [W7]
 by_cases g:w>30000
 · rw [if_neg (by simpa using g)]
   exact ⟨true,rfl,fun e=>by cases e⟩
 · rw [if_pos (by simpa using g)]
   refine ⟨_,rfl,fun e=>?_⟩
   have e:=of_decide_eq_false e
   exact ⟨x4 (by omega),y4 (by omega),by omega,fun i hi=>k3 (by omega) i (by omega) hi⟩
open Go Go.RowKit
theorem mY:sd 10000000=some true:=by
 rw [←Iw];kernel_rfl
theorem iQ (n:Nat) (e:Int):Mb n e=some e:=rfl
theorem KI (n:Nat) (i:Int) (m:Nat) (h0:0<m) (hm:m≤1000000):∃ v:Nat,v<m∧Yk n i (m:Int)=some (v:Int):=by
 have h1:IntKind.wrap .u64 (m:Int)=(m:Int):=by
  show (m:Int)%18446744073709551616=_
  omega
 have h2:0≤IntKind.wrap .u64 i:=by
  show 0≤i%18446744073709551616
  omega
 have h3:Int.tmod (IntKind.wrap .u64 i) (m:Int)=(IntKind.wrap .u64 i)%(m:Int):=Int.tmod_eq_emod_of_nonneg h2
 have h4:0≤(IntKind.wrap .u64 i)%(m:Int):=Int.emod_nonneg _ (by omega)
 have h5:(IntKind.wrap .u64 i)%(m:Int)<(m:Int):=Int.emod_lt_of_pos _ (by omega)
 refine ⟨((IntKind.wrap .u64 i)%(m:Int)).toNat,by omega,?_⟩
 unfold Yk Ts
 rw [h1,if_neg (by omega),h3,wr (by omega) (by omega)]
 congr 1;omega
theorem cW (n:Nat) (s:C6) (t:Int) (hs:SpS 100000 s) (hn:10000000≤n):ti n s t=some (cond (q8 s&&J6 0 3 t) ((J8 t s.2.1 s.2.1.n 0 0 0).1,((J8 t s.2.1 s.2.1.n 0 0 0).2,(0,()))) (0,(0,(1,())))):=by
 unfold ti Jp J6
 rw [aX,ZJ n s hs hn,Option.bind_some]
 cases q8 s with
 | false=>rfl
 | true=>
  rw [if_pos (by rfl),Bool.true_and]
  by_cases g1:t<0
  · rw [if_neg (by simpa using g1),decide_eq_false (show ¬(0≤t) by omega)];rfl
  rw [if_pos (by simpa using g1),decide_eq_true (show 0≤t by omega),Bool.true_and]
  by_cases g2:t≥4
  · rw [if_pos (by simpa using g2),decide_eq_false (show ¬(t≤3) by omega)];rfl
  rw [if_neg (by simpa using g2),decide_eq_true (show t≤3 by omega),QQ n s t hs hn];rfl
theorem pW (q:Sq A6) (h:q.n≤100000):Zs 64 q=some (q,()):=by
 unfold Zs
 rw [if_pos (by omega)]
section
variable (n:Nat) (hn:10000000≤n) (id2 s5:Int) (s6:Sq ic) (c17:Sq E6) (c18:BA) (c19 c20:Int) (c21:Sq Int) (c22 c23:Int) (c24:Nat) (a30 a31 a32 a33:Int) (a34:Bool) (a35 a36:BA) (a37:Sq A6) (a38:BA) (a39:Int) (a40 a41 a42:Bool) (t62 m020 m021:Int) (m022:Bool) (m023 m024:BA) (m025:Sq A6) (m026:BA) (m027:Int) (m028 m029:Bool) (in0:Int) (in01:Sq ic) (cc:Sq E6) (cc1:BA) (cc2 cc3:Int) (cc4:Sq Int) (cc5 cc6:Int) (cc7:Nat) (want:Int) (want1:Sq ic) (x:Int)
include hn
end
section
variable (n:Nat) (hn:10000000≤n) (dd:Int) (s:C6) (c:d6) (l:Sq B1)
include hn
end
theorem AO {m:ic} (h:e6 reachBytes D7 m):MailS 140737488351232 m:=
 ⟨h.2.2.2.2.2.1,h.2.2.2.1.1,h.2.2.2.1.2.1,h.2.2.2.2.1.1,fun i hi=>⟨(h.2.2.2.2.1.2 i hi).1.1,(h.2.2.2.2.1.2 i hi).1.2.1⟩⟩
theorem QY {p:B6} (h:e6 reachBytes j6 p):ScS 140737488351232 p:=
 ⟨⟨h.1.2.1.1,fun i hi=>AO (h.1.2.1.2 i hi)⟩,⟨h.2.1.1.1,fun i hi=>(h.2.1.1.2 i hi).1,h.2.1.2.1,h.2.1.2.2.2.2.1.1⟩,h.2.2.1.1,fun i hi=>AO (h.2.2.1.2 i hi).2.2.2.1⟩
open Go Go.RowKit
theorem PB (n:Nat) (a l m:Int):Hb n a l m=some (J6 l m a):=by
 unfold Hb Gi J6
 by_cases h:l≤a
 · rw [if_pos (decide_eq_true h),decide_eq_true h,Bool.true_and]
 · rw [if_neg (by simpa using h),decide_eq_false h,Bool.false_and]
theorem OP (n:Nat) (a l m:Int):Tc n a l m=some (J6 l m a):=by
 unfold Tc yi J6
 by_cases h:l≤a
 · rw [if_pos (decide_eq_true h),decide_eq_true h,Bool.true_and]
 · rw [if_neg (by simpa using h),decide_eq_false h,Bool.false_and]
theorem FM (n:Nat) (a m:Int):np n a m=some (J6 0 m a):=CY n a m
def JW (c:Int):Bool:=J6 97 122 c
def ML (l:List Int):Bool:=l.all JW&&J6 1 32 (l.length:Int)
theorem YR (n:Nat) (s:BA) (hs:s.size≤1000000):∀ (r:List Int) (k m:Nat),(bs s).drop k=r→k≤s.size→r.length<m→Tb n m s (s.size:Int) (k:Int)=some (if r.all JW=true then .out s else .ret false)
 | [],k,m,h,hk,hm=>by
  obtain ⟨m,rfl⟩:∃ q,m=q+1:=⟨m - 1,by omega⟩
  have:=Vs h
  rw [Tb,qg,if_neg (by simpa using this)];rfl
 | c::r,k,m,h,hk,hm=>by
  obtain ⟨m,rfl⟩:∃ q,m=q+1:=⟨m - 1,by omega⟩
  obtain ⟨h1,h2,h3,h4,h5⟩:=dl h
  have ih:=YR n s hs r (k+1) m h3 (by omega) (by simpa using hm)
  rw [Tb,qg,if_pos (decide_eq_true h1),if_pos ⟨by omega,h1⟩,h2,L8 (k:=k) (by omega),List.all_cons,show JW c=(decide (97≤c)&&decide (c≤122)) from rfl]
  by_cases g1:c<97
  · rw [if_neg (by simpa using g1),decide_eq_false (show ¬(97≤c) by omega)];rfl
  rw [if_pos (by simpa using g1),decide_eq_true (show 97≤c by omega),Bool.true_and,if_pos ⟨by omega,h1⟩]
  by_cases g2:c>122
  · rw [if_pos (by simpa using g2),decide_eq_false (show ¬(c≤122) by omega)];rfl
  rw [if_neg (by simpa using g2),decide_eq_true (show c≤122 by omega),Bool.true_and,ih]
theorem LW (n:Nat) (s:BA) (hs:s.size≤1000000) (hn:10000000≤n):Gj n s=some (ML (bs s)):=by
 have h:=YR n s hs (bs s) 0 n (by simp) (by omega) (by rw [Fa];omega)
 rw [show ((0:Nat):Int)=0 from rfl] at h
 unfold Gj am ML
 rw [h,Fa]
 cases (bs s).all JW with
 | false=>rfl
 | true=>simp [W7,PB]
theorem mP (n:Nat) (s:BA) (hs:s.size≤1000000):∀ (r:List Int) (k m:Nat),(bs s).drop k=r→k≤s.size→r.length<m→Xa n m s (k:Int)=some (if r.all JW=true then .out s else .ret false)
 | [],k,m,h,hk,hm=>by
  obtain ⟨m,rfl⟩:∃ q,m=q+1:=⟨m - 1,by omega⟩
  have:=Vs h
  rw [Xa,nd,if_neg (by simpa using this)];rfl
 | c::r,k,m,h,hk,hm=>by
  obtain ⟨m,rfl⟩:∃ q,m=q+1:=⟨m - 1,by omega⟩
  obtain ⟨h1,h2,h3,h4,h5⟩:=dl h
  have ih:=mP n s hs r (k+1) m h3 (by omega) (by simpa using hm)
  rw [Xa,nd,if_pos (decide_eq_true h1),if_pos ⟨by omega,h1⟩,h2,L8 (k:=k) (by omega),List.all_cons,show JW c=(decide (97≤c)&&decide (c≤122)) from rfl]
  by_cases g1:c<97
  · rw [if_neg (by simpa using g1),decide_eq_false (show ¬(97≤c) by omega)];rfl
  rw [if_pos (by simpa using g1),decide_eq_true (show 97≤c by omega),Bool.true_and,if_pos ⟨by omega,h1⟩]
  by_cases g2:c>122
  · rw [if_pos (by simpa using g2),decide_eq_false (show ¬(c≤122) by omega)];rfl
  rw [if_neg (by simpa using g2),decide_eq_true (show c≤122 by omega),Bool.true_and,ih]
theorem WT (n:Nat) (s:BA) (hs:s.size≤1000000) (hn:10000000≤n):Ye n s=some (ML (bs s)):=by
 have h:=mP n s hs (bs s) 0 n (by simp) (by omega) (by rw [Fa];omega)
 rw [show ((0:Nat):Int)=0 from rfl] at h
 unfold Ye uh ML J6
 rw [h,Fa]
 cases (bs s).all JW with
 | false=>rfl
 | true=>
  simp only [if_true,Option.bind_some,W7,Bool.true_and]
  by_cases g:(s.size:Int)≥1
  · rw [if_pos (decide_eq_true g),decide_eq_true (show 1≤(s.size:Int) from g),Bool.true_and]
  · rw [if_neg (by simpa using g),decide_eq_false (show ¬(1≤(s.size:Int)) from g)];rfl
def wV (b:Z5):Bool:=J6 0 1048576 b.2.1&&(J6 0 1048576 b.2.2.1&&(J6 0 b.2.1 b.1&&(J6 1 1048576 b.2.2.2.1&&J6 0 (b.2.2.2.1 - 1) b.2.2.2.2.1)))
theorem Q5 {x:Int} (h:J6 1 1048576 x=true):IntKind.wrap .i64 (x - 1)=x - 1:=by
 unfold J6 at h
 simp only [Bool.and_eq_true,decide_eq_true_eq] at h
 exact wr (by omega) (by omega)
theorem iW (n:Nat) (b:Z5):Em n b=some (wV b):=by
 unfold Em Ro wV
 simp only [OP,Option.bind_some]
 cases J6 0 1048576 b.2.1 with
 | false=>rfl
 | true=>
  cases J6 0 1048576 b.2.2.1 with
  | false=>rfl
  | true=>
   cases J6 0 b.2.1 b.1 with
   | false=>rfl
   | true=>
    cases h:J6 1 1048576 b.2.2.2.1 with
    | false=>rfl
    | true=>rw [Q5 h];rfl
theorem pQ (n:Nat) (b:Z5):qe n b=some (wV b):=by
 unfold qe Bg wV
 simp only [FM,Option.bind_some]
 cases J6 0 1048576 b.2.1 with
 | false=>rfl
 | true=>
  cases J6 0 1048576 b.2.2.1 with
  | false=>rfl
  | true=>
   cases J6 0 b.2.1 b.1 with
   | false=>rfl
   | true=>
    rw [if_pos rfl,if_pos rfl,if_pos rfl,Bool.true_and,Bool.true_and,Bool.true_and]
    cases h:J6 1 1048576 b.2.2.2.1 with
    | true=>
     rw [Q5 h,Bool.true_and]
     unfold J6 at h
     simp only [Bool.and_eq_true,decide_eq_true_eq] at h
     rw [if_pos (decide_eq_true h.1),if_pos (decide_eq_true h.2)]
    | false=>
     rw [Bool.false_and]
     unfold J6 at h
     by_cases g:1≤b.2.2.2.1
     · rw [decide_eq_true g,Bool.true_and] at h
       rw [if_pos (decide_eq_true g),if_neg (by simpa using h)]
     · rw [if_neg (by simpa using g)]
def iZ (t:E6):Bool:=ML (bs t.1)&&(J6 0 1073741824 t.2.1&&(J6 0 64 t.2.2.1&&(J6 1 16384 t.2.2.2.1&&(wV t.2.2.2.2.1&&((t.2.2.2.2.1.1==t.2.2.2.2.1.2.1)&&(t.2.2.2.2.1.2.2.2.2.1==0))))))
theorem FY (b:Z5):(b.1,(b.2.1,(b.2.2.1,(b.2.2.2.1,(b.2.2.2.2.1,())))))=b:=rfl
theorem X5 (t:E6):(t.1,(t.2.1,(t.2.2.1,(t.2.2.2.1,((t.2.2.2.2.1.1,(t.2.2.2.2.1.2.1,(t.2.2.2.2.1.2.2.1,(t.2.2.2.2.1.2.2.2.1,(t.2.2.2.2.1.2.2.2.2.1,()))))),(t.2.2.2.2.2.1,()))))))=t:=rfl
theorem CS (n:Nat) (t:E6) (hs:t.1.size≤1000000) (hn:10000000≤n):qh n t=some (iZ t):=by
 unfold qh Fi iZ Di Ei
 rw [FY]
 simp only [LW n t.1 hs hn,PB,iW,Option.bind_some]
 cases ML (bs t.1) with
 | false=>rfl
 | true=>
  cases J6 0 1073741824 t.2.1 with
  | false=>rfl
  | true=>
   cases J6 0 64 t.2.2.1 with
   | false=>rfl
   | true=>
    cases J6 1 16384 t.2.2.2.1 with
    | false=>rfl
    | true=>
     cases wV t.2.2.2.2.1 with
     | false=>rfl
     | true=>
      cases (t.2.2.2.2.1.1==t.2.2.2.2.1.2.1) with
      | false=>rfl
      | true=>rfl
def T7 (q:Sq E6) (i:Nat):Bool:=iZ (q.at' i)&&P7 (fun k=>!decide (bs (q.at' k).1=bs (q.at' i).1)) i 0
section
variable (n:Nat) (hn:10000000≤n) (c2:BA) (c3 c4:Int) (c5:Sq Int) (c6 c7:Int) (c8:Nat)
include hn
theorem fR (q:Sq E6) (hs:∀ i,i<q.n→(q.at' i).1.size≤1000000) (hq:q.n≤1000000):∀ (d m i:Nat) (seen:Sq BA),i+d=q.n→d<m→seen.n=i→(∀ k,k<i→seen.at' k=(q.at' k).1)→
  mc n m q (q.n:Int) (i:Int) q c2 c3 c4 c5 c6 c7 c8 seen=some (if P7 (T7 q) d i=true then .out (q,c2,c3,c4,c5,c6,c7,c8) else .ret false)
 | 0,m,i,seen,hi,hm,h1,h2=>by
  obtain ⟨m,rfl⟩:∃ p,m=p+1:=⟨m - 1,by omega⟩
  rw [mc,ph,if_neg (by simp;omega)];rfl
 | d+1,m,i,seen,hi,hm,h1,h2=>by
  obtain ⟨m,rfl⟩:∃ p,m=p+1:=⟨m - 1,by omega⟩
  have e1:=L8 (k:=i) (by omega)
  have hr:=hs i (by omega)
  have hrc:=CS n (q.at' i) hr hn
  have hk:Xe .str (q.at' i).1=true:=by
   simp only [Xe,Nat.ble_eq];omega
  have hhas:sI .str seen (q.at' i).1=!P7 (fun k=>!decide (bs (q.at' k).1=bs (q.at' i).1)) i 0:=by
   rw [Bool.eq_iff_iff,Bool.not_eq_true',←Bool.not_eq_true,fC]
   unfold sI
   have h1':seen.n=i:=h1
   rw [h1']
   simp only [List.any_map,List.any_eq_true,List.mem_range,Function.comp]
   have ee:∀ k,k<i→(CV .str (q.at' i).1 (seen.at' k)=true↔bs (q.at' k).1=bs (q.at' i).1):=fun k hk=>by
    rw [h2 k hk]
    show (((q.at' i).1.toList==(q.at' k).1.toList)=true)↔_
    rw [Hv,decide_eq_true_iff]
    exact ⟨fun h=>h.symm,fun h=>h.symm⟩
   constructor
   · rintro ⟨k,hk,he⟩ hall
     have:=hall k (Nat.zero_le _) (by omega)
     rw [(ee k hk).1 he] at this
     simp at this
   · intro hne
     apply Classical.byContradiction
     intro hno
     apply hne
     intro k _ hk
     simp only [Bool.not_eq_true',decide_eq_false_iff_not]
     exact fun hb=>hno ⟨k,by omega,(ee k (by omega)).2 hb⟩
  rw [mc,ph,if_pos (decide_eq_true (by omega)),if_pos ⟨by omega,by omega⟩,Int.toNat_natCast,X5,hrc,Option.bind_some,Oe,show T7 q i=(iZ (q.at' i)&&P7 (fun k=>!decide (bs (q.at' k).1=bs (q.at' i).1)) i 0) from rfl]
  cases hb:iZ (q.at' i) with
  | false=>rfl
  | true=>
   rw [if_pos (by rfl),if_pos hk,hhas,Bool.true_and]
   cases ho:P7 (fun k=>!decide (bs (q.at' k).1=bs (q.at' i).1)) i 0 with
   | false=>rfl
   | true=>
    rw [if_neg (by simp),if_pos hk,e1,Bool.true_and]
    have hp:(AI .str seen (q.at' i).1).n=i+1:=by
     simp only [AI,hhas,ho,Bool.not_true,cond_false]
     show seen.n+1=i+1
     omega
    refine fR q hs hq d m (i+1) _ (by omega) (by omega) hp fun k hk=>?_
    show (if k<seen.n then seen.at' k else (q.at' i).1)=_
    by_cases e:k<i
    · rw [if_pos (by omega)];exact h2 k e
    · rw [if_neg (by omega),show k=i by omega]
theorem qV (q:Sq Int) (hq:q.n≤1000000):∀ (d m i:Nat) (x:Int),i+d=q.n→d<m→∃ M,Ga n m q x (i:Int)=some (.out M)∧∀ b,(M≤b↔x≤b∧P7 (fun k=>decide (q.at' k≤b)) d i=true)
 | 0,m,i,x,hi,hm=>by
  obtain ⟨m,rfl⟩:∃ p,m=p+1:=⟨m - 1,by omega⟩
  rw [Ga,dc,if_neg (by simp;omega)]
  exact ⟨x,rfl,fun b=>by simp [P7]⟩
 | d+1,m,i,x,hi,hm=>by
  obtain ⟨m,rfl⟩:∃ p,m=p+1:=⟨m - 1,by omega⟩
  rw [Ga,dc,if_pos (decide_eq_true (by omega)),if_pos ⟨by omega,by omega⟩,Int.toNat_natCast,L8 (k:=i) (by omega)]
  obtain ⟨M,h1,h2⟩:=qV q hq d m (i+1) (if q.at' i>x then q.at' i else x) (by omega) (by omega)
  refine ⟨M,h1,fun b=>?_⟩
  rw [h2 b,Oe,Bool.and_eq_true,decide_eq_true_iff]
  split
  · exact ⟨fun h=>⟨by omega,h.1,h.2⟩,fun h=>⟨h.2.1,h.2.2⟩⟩
  · exact ⟨fun h=>⟨h.1,by omega,h.2⟩,fun h=>⟨h.1,h.2.2⟩⟩
theorem sV (q:Sq Int) (hq:q.n≤1000000):∀ (d m i:Nat) (x:Int),i+d=q.n→d<m→∃ M,Ha n m q x (i:Int)=some (.out M)∧∀ b,(b≤M↔b≤x∧P7 (fun k=>decide (b≤q.at' k)) d i=true)
 | 0,m,i,x,hi,hm=>by
  obtain ⟨m,rfl⟩:∃ p,m=p+1:=⟨m - 1,by omega⟩
  rw [Ha,ec,if_neg (by simp;omega)]
  exact ⟨x,rfl,fun b=>by simp [P7]⟩
 | d+1,m,i,x,hi,hm=>by
  obtain ⟨m,rfl⟩:∃ p,m=p+1:=⟨m - 1,by omega⟩
  rw [Ha,ec,if_pos (decide_eq_true (by omega)),if_pos ⟨by omega,by omega⟩,Int.toNat_natCast,L8 (k:=i) (by omega)]
  obtain ⟨M,h1,h2⟩:=sV q hq d m (i+1) (if q.at' i<x then q.at' i else x) (by omega) (by omega)
  refine ⟨M,h1,fun b=>?_⟩
  rw [h2 b,Oe,Bool.and_eq_true,decide_eq_true_iff]
  split
  · exact ⟨fun h=>⟨by omega,h.1,h.2⟩,fun h=>⟨h.2.1,h.2.2⟩⟩
  · exact ⟨fun h=>⟨h.1,by omega,h.2⟩,fun h=>⟨h.1,h.2.2⟩⟩
def z7 (q:Sq Int) (b:Int):Bool:=P7 (fun k=>decide (q.at' k≤b)) q.n 0
def n7 (q:Sq Int) (b:Int):Bool:=P7 (fun k=>decide (b≤q.at' k)) q.n 0
theorem rV (q:Sq Int) (hq:q.n≤1000000) (h0:0<q.n):∃ M,Cc n q=some M∧∀ b,decide (M≤b)=z7 q b:=by
 obtain ⟨M,h1,h2⟩:=qV n hn q hq (q.n - 1) n 1 (q.at' 0) (by omega) (by omega)
 rw [show ((1:Nat):Int)=1 from rfl] at h1
 refine ⟨M,?_,fun b=>?_⟩
 · unfold Cc Re
   rw [if_neg (by simp;omega),if_pos ⟨by omega,by omega⟩,show Int.toNat (0:Int)=0 from rfl,h1];rfl
 · rw [Bool.eq_iff_iff,decide_eq_true_iff,h2 b]
   unfold z7
   rw [show q.n=(q.n - 1)+1 by omega,Oe,Bool.and_eq_true,decide_eq_true_iff]
   simp
theorem BY (q:Sq Int) (hq:q.n≤1000000) (h0:0<q.n):∃ M,od n q=some M∧∀ b,decide (b≤M)=n7 q b:=by
 obtain ⟨M,h1,h2⟩:=sV n hn q hq (q.n - 1) n 1 (q.at' 0) (by omega) (by omega)
 rw [show ((1:Nat):Int)=1 from rfl] at h1
 refine ⟨M,?_,fun b=>?_⟩
 · unfold od Se
   rw [if_neg (by simp;omega),if_pos ⟨by omega,by omega⟩,show Int.toNat (0:Int)=0 from rfl,h1];rfl
 · rw [Bool.eq_iff_iff,decide_eq_true_iff,h2 b]
   unfold n7
   rw [show q.n=(q.n - 1)+1 by omega,Oe,Bool.and_eq_true,decide_eq_true_iff]
   simp
def fJ (q:Sq Int):Bool:=J6 1 16 (q.n:Int)&&(n7 q 1&&z7 q 1099511627776)
theorem aT (q:Sq Int) (hq:q.n≤1000000):Fj n q=some (fJ q):=by
 unfold Fj Zl fJ J6
 by_cases g1:(q.n:Int)≥1
 · obtain ⟨M,M1,M2⟩:=rV n hn q hq (by omega)
   obtain ⟨N,N1,N2⟩:=BY n hn q hq (by omega)
   rw [if_pos (decide_eq_true g1),decide_eq_true (show 1≤(q.n:Int) from g1),Bool.true_and]
   by_cases g2:(q.n:Int)≤16
   · rw [if_pos (decide_eq_true g2),decide_eq_true g2,Bool.true_and,M1,N1,Option.bind_some]
     have:=N2 1
     rw [show decide (N≥1)=n7 q 1 from this]
     cases n7 q 1 with
     | false=>rfl
     | true=>
      rw [if_pos rfl,Option.bind_some,M2];rfl
   · rw [if_neg (by simpa using g2),decide_eq_false g2];rfl
 · rw [if_neg (by simpa using g1),decide_eq_false (show ¬(1≤(q.n:Int)) from g1)];rfl
theorem fP (q:Sq Int) (hq:q.n≤1000000):∀ (d m i:Nat),i+d=q.n→d<m→Ma n m q (i:Int)=some (if P7 (fun k=>J6 1 1099511627776 (q.at' k)) d i=true then .out () else .ret false)
 | 0,m,i,hi,hm=>by
  obtain ⟨m,rfl⟩:∃ p,m=p+1:=⟨m - 1,by omega⟩
  rw [Ma,Jc,if_neg (by simp;omega)];rfl
 | d+1,m,i,hi,hm=>by
  obtain ⟨m,rfl⟩:∃ p,m=p+1:=⟨m - 1,by omega⟩
  rw [Ma,Jc,if_pos (decide_eq_true (by omega)),if_pos ⟨by omega,by omega⟩,Int.toNat_natCast,L8 (k:=i) (by omega),Oe,show J6 1 1099511627776 (q.at' i)=(decide (1≤q.at' i)&&decide (q.at' i≤1099511627776)) from rfl]
  by_cases g1:q.at' i<1
  · rw [if_neg (by simpa using g1),decide_eq_false (show ¬(1≤q.at' i) by omega)];rfl
  rw [if_pos (by simpa using g1),decide_eq_true (show 1≤q.at' i by omega),Bool.true_and,if_pos ⟨by omega,by omega⟩]
  by_cases g2:q.at' i>1099511627776
  · rw [if_pos (by simpa using g2),decide_eq_false (show ¬(q.at' i≤1099511627776) by omega)];rfl
  rw [if_neg (by simpa using g2),decide_eq_true (show q.at' i≤1099511627776 by omega),Bool.true_and]
  exact fP q hq d m (i+1) (by omega) (by omega)
omit hn in
theorem dS {p q:Nat→Bool}:∀ (d i:Nat),P7 (fun k=>p k&&q k) d i=(P7 p d i&&P7 q d i)
 | 0,i=>rfl
 | d+1,i=>by
  rw [Oe,Oe,Oe,dS d (i+1)]
  cases p i<;>cases q i<;>simp
theorem PT (q:Sq Int) (hq:q.n≤1000000):Ld n q=some (fJ q):=by
 have h1:=fP n hn q hq q.n n 0 (by omega) (by omega)
 rw [show ((0:Nat):Int)=0 from rfl] at h1
 have h2:P7 (fun k=>J6 1 1099511627776 (q.at' k)) q.n 0=(n7 q 1&&z7 q 1099511627776):=by
  unfold n7 z7
  exact dS q.n 0
 rw [h2] at h1
 unfold Ld Kf fJ J6
 by_cases g1:(q.n:Int)<1
 · rw [if_neg (by simpa using g1),decide_eq_false (show ¬(1≤(q.n:Int)) by omega)];rfl
 rw [if_pos (by simpa using g1),decide_eq_true (show 1≤(q.n:Int) by omega),Bool.true_and]
 by_cases g2:(q.n:Int)>16
 · rw [if_pos (by simpa using g2),decide_eq_false (show ¬((q.n:Int)≤16) by omega)];rfl
 rw [if_neg (by simpa using g2),decide_eq_true (show (q.n:Int)≤16 by omega),Bool.true_and,h1]
 cases (n7 q 1&&z7 q 1099511627776)<;>rfl
def FR (l:List Int):Bool:=decide (l.length≤200)&&(XC l&&!decide (l.head?=some 91))
theorem KQ (s:BA) (hs:s.size≤1000000):oh n s=some (FR (bs s)):=by
 unfold oh zi FR
 rw [Fa,BE n s hs hn,OC,sE,Option.bind_some,Option.bind_some]
 by_cases g:s.size≤200
 · rw [if_pos (by simp;omega),decide_eq_true g,Bool.true_and]
   cases XC (bs s)<;>rfl
 · rw [if_neg (by simp;omega),decide_eq_false g];rfl
omit hn in
theorem xT {l:List Int} (h:XC l=true):wT l=decide (l.head?=some 91):=by
 by_cases h1:l.head?=some 91
 · rw [decide_eq_true h1]
   have h2:=h
   rw [←sE] at h2
   unfold yV at h2
   rw [if_pos h1,Bool.and_eq_true,decide_eq_true_iff] at h2
   unfold wT
   have hl:2≤l.length:=by
    cases l with
    | nil=>cases h1
    | cons c r=>cases r with
     | nil=>
      have a:=h1
      have b:=h2.1
      simp at a b
      omega
     | cons d r=>simp
   rw [decide_eq_true hl,decide_eq_true h1,decide_eq_true h2.1,h2.2];rfl
 · rw [decide_eq_false h1]
   unfold wT
   rw [decide_eq_false h1];simp
theorem QT (s:BA) (hs:s.size≤1000000):mC n s=some (XC (bs s)&&!decide ((bs s).head?=some 91)):=by
 unfold mC MA
 rw [qQ n s hs hn,dG n s hs hn,Option.bind_some,Option.bind_some]
 cases h:XC (bs s) with
 | false=>rfl
 | true=>rw [if_pos rfl,xT h];rfl
omit hn in
def N6 (c:d6):Bool:=P7 (T7 c.1) c.1.n 0&&(J6 1 4 (c.1.n:Int)&&(FR (bs c.2.1)&&(fJ c.2.2.2.2.1&&(z7 c.2.2.2.2.1 1073741824&&(J6 0 1099511627776 c.2.2.1&&(J6 1 1099511627776 c.2.2.2.1&&(J6 1 1048576 c.2.2.2.2.2.1&&J6 0 1073741824 c.2.2.2.2.2.2.1)))))))
theorem gR (c:d6) (hs:CfS 100000 c):ii n c=some (N6 c):=by
 have hL:=fR n hn c.2.1 c.2.2.1 c.2.2.2.1 c.2.2.2.2.1 c.2.2.2.2.2.1 c.2.2.2.2.2.2.1 c.2.2.2.2.2.2.2.1 c.1 (fun i hi=>by have:=hs.t i hi;omega) (by have:=hs.tn;omega) c.1.n n 0 (⟨0,fun _=>Ea .str⟩:Sq BA) (by omega) (by have:=hs.tn;omega) rfl (fun k h=>by omega)
 rw [show ((0:Nat):Int)=0 from rfl] at hL
 have hH:=KQ n hn c.2.1 (by have:=hs.host;omega)
 have hB:=aT n hn c.2.2.2.2.1 (by have:=hs.bn;omega)
 unfold ii Vo N6
 rw [hL]
 cases P7 (T7 c.1) c.1.n 0 with
 | false=>rfl
 | true=>
  rw [if_pos rfl,Option.bind_some]
  simp only [W7,PB,hH,hB,Option.bind_some,Bool.true_and]
  cases J6 1 4 (c.1.n:Int) with
  | false=>rfl
  | true=>
   cases FR (bs c.2.1) with
   | false=>rfl
   | true=>
    rw [if_pos (by rfl),if_pos (by rfl),Bool.true_and,Bool.true_and]
    cases hb:fJ c.2.2.2.2.1 with
    | false=>rfl
    | true=>
     have h0:0<c.2.2.2.2.1.n:=by
      unfold fJ J6 at hb
      simp only [Bool.and_eq_true,decide_eq_true_eq] at hb
      omega
     obtain ⟨M,M1,M2⟩:=rV n hn c.2.2.2.2.1 (by have:=hs.bn;omega) h0
     have hM:decide (M>1073741824)=!z7 c.2.2.2.2.1 1073741824:=by
      rw [←M2]
      by_cases e:M≤1073741824
      · rw [decide_eq_true e,decide_eq_false (by omega)];rfl
      · rw [decide_eq_false e,decide_eq_true (by omega)];rfl
     rw [if_pos (by rfl),M1,Option.bind_some,hM,Bool.true_and]
     cases z7 c.2.2.2.2.1 1073741824 with
     | false=>rfl
     | true=>
      rw [if_neg (by simp),Bool.true_and]
      cases J6 0 1099511627776 c.2.2.1 with
      | false=>rfl
      | true=>
       cases J6 1 1099511627776 c.2.2.2.1 with
       | false=>rfl
       | true=>
        cases J6 1 1048576 c.2.2.2.2.2.1 with
        | false=>rfl
        | true=>rfl
theorem QV (c1:Sq E6) (q:Sq Int) (hq:q.n≤1000000):∀ (d m i:Nat),i+d=q.n→d<m→Ja n m (i:Int) c1 c2 c3 c4 q c6 c7 c8=some (if P7 (fun k=>decide (q.at' k≤1073741824)) d i=true then .out (c1,c2,c3,c4,q,c6,c7,c8) else .ret false)
 | 0,m,i,hi,hm=>by
  obtain ⟨m,rfl⟩:∃ p,m=p+1:=⟨m - 1,by omega⟩
  rw [Ja,Gc,if_neg (by simp;omega)];rfl
 | d+1,m,i,hi,hm=>by
  obtain ⟨m,rfl⟩:∃ p,m=p+1:=⟨m - 1,by omega⟩
  rw [Ja,Gc,if_pos (decide_eq_true (by omega)),if_pos ⟨by omega,by omega⟩,Int.toNat_natCast,L8 (k:=i) (by omega),Oe]
  by_cases g2:q.at' i>1073741824
  · rw [if_pos (by simpa using g2),decide_eq_false (show ¬(q.at' i≤1073741824) by omega)];rfl
  rw [if_neg (by simpa using g2),decide_eq_true (show q.at' i≤1073741824 by omega),Bool.true_and]
  exact QV c1 q hq d m (i+1) (by omega) (by omega)
theorem SV (i:Nat) (q:Sq E6) (t:E6) (hi:i≤q.n) (hq:q.n≤1000000):∀ (d m k:Nat),k+d=i→d<m→
  La n m (i:Int) (k:Int) q c2 c3 c4 c5 c6 c7 c8 t.1 t.2.1 t.2.2.1 t.2.2.2.1 t.2.2.2.2.1.1 t.2.2.2.2.1.2.1 t.2.2.2.2.1.2.2.1 t.2.2.2.2.1.2.2.2.1 t.2.2.2.2.1.2.2.2.2.1 t.2.2.2.2.2.1=some (if P7 (fun k=>!decide (bs (q.at' k).1=bs t.1)) d k=true then .out ((i:Int),q,c2,c3,c4,c5,c6,c7,c8) else .ret false)
 | 0,m,k,hk,hm=>by
  obtain ⟨m,rfl⟩:∃ p,m=p+1:=⟨m - 1,by omega⟩
  rw [La,Ic,if_neg (by simp;omega)];rfl
 | d+1,m,k,hk,hm=>by
  obtain ⟨m,rfl⟩:∃ p,m=p+1:=⟨m - 1,by omega⟩
  have ih:=SV i q t hi hq d m (k+1) (by omega) (by omega)
  rw [La,Ic,if_pos (decide_eq_true (by omega)),if_pos ⟨by omega,by omega⟩,L8 (k:=k) (by omega),Oe,Int.toNat_natCast,Hv]
  cases decide (bs (q.at' k).1=bs t.1) with
  | true=>rfl
  | false=>rw [if_neg (by simp),ih];rfl
theorem RV (q:Sq E6) (hs:∀ i,i<q.n→(q.at' i).1.size≤1000000) (hq:q.n≤1000000):∀ (d m i:Nat),i+d=q.n→d<m→Ka n m (i:Int) q c2 c3 c4 c5 c6 c7 c8=some (if P7 (T7 q) d i=true then .out () else .ret false)
 | 0,m,i,hi,hm=>by
  obtain ⟨m,rfl⟩:∃ p,m=p+1:=⟨m - 1,by omega⟩
  rw [Ka,Hc,if_neg (by simp;omega)];rfl
 | d+1,m,i,hi,hm=>by
  obtain ⟨m,rfl⟩:∃ p,m=p+1:=⟨m - 1,by omega⟩
  have e1:=L8 (k:=i) (by omega)
  have hN:=WT n (q.at' i).1 (hs i (by omega)) hn
  have h1:=SV n hn c2 c3 c4 c5 c6 c7 c8 i q (q.at' i) (by omega) hq i n 0 (by omega) (by omega)
  rw [show ((0:Nat):Int)=0 from rfl] at h1
  have ih:=RV q hs hq d m (i+1) (by omega) (by omega)
  rw [Ka,Hc,if_pos (decide_eq_true (by omega)),if_pos ⟨by omega,by omega⟩,Oe,Int.toNat_natCast,hN,FY,h1,show T7 q i=((ML (bs (q.at' i).1)&&(J6 0 1073741824 (q.at' i).2.1&&(J6 0 64 (q.at' i).2.2.1&&((decide (1≤(q.at' i).2.2.2.1)&&decide ((q.at' i).2.2.2.1≤16384))&&(wV (q.at' i).2.2.2.2.1&&(((q.at' i).2.2.2.2.1.1==(q.at' i).2.2.2.2.1.2.1)&&((q.at' i).2.2.2.2.1.2.2.2.2.1==0)))))))&&P7 (fun k=>!decide (bs (q.at' k).1=bs (q.at' i).1)) i 0) from rfl]
  simp only [FM,pQ,Option.bind_some]
  cases ML (bs (q.at' i).1) with
  | false=>rfl
  | true=>
   rw [if_pos (by rfl),Bool.true_and]
   cases J6 0 1073741824 (q.at' i).2.1 with
   | false=>rfl
   | true=>
    rw [if_pos (by rfl),Bool.true_and]
    cases J6 0 64 (q.at' i).2.2.1 with
    | false=>rfl
    | true=>
     rw [if_pos (by rfl),Bool.true_and]
     by_cases g1:(q.at' i).2.2.2.1<1
     · rw [if_neg (by simpa using g1),decide_eq_false (show ¬(1≤(q.at' i).2.2.2.1) by omega)];rfl
     rw [if_pos (by simpa using g1),decide_eq_true (show 1≤(q.at' i).2.2.2.1 by omega),Bool.true_and]
     by_cases g2:(q.at' i).2.2.2.1>16384
     · rw [if_neg (by simpa using g2),decide_eq_false (show ¬((q.at' i).2.2.2.1≤16384) by omega)];rfl
     rw [if_pos (by simpa using g2),decide_eq_true (show (q.at' i).2.2.2.1≤16384 by omega),Bool.true_and]
     cases wV (q.at' i).2.2.2.2.1 with
     | false=>rfl
     | true=>
      rw [if_pos (by rfl),Bool.true_and]
      by_cases g3:(q.at' i).2.2.2.2.1.1=(q.at' i).2.2.2.2.1.2.1
      · rw [if_pos (by simpa using g3),show ((q.at' i).2.2.2.2.1.1==(q.at' i).2.2.2.2.1.2.1)=true by simpa using g3,Bool.true_and]
        by_cases g4:(q.at' i).2.2.2.2.1.2.2.2.2.1=0
        · rw [if_neg (by simpa using g4),show ((q.at' i).2.2.2.2.1.2.2.2.2.1==0)=true by simpa using g4,Bool.true_and]
          cases P7 (fun k=>!decide (bs (q.at' k).1=bs (q.at' i).1)) i 0 with
          | false=>rfl
          | true=>
           rw [if_pos rfl,Bool.true_and]
           simp only [W7]
           rw [e1]
           exact ih
        · rw [if_pos (by simpa using g4),show ((q.at' i).2.2.2.2.1.2.2.2.2.1==0)=false by simpa using g4];rfl
      · rw [if_neg (by simpa using g3),show ((q.at' i).2.2.2.2.1.1==(q.at' i).2.2.2.2.1.2.1)=false by simpa using g3];rfl
theorem dZ (c:d6) (hs:CfS 100000 c):Kd n c=some (N6 c):=by
 have hL0:=QV n hn c.2.1 c.2.2.1 c.2.2.2.1 c.2.2.2.2.2.1 c.2.2.2.2.2.2.1 c.2.2.2.2.2.2.2.1 c.1 c.2.2.2.2.1 (by have:=hs.bn;omega) c.2.2.2.2.1.n n 0 (by omega) (by have:=hs.bn;omega)
 have hL1:=RV n hn c.2.1 c.2.2.1 c.2.2.2.1 c.2.2.2.2.1 c.2.2.2.2.2.1 c.2.2.2.2.2.2.1 c.2.2.2.2.2.2.2.1 c.1 (fun i hi=>by have:=hs.t i hi;omega) (by have:=hs.tn;omega) c.1.n n 0 (by omega) (by have:=hs.tn;omega)
 rw [show ((0:Nat):Int)=0 from rfl] at hL0 hL1
 have hH:=QT n hn c.2.1 (by have:=hs.host;omega)
 have hB:=PT n hn c.2.2.2.2.1 (by have:=hs.bn;omega)
 have e:N6 c=(decide (1≤(c.1.n:Int))&&(decide ((c.1.n:Int)≤4)&&(decide ((bs c.2.1).length≤200)&&((XC (bs c.2.1)&&!decide ((bs c.2.1).head?=some 91))&&(J6 0 1099511627776 c.2.2.1&&(decide (1≤c.2.2.2.1)&&(decide (c.2.2.2.1≤1099511627776)&&(fJ c.2.2.2.2.1&&(decide (1≤c.2.2.2.2.2.1)&&(decide (c.2.2.2.2.2.1≤1048576)&&(J6 0 1073741824 c.2.2.2.2.2.2.1&&(z7 c.2.2.2.2.1 1073741824&&P7 (T7 c.1) c.1.n 0)))))))))))):=by
  rw [Bool.eq_iff_iff]
  unfold N6 FR
  rw [show J6 1 4 (c.1.n:Int)=(decide (1≤(c.1.n:Int))&&decide ((c.1.n:Int)≤4)) from rfl,show J6 1 1099511627776 c.2.2.2.1=(decide (1≤c.2.2.2.1)&&decide (c.2.2.2.1≤1099511627776)) from rfl,show J6 1 1048576 c.2.2.2.2.2.1=(decide (1≤c.2.2.2.2.2.1)&&decide (c.2.2.2.2.2.1≤1048576)) from rfl]
  simp only [Bool.and_eq_true]
  constructor
  · rintro ⟨a1,⟨a2,a3⟩,⟨a4,a5⟩,a6,a7,a8,⟨a9,b1⟩,⟨b2,b3⟩,b4⟩
    exact ⟨a2,a3,a4,a5,a8,a9,b1,a6,b2,b3,b4,a7,a1⟩
  · rintro ⟨a2,a3,a4,a5,a8,a9,b1,a6,b2,b3,b4,a7,a1⟩
    exact ⟨a1,⟨a2,a3⟩,⟨a4,a5⟩,a6,a7,a8,⟨a9,b1⟩,⟨b2,b3⟩,b4⟩
 rw [e,Fa]
 unfold Kd Df
 simp only [hL0,hH,hB,FM,Option.bind_some]
 by_cases g1:(c.1.n:Int)<1
 · rw [if_neg (by simpa using g1),decide_eq_false (show ¬(1≤(c.1.n:Int)) by omega)];rfl
 rw [if_pos (by simpa using g1),decide_eq_true (show 1≤(c.1.n:Int) by omega),Bool.true_and]
 by_cases g2:(c.1.n:Int)>4
 · rw [if_neg (by simpa using g2),decide_eq_false (show ¬((c.1.n:Int)≤4) by omega)];rfl
 rw [if_pos (by simpa using g2),decide_eq_true (show (c.1.n:Int)≤4 by omega),Bool.true_and]
 by_cases g3:(c.2.1.size:Int)>200
 · rw [if_neg (by simpa using g3),decide_eq_false (show ¬(c.2.1.size≤200) by omega)];rfl
 rw [if_pos (by simpa using g3),decide_eq_true (show c.2.1.size≤200 by omega),Bool.true_and]
 cases (XC (bs c.2.1)&&!decide ((bs c.2.1).head?=some 91)) with
 | false=>rfl
 | true=>
  rw [if_pos (by rfl),Bool.true_and]
  cases J6 0 1099511627776 c.2.2.1 with
  | false=>rfl
  | true=>
   rw [if_pos (by rfl),Bool.true_and]
   by_cases g4:c.2.2.2.1<1
   · rw [if_neg (by simpa using g4),decide_eq_false (show ¬(1≤c.2.2.2.1) by omega)];rfl
   rw [if_pos (by simpa using g4),decide_eq_true (show 1≤c.2.2.2.1 by omega),Bool.true_and]
   by_cases g5:c.2.2.2.1>1099511627776
   · rw [if_neg (by simpa using g5),decide_eq_false (show ¬(c.2.2.2.1≤1099511627776) by omega)];rfl
   rw [if_pos (by simpa using g5),decide_eq_true (show c.2.2.2.1≤1099511627776 by omega),Bool.true_and]
   cases fJ c.2.2.2.2.1 with
   | false=>rfl
   | true=>
    rw [if_pos (by rfl),Bool.true_and]
    by_cases g6:c.2.2.2.2.2.1<1
    · rw [if_neg (by simpa using g6),decide_eq_false (show ¬(1≤c.2.2.2.2.2.1) by omega)];rfl
    rw [if_pos (by simpa using g6),decide_eq_true (show 1≤c.2.2.2.2.2.1 by omega),Bool.true_and]
    by_cases g7:c.2.2.2.2.2.1>1048576
    · rw [if_neg (by simpa using g7),decide_eq_false (show ¬(c.2.2.2.2.2.1≤1048576) by omega)];rfl
    rw [if_pos (by simpa using g7),decide_eq_true (show c.2.2.2.2.2.1≤1048576 by omega),Bool.true_and]
    cases J6 0 1073741824 c.2.2.2.2.2.2.1 with
    | false=>rfl
    | true=>
     rw [if_neg (by simp),Bool.true_and,show P7 (fun k=>decide (c.2.2.2.2.1.at' k≤1073741824)) c.2.2.2.2.1.n 0=z7 c.2.2.2.2.1 1073741824 from rfl]
     cases z7 c.2.2.2.2.1 1073741824 with
     | false=>rfl
     | true=>
      rw [if_pos rfl,Bool.true_and]
      simp only [W7]
      rw [hL1]
      cases P7 (T7 c.1) c.1.n 0<;>rfl
end
open Go Go.RowKit
def pC (s:C6) (t:E6) (tn n0:Int):Int:=if n0>8192 then 2 else if (J8 tn s.2.1 s.2.1.n 0 0 0).1+1>t.2.2.1∨(J8 tn s.2.1 s.2.1.n 0 0 0).2+(n0+1000)>t.2.1∨64≤CQ (ZP s.2.1) s.2.1.n 0 then 5 else 0
theorem JQ (n:Nat) (s:C6) (c:d6) (k:Nat) (n0:Int) (hs:SpS 100000 s) (hk:k<c.1.n) (h0:0≤n0) (hn:10000000≤n):yh n s c (k:Int) n0=some (pC s (c.1.at' k) (k:Int) n0):=by
 have hU:=QQ n s (k:Int) hs hn
 have hL:=vI n s (by have:=hs.n;omega) hn
 have hr:=IS (k:Int) s.2.1 hs.m s.2.1.n 0 0 0 (by omega) (by omega) (by omega) (by omega) (by rw [G6];omega)
 have hb:=I6 (i:=s.2.1.n) (by have:=hs.n;omega)
 have hsn:=hs.n
 unfold yh Fp pC
 by_cases g:n0>8192
 · rw [if_pos (decide_eq_true g),if_pos g]
 have w1:IntKind.wrap .i64 ((J8 (k:Int) s.2.1 s.2.1.n 0 0 0).1+1)=(J8 (k:Int) s.2.1 s.2.1.n 0 0 0).1+1:=wr (by omega) (by omega)
 have w2:IntKind.wrap .i64 (n0+1000)=n0+1000:=wr (by omega) (by omega)
 have w3:IntKind.wrap .i64 ((J8 (k:Int) s.2.1 s.2.1.n 0 0 0).2+(n0+1000))=(J8 (k:Int) s.2.1 s.2.1.n 0 0 0).2+(n0+1000):=wr (by omega) (by omega)
 rw [if_neg (by simpa using g),if_neg g,if_pos ⟨by omega,by omega⟩,aX,hU,Option.bind_some,Int.toNat_natCast]
 simp only [w1,Mj,Hk,w2,w3,hL,Option.bind_some]
 by_cases g1:(J8 (k:Int) s.2.1 s.2.1.n 0 0 0).1+1>(c.1.at' k).2.2.1
 · rw [if_neg (by simpa using g1),if_pos (.inl g1)]
 rw [if_pos (by simpa using g1)]
 by_cases g2:(J8 (k:Int) s.2.1 s.2.1.n 0 0 0).2+(n0+1000)>(c.1.at' k).2.1
 · rw [if_neg (by simpa using g2),if_pos (.inr (.inl g2))]
 rw [if_pos (by simpa using g2)]
 by_cases g3:64≤CQ (ZP s.2.1) s.2.1.n 0
 · rw [if_pos (decide_eq_true (by omega)),if_pos (.inr (.inr g3))]
 · rw [if_neg (by simp;omega),if_neg (by omega)]
theorem aW (n:Nat) (s:C6) (c:d6) (tn n0:Int) (hs:SpS 100000 s) (hc:CfS 100000 c) (hn:10000000≤n):si n s c tn n0=some (if (q8 s&&(N6 c&&(J6 0 (c.1.n - 1) tn&&decide (0≤n0))))=true then pC s (c.1.at' tn.toNat) tn n0 else 1):=by
 unfold si Hp
 rw [aX,rY,ZJ n s hs hn,gR n hn c hc,Option.bind_some,Option.bind_some,show J6 0 (c.1.n - 1) tn=(decide (0≤tn)&&decide (tn≤c.1.n - 1)) from rfl]
 cases q8 s with
 | false=>rfl
 | true=>
  rw [if_pos (by rfl),Bool.true_and]
  cases N6 c with
  | false=>rfl
  | true=>
   rw [if_pos (by rfl),Bool.true_and]
   by_cases g1:tn<0
   · rw [if_neg (by simpa using g1),decide_eq_false (show ¬(0≤tn) by omega)];rfl
   rw [if_pos (by simpa using g1),decide_eq_true (show 0≤tn by omega),Bool.true_and]
   by_cases g2:tn≥c.1.n
   · rw [if_neg (by simpa using g2),decide_eq_false (show ¬(tn≤(c.1.n:Int) - 1) by omega)];rfl
   rw [if_pos (by simpa using g2),decide_eq_true (show tn≤(c.1.n:Int) - 1 by omega),Bool.true_and]
   by_cases g3:n0<0
   · rw [if_pos (by simpa using g3),decide_eq_false (show ¬(0≤n0) by omega)];rfl
   rw [if_neg (by simpa using g3),decide_eq_true (show 0≤n0 by omega),if_pos rfl]
   obtain ⟨k,rfl⟩:∃ k:Nat,tn=(k:Int):=⟨tn.toNat,by omega⟩
   rw [JQ n s c k n0 hs (by omega) (by omega) hn,Int.toNat_natCast];rfl
section
variable (n:Nat) (hn:10000000≤n) (id2 s5:Int) (s6:Sq ic) (c17:Sq E6) (c18:BA) (c19 c20:Int) (c21:Sq Int) (c22 c23:Int) (c24:Nat) (a30 a31 a32 a33:Int) (a34:Bool) (a35 a36:BA) (a37:Sq A6) (a38:BA) (a39:Int) (a40 a41 a42:Bool) (t62 m020 m021:Int) (m022:Bool) (m023 m024:BA) (m025:Sq A6) (m026:BA) (m027:Int) (m028 m029:Bool) (in0:Int) (in01:Sq ic) (cc:Sq E6) (cc1:BA) (cc2 cc3:Int) (cc4:Sq Int) (cc5 cc6:Int) (cc7:Nat) (want:Int) (want1:Sq ic) (x:Int)
include hn
end
open Go Go.RowKit
abbrev zS:C6:=((0:Int),((⟨0,fun _=>Ea D7⟩:Sq ic),()))
theorem tV (n:Nat) (m:ic) (h:m.2.2.2.2.1.n≤100000):gm n m=some m:=by
 unfold gm Zv
 rw [pW _ h];rfl
theorem bX (n:Nat) (s1 t2:Int):∀ (d m i:Nat) (r:Sq ic),i+d=r.n→d<m→r.n≤100000→(∀ k,k<r.n→(r.at' k).2.2.2.2.1.n≤100000)→
  ∃ r',ab n m (r.n:Int) (i:Int) s1 t2 r=some (.out (s1,t2,r'))∧r'.n=r.n∧∀ k,k<r.n→r'.at' k=r.at' k:=by
 intro d
 induction d with
 | zero=>
  intro m i r hi hm hr hs
  obtain ⟨m,rfl⟩:∃ p,m=p+1:=⟨m - 1,by omega⟩
  rw [ab,gd,if_neg (by simp;omega)]
  exact ⟨r,rfl,rfl,fun k hk=>rfl⟩
 | succ d ih=>
  intro m i r hi hm hr hs
  obtain ⟨m,rfl⟩:∃ p,m=p+1:=⟨m - 1,by omega⟩
  rw [ab,gd,if_pos (decide_eq_true (by omega)),if_pos ⟨by omega,by omega⟩,ia,Int.toNat_natCast,zT,tV n _ (hs i (by omega)),Option.bind_some,if_pos ⟨by omega,by omega⟩,L8 (k:=i) (by omega),zT]
  have hsame:∀ k,(if k=i∧k<r.n then r.at' i else r.at' k)=r.at' k:=fun k=>by
   split
   · rename_i h;rw [h.1]
   · rfl
  obtain ⟨r',h1,h2,h3⟩:=ih m (i+1) (⟨r.n,fun q=>if q=i∧q<r.n then r.at' i else r.at' q⟩:Sq ic) (by show i+1+d=r.n;omega) (by omega) hr (fun k hk=>by
   show (if k=i∧k<r.n then r.at' i else r.at' k).2.2.2.2.1.n≤100000
   rw [hsame];exact hs k hk)
  refine ⟨r',h1,h2,fun k hk=>?_⟩
  rw [h3 k hk]
  exact hsame k
theorem cX (n:Nat) (s:C6) (hs:SpS 100000 s) (hn:10000000≤n):∃ q,ed n s=some (s.1,(q,()))∧q.n=s.2.1.n∧∀ k,k<s.2.1.n→q.at' k=s.2.1.at' k:=by
 obtain ⟨r',h1,h2,h3⟩:=bX n s.1 0 s.2.1.n n 0 s.2.1 (by omega) (by have:=hs.n;omega) hs.n (fun k hk=>(hs.m k hk).rn)
 rw [show ((0:Nat):Int)=0 from rfl] at h1
 refine ⟨r',?_,h2,h3⟩
 have hc:Zs 112 s.2.1=some (s.2.1,()):=by
  unfold Zs
  rw [if_pos (by have:=hs.n;omega)]
 unfold ed sg
 rw [hc,Option.bind_some]
 show (ab n n (s.2.1.n:Int) 0 s.1 0 s.2.1).bind _=_
 rw [h1];rfl
theorem DY (n:Nat) (hn:10000000≤n) (s:C6) (c:d6) (m:ic) (k:Nat) (hs:SpS 100000 s) (hm:MailS 100000 m) (h1:wJ (1,m.2)=true) (ht:m.2.1=(k:Int)) (hk:k<c.1.n) (hN:m.2.2.1=false) (hx:0≤s.1) (hx2:s.1<1099511627776) (hl:s.2.1.n<128):
  (pC s (c.1.at' k) (k:Int) (m.2.2.2.2.2.1.size:Int)≠0→dh n s c m=some (zS,(pC s (c.1.at' k) (k:Int) (m.2.2.2.2.2.1.size:Int),())))∧
  (pC s (c.1.at' k) (k:Int) (m.2.2.2.2.2.1.size:Int)=0→∃ q:Sq ic,dh n s c m=some ((s.1+1,(q,())),(0,()))∧q.n=s.2.1.n+1∧(∀ j,j<s.2.1.n→q.at' j=s.2.1.at' j)∧q.at' s.2.1.n=(s.1,m.2)):=by
 have hM:=SR n (1,m.2) ⟨hm.body,hm.fl,hm.fd,hm.rn,hm.rc⟩ hn
 have hF:=JQ n s c k (m.2.2.2.2.2.1.size:Int) hs hk (by omega) hn
 have hF':yh n s c m.2.1 (m.2.2.2.2.2.1.size:Int)=some (pC s (c.1.at' k) (k:Int) (m.2.2.2.2.2.1.size:Int)):=by rw [ht];exact hF
 have base:dh n s c m=(if (pC s (c.1.at' k) (k:Int) (m.2.2.2.2.2.1.size:Int) !=0)=true then some (zS,(pC s (c.1.at' k) (k:Int) (m.2.2.2.2.2.1.size:Int),())) else
   (ed n s).bind fun v3=>if wc (v3.2.1.n+1) 112=true then some (((IntKind.wrap .i64 (v3.1+(1:Int))),((⟨(v3.2.1.n+1),fun q=>if q<v3.2.1.n then v3.2.1.at' q else (fun q=>List.getD (α:=ic) [(v3.1,m.2)] q (Ea D7)) (q - v3.2.1.n)⟩:Sq ic),())),((0:Int),())) else none):=by
  unfold dh Xj
  rw [zT,tV n m hm.rn,Option.bind_some]
  show (fm n (1,m.2)).bind _=_
  rw [hM,h1,Option.bind_some,if_pos (by rfl),if_neg (by rw [ht];simp;omega),if_pos (by simp;omega),if_neg (by simp;omega),if_pos (show (!m.2.2.1)=true by rw [hN];rfl),aX,rY,hF',Option.bind_some]
  simp only [ba,ia]
 rw [base]
 constructor
 · intro h
   rw [if_pos (by simpa using h)]
 · intro h
   obtain ⟨q,h2,h3,h4⟩:=cX n s hs hn
   rw [if_neg (by simpa using h),h2,Option.bind_some]
   have w:IntKind.wrap .i64 (s.1+1)=s.1+1:=wr (by omega) (by omega)
   refine ⟨(⟨(q.n+1),fun j=>if j<q.n then q.at' j else (fun j=>List.getD (α:=ic) [(s.1,m.2)] j (Ea D7)) (j - q.n)⟩:Sq ic),?_,by show q.n+1=_;omega,fun j hj=>?_,?_⟩
   · rw [if_pos (by unfold wc;simp only [Bool.and_eq_true,Nat.ble_eq];omega),w]
   · show (if j<q.n then q.at' j else _)=_
     rw [if_pos (by omega)];exact h4 j hj
   · show (if s.2.1.n<q.n then _ else List.getD (α:=ic) [(s.1,m.2)] (s.2.1.n - q.n) (Ea D7))=_
     rw [if_neg (by omega),show s.2.1.n - q.n=0 by omega];rfl
abbrev litB:BA:=⟨#[48,49,50,51,52,53,54,55,56,57,48,49,50,13,10]⟩
def nh:Nat→BA→BA
 | 0,b=>b
 | d+1,b=>nh d (b++litB)
theorem GB:∀ (d:Nat) (b:BA),(nh d b).size=b.size+15*d
 | 0,b=>rfl
 | d+1,b=>by
  rw [nh,GB d,ByteArray.size_append,show litB.size=15 from rfl];omega
theorem kW:∀ v,v<5→rM (bs (nh (v*8) eB))=true
 | 0,_=>by kernel_rfl
 | 1,_=>by kernel_rfl
 | 2,_=>by kernel_rfl
 | 3,_=>by kernel_rfl
 | 4,_=>by kernel_rfl
 | v+5,h=>by omega
def i8:Sq A6:=⟨1,fun q=>List.getD (α:=A6) [(((⟨#[97]⟩:BA),((⟨#[120]⟩:BA),())),((0:Int),((0:Int),((0:Int),((0:Int),())))))] q (Ea l8)⟩
def C7 (id:Int) (t:Nat) (b:BA):ic:=(id,((t:Int),(false,(((⟨#[97]⟩:BA),((⟨#[120]⟩:BA),())),(i8,(b,((0:Int),(false,(false,())))))))))
theorem WY (id:Int) (t v:Nat) (hv:v<5):MailS 30000 (C7 id t (nh (v*8) eB)):=by
 have:=GB (v*8) eB
 have e0:eB.size=0:=rfl
 refine ⟨by show (nh (v*8) eB).size≤30000;omega,by show (1:Nat)≤30000;omega,by show (1:Nat)≤30000;omega,by show (1:Nat)≤30000;omega,fun i hi=>?_⟩
 have hi:i<1:=hi
 have:i=0:=by omega
 subst this
 exact ⟨by show (1:Nat)≤30000;omega,by show (1:Nat)≤30000;omega⟩
theorem VY (id:Int) (t v:Nat) (hv:v<5) (ht:t<4) (h1:1≤id) (h2:id≤1099511627776):wJ (C7 id t (nh (v*8) eB))=true:=by
 have e:wJ (C7 id t (nh (v*8) eB))=(J6 1 1099511627776 id&&(J6 0 3 (t:Int)&&(J6 0 1099511627776 0&&((P7 (TV i8) 1 0&&J6 1 8 1)&&(qY ((⟨#[97]⟩:BA),((⟨#[120]⟩:BA),()))&&rM (bs (nh (v*8) eB))))))):=rfl
 have e1:P7 (TV i8) 1 0=true:=by kernel_rfl
 have e2:qY ((⟨#[97]⟩:BA),((⟨#[120]⟩:BA),()))=true:=by kernel_rfl
 rw [e,kW v hv,e1,e2]
 unfold J6
 rw [decide_eq_true h1,decide_eq_true h2,decide_eq_true (show (0:Int)≤(t:Int) by omega),decide_eq_true (show (t:Int)≤3 by omega)]
 rfl
structure QI (i:Nat) (nx:Int) (q:Sq ic):Prop where
 nx:nx=(q.n:Int)+1
 le:q.n≤i
 m:∀ k,k<q.n→∃ t v:Nat,t<4∧v<5∧q.at' k=C7 ((k:Int)+1) t (nh (v*8) eB)
theorem QI.S {i:Nat} {nx:Int} {q:Sq ic} (h:QI i nx q) (hi:i≤40):SpS 30000 (nx,(q,())):=by
 refine ⟨by show q.n≤30000;have:=h.le;omega,fun k hk=>?_⟩
 obtain ⟨t,v,h1,h2,h3⟩:=h.m k hk
 show MailS 30000 (q.at' k)
 rw [h3];exact WY _ _ _ h2
theorem tO {p:Nat→Bool}:∀ (d i:Nat),(∀ k,i≤k→k<i+d→p k=true)→CQ p d i=d
 | 0,i,_=>rfl
 | d+1,i,h=>by
  rw [bL,h i (Nat.le_refl _) (by omega),tO d (i+1) fun k h1 h2=>h k (by omega) (by omega)]
  simp only [cond_true];omega
theorem QI.cnt {i:Nat} {nx:Int} {q:Sq ic} (h:QI i nx q):CQ (ZP q) q.n 0=q.n:=tO _ _ fun k _ hk=>by
 obtain ⟨t,v,h1,h2,h3⟩:=h.m k (by omega)
 unfold ZP
 rw [h3];rfl
theorem QI.B {i:Nat} {nx:Int} {q:Sq ic} (h:QI i nx q) (hi:i≤40):q8 (nx,(q,()))=true:=by
 have hle:=h.le
 have hnx:=h.nx
 show (J6 1 1099511627776 nx&&(decide (q.n≤128)&&(P7 (Q7 nx q) q.n 0&&decide (CQ (ZP q) q.n 0≤64))))=true
 have e1:P7 (Q7 nx q) q.n 0=true:=(fC _ _ _).2 fun k _ hk=>by
  have hk:k<q.n:=by omega
  obtain ⟨t,v,h1,h2,h3⟩:=h.m k hk
  have hid:(q.at' k).1=(k:Int)+1:=by rw [h3];rfl
  unfold Q7
  rw [hid,h3,VY _ _ _ h2 h1 (by omega) (by omega),decide_eq_true (show (k:Int)+1<nx by omega),Bool.true_and,Bool.true_and]
  by_cases h0:k=0
  · rw [decide_eq_true h0];rfl
  · obtain ⟨t',v',_,_,h3'⟩:=h.m (k - 1) (by omega)
    have:(q.at' (k - 1)).1=((k - 1:Nat):Int)+1:=by rw [h3'];rfl
    rw [this,decide_eq_true (show ((k - 1:Nat):Int)+1<(k:Int)+1 by omega),Bool.or_true]
 rw [e1,h.cnt,decide_eq_true (show q.n≤128 by omega),decide_eq_true (show q.n≤64 by omega)]
 unfold J6
 rw [decide_eq_true (show 1≤nx by omega),decide_eq_true (show nx≤1099511627776 by omega)];rfl
section
variable (n:Nat) (hn:10000000≤n) (p1:Int) (p2:Sq ic) (c:d6) (l:Sq B1)
include hn
omit hn in
theorem R3 (i1 N s2:Int) (s3:Sq ic) (m0 m01:Int) (m02:Bool) (m03 m04:BA) (m05:Sq A6) (m07:Int) (m08 m09:Bool):∀ (d m k:Nat) (b:BA),(k:Int)+d=N→d<m→k+d≤100→b.size=15*k→
  ta n m i1 N (k:Int) p1 p2 c.1 c.2.1 c.2.2.1 c.2.2.2.1 c.2.2.2.2.1 c.2.2.2.2.2.1 c.2.2.2.2.2.2.1 c.2.2.2.2.2.2.2.1 l s2 s3 m0 m01 m02 m03 m04 m05 b m07 m08 m09=some (.out (i1,p1,p2,c.1,c.2.1,c.2.2.1,c.2.2.2.1,c.2.2.2.2.1,c.2.2.2.2.2.1,c.2.2.2.2.2.2.1,c.2.2.2.2.2.2.2.1,l,s2,s3,m0,m01,m02,m03,m04,m05,nh d b,m07,m08,m09))
 | 0,m,k,b,hk,hm,hkd,hb=>by
  obtain ⟨m,rfl⟩:∃ p,m=p+1:=⟨m - 1,by omega⟩
  rw [ta,Bb,if_neg (by simp;omega)];rfl
 | d+1,m,k,b,hk,hm,hkd,hb=>by
  obtain ⟨m,rfl⟩:∃ p,m=p+1:=⟨m - 1,by omega⟩
  have hf:yo b litB=true:=by
   unfold yo
   rw [show litB.size=15 from rfl,Nat.ble_eq];omega
  rw [ta,Bb,if_pos (decide_eq_true (by omega)),if_pos hf,L8 (k:=k) (by omega)]
  exact R3 i1 N s2 s3 m0 m01 m02 m03 m04 m05 m07 m08 m09 d m (k+1) (b++litB) (by omega) (by omega) (by omega) (by rw [ByteArray.size_append,show litB.size=15 from rfl];omega)
theorem S5 (hc:CfS 30000 c) (hcB:N6 c=true):∀ (d i m:Nat) (nx:Int) (q:Sq ic),i+d=41→d<m→i≤40→QI i nx q→
  ua n m (i:Int) p1 p2 c.1 c.2.1 c.2.2.1 c.2.2.2.1 c.2.2.2.2.1 c.2.2.2.2.2.1 c.2.2.2.2.2.2.1 c.2.2.2.2.2.2.2.1 l nx q=some (.out ()):=by
 have hc4:1≤c.1.n∧c.1.n≤4:=by
  unfold N6 J6 at hcB
  simp only [Bool.and_eq_true,decide_eq_true_eq] at hcB
  have:=hcB.2.1
  omega
 intro d
 induction d with
 | zero=>intro i m nx q hi hm h40;omega
 | succ d ih=>
  intro i m nx q hi hm h40 hq
  obtain ⟨m,rfl⟩:∃ q,m=q+1:=⟨m - 1,by omega⟩
  rw [ua,Ub]
  by_cases a4:(i:Int)<(l.n:Int)
  · by_cases g:(i:Int)<40
    · obtain ⟨t,t1,t2⟩:=KI n (l.at' i).2.2.1 c.1.n (by omega) (by omega)
      obtain ⟨v,v1,v2⟩:=KI n (l.at' i).2.1 5 (by omega) (by omega)
      have v2:Yk n (l.at' i).2.1 5=some (v:Int):=v2
      have w8:IntKind.wrap .i64 ((v:Int)*8)=(v:Int)*8:=wr (by omega) (by omega)
      have hL:=R3 n p1 p2 c l (i:Int) ((v:Int)*8) nx q 1 (t:Int) false (⟨#[97]⟩:BA) (⟨#[120]⟩:BA) i8 0 false false (v*8) n 0 eB (by omega) (by omega) (by omega) rfl
      rw [show ((0:Nat):Int)=0 from rfl] at hL
      rw [if_pos (decide_eq_true a4),if_pos (decide_eq_true g),show Sg n=some (C7 1 0 eB) from rfl,Option.bind_some,if_pos ⟨by omega,a4⟩,Int.toNat_natCast,t2,Option.bind_some,if_pos ⟨by omega,a4⟩,v2,Option.bind_some,w8]
      show (ta n n (i:Int) ((v:Int)*8) 0 p1 p2 c.1 c.2.1 c.2.2.1 c.2.2.2.1 c.2.2.2.2.1 c.2.2.2.2.2.1 c.2.2.2.2.2.2.1 c.2.2.2.2.2.2.2.1 l nx q 1 (t:Int) false (⟨#[97]⟩:BA) (⟨#[120]⟩:BA) i8 eB 0 false false).bind _=_
      rw [hL,Option.bind_some]
      simp only [W7]
      have hS:=hq.S h40
      have hB:=hq.B h40
      have hle:=hq.le
      have hnx:=hq.nx
      have hbz:(nh (v*8) eB).size=15*(v*8):=by rw [GB];show 0+_=_;omega
      obtain ⟨R,hR⟩:∃ R,R=pC (nx,(q,())) (c.1.at' t) (t:Int) ((nh (v*8) eB).size:Int):=⟨_,rfl⟩
      have hRoom:si n (nx,(q,())) c (t:Int) ((nh (v*8) eB).size:Int)=some R:=by
       rw [aW n _ c _ _ (hS.mono (by omega)) (hc.mono (by omega)) hn,hB,hcB,Int.toNat_natCast,hR,if_pos]
       unfold J6
       rw [decide_eq_true (show (0:Int)≤(t:Int) by omega),decide_eq_true (show (t:Int)≤(c.1.n:Int) - 1 by omega),decide_eq_true (show (0:Int)≤((nh (v*8) eB).size:Int) by omega)];rfl
      have hr:=IS (t:Int) q (hS.mono (by omega:30000≤100000)).m q.n 0 0 0 (by omega) (by omega) (by omega) (by omega) (by rw [G6];omega)
      have hbd:=I6 (i:=q.n) (by omega)
      obtain ⟨K,hK⟩:∃ K,K=(J8 (t:Int) q q.n 0 0 0).1:=⟨_,rfl⟩
      obtain ⟨Z,hZ⟩:∃ Z,Z=(J8 (t:Int) q q.n 0 0 0).2:=⟨_,rfl⟩
      rw [←hK,←hZ] at hr
      have hU:ti n (nx,(q,())) (t:Int)=some (K,(Z,(0,()))):=by
       rw [cW n _ _ (hS.mono (by omega)) hn,hB,hK,hZ]
       unfold J6
       rw [decide_eq_true (show (0:Int)≤(t:Int) by omega),decide_eq_true (show (t:Int)≤3 by omega)];rfl
      have hRv:R=(if K+1>(c.1.at' t).2.2.1∨Z+(((nh (v*8) eB).size:Int)+1000)>(c.1.at' t).2.1∨64≤q.n then 5 else 0):=by
       rw [hR,hK,hZ]
       unfold pC
       rw [if_neg (by omega)]
       show (if (J8 (t:Int) q q.n 0 0 0).1+1>_∨_∨64≤CQ (ZP q) q.n 0 then _ else _)=_
       rw [hq.cnt]
      have hPut:=DY n hn (nx,(q,())) c (C7 1 t (nh (v*8) eB)) t (hS.mono (by omega)) ((WY 1 t v v1).mono (by omega)) (VY 1 t v v1 (by omega) (by omega) (by omega)) rfl t1 rfl (by show 0≤nx;omega) (by show nx<1099511627776;omega) (by show q.n<128;omega)
      have hAdd:∀ x,dh n (nx,(q,())) c (C7 1 t (nh (v*8) eB))=some x→ng n (nx,(q,())) c (C7 1 t (nh (v*8) eB))=some x:=fun x hx=>by
       unfold ng Wj
       rw [aX,rY,zT,ZJ n _ (hS.mono (by omega)) hn,gR n hn c (hc.mono (by omega)),hB,hcB,Option.bind_some,if_pos (by rfl),Option.bind_some,if_neg (by simp),hx];rfl
      have wk:IntKind.wrap .i64 (K+1)=K+1:=wr (by omega) (by omega)
      have wz:IntKind.wrap .i64 (Z+((nh (v*8) eB).size:Int))=Z+((nh (v*8) eB).size:Int):=wr (by omega) (by omega)
      have wz2:IntKind.wrap .i64 (Z+((nh (v*8) eB).size:Int)+1000)=Z+((nh (v*8) eB).size:Int)+1000:=wr (by omega) (by omega)
      have wn:IntKind.wrap .i64 (nx+1)=nx+1:=wr (by omega) (by omega)
      have wq:IntKind.wrap .i64 ((q.n:Int)+1)=(q.n:Int)+1:=wr (by omega) (by omega)
      have e1:=L8 (k:=i) (by omega)
      rw [rY]
      show (si n (nx,(q,())) c (t:Int) ((nh (v*8) eB).size:Int)).bind _=_
      rw [hRoom,Option.bind_some]
      have hn64:decide ((q.n:Int)<64)=true:=decide_eq_true (by omega)
      by_cases hRz:R=0
      · have hcond:¬(K+1>(c.1.at' t).2.2.1∨Z+(((nh (v*8) eB).size:Int)+1000)>(c.1.at' t).2.1∨64≤q.n):=by
         intro h
         rw [if_pos h] at hRv
         omega
        obtain ⟨q',P1,P2,P3,P4⟩:=hPut.2 (by show pC (nx,(q,())) (c.1.at' t) (t:Int) ((nh (v*8) eB).size:Int)=0;rw [←hR];exact hRz)
        have hA:=hAdd _ P1
        have hq':QI (i+1) (nx+1) q':=by
         refine ⟨by rw [P2];show nx+1=((q.n+1:Nat):Int)+1;omega,by rw [P2];show q.n+1≤i+1;omega,fun k hk=>?_⟩
         rw [P2] at hk
         have hk:k<q.n+1:=hk
         by_cases e:k<q.n
         · obtain ⟨a,b,h1,h2,h3⟩:=hq.m k e
           exact ⟨a,b,h1,h2,by rw [P3 k e];exact h3⟩
         · have e:k=q.n:=by omega
           refine ⟨t,v,by omega,v1,?_⟩
           rw [e]
           refine P4.trans ?_
           show (nx,(C7 1 t (nh (v*8) eB)).2)=_
           rw [hnx];rfl
        have ih:=ih (i+1) m (nx+1) q' (by omega) (by omega) (by omega) hq'
        show ((Mb n R).bind fun v6=>(ng n (nx,(q,())) c (C7 1 t (nh (v*8) eB))).bind _)=_
        rw [iQ,Option.bind_some,hA,Option.bind_some,hRz]
        simp only [iQ,Option.bind_some]
        rw [if_pos (by rfl),if_neg (by simp),if_pos ⟨by omega,by omega⟩,hU,Option.bind_some]
        simp only [iQ,Option.bind_some]
        rw [if_pos (by rfl),wk,wz,wz2,Int.toNat_natCast,if_pos (decide_eq_true (by omega)),if_pos (decide_eq_true (by omega)),hn64,if_neg (by decide),if_pos (by rfl),wn,if_pos (by simp),wq,P2,if_pos (by show ((((q.n+1:Nat):Int)) !=(q.n:Int)+1)=false;simp),if_pos ⟨by omega,by show (q.n:Int)<((q.n+1:Nat):Int);omega⟩,Int.toNat_natCast,show q'.at' q.n=(nx,(C7 1 t (nh (v*8) eB)).2) from P4,if_neg (by simp),e1]
        exact ih
      · have hR5:R=5:=by
         rw [hRv] at hRz ⊢
         split at hRz
         · rename_i h;rw [if_pos h]
         · exact absurd rfl hRz
        have hcond:K+1>(c.1.at' t).2.2.1∨Z+(((nh (v*8) eB).size:Int)+1000)>(c.1.at' t).2.1∨64≤q.n:=by
         apply Classical.byContradiction
         intro h
         rw [if_neg h] at hRv
         exact hRz hRv
        have hP:=hPut.1 (by show pC (nx,(q,())) (c.1.at' t) (t:Int) ((nh (v*8) eB).size:Int)≠0;rw [←hR];exact hRz)
        have hA:=hAdd _ hP
        have hA:ng n (nx,(q,())) c (C7 1 t (nh (v*8) eB))=some (zS,(R,())):=by rw [hA,hR];rfl
        have ih:=ih (i+1) m nx q (by omega) (by omega) (by omega) ⟨hnx,by omega,hq.m⟩
        show ((Mb n R).bind fun v6=>(ng n (nx,(q,())) c (C7 1 t (nh (v*8) eB))).bind _)=_
        rw [iQ,Option.bind_some,hA,Option.bind_some,hR5]
        simp only [iQ,Option.bind_some]
        rw [if_pos (by rfl),if_pos (by rfl),if_neg (by decide),if_pos ⟨by omega,by omega⟩,hU,Option.bind_some]
        simp only [iQ,Option.bind_some]
        rw [if_pos (by rfl),wk,wz,wz2,Int.toNat_natCast,e1]
        by_cases g1:K+1≤(c.1.at' t).2.2.1
        · rw [if_pos (decide_eq_true g1)]
          by_cases g2:Z+((nh (v*8) eB).size:Int)+1000≤(c.1.at' t).2.1
          · omega
          · rw [if_neg (by simpa using g2),if_neg (by decide),if_neg (by decide)]
            exact ih
        · rw [if_neg (by simpa using g1),if_neg (by decide),if_neg (by decide)]
          exact ih
    · rw [if_pos (decide_eq_true a4),if_neg (by simpa using g)]
  · rw [if_neg (by simpa using a4)]
end
theorem plain_SpoolQuotas (p:B6) (h:e6 reachBytes j6 p):∃ n,pouchlaw17_SpoolQuotas n p=some true:=⟨10000000,by
 have hn:10000000≤10000000:=Nat.le_refl _
 obtain ⟨b,hb,hb2⟩:=pT 10000000 p (QY h) hn
 unfold pouchlaw17_SpoolQuotas ld
 rw [show (((p.1.1,(p.1.2.1,())),((p.2.1.1,(p.2.1.2.1,(p.2.1.2.2.1,(p.2.1.2.2.2.1,(p.2.1.2.2.2.2.1,(p.2.1.2.2.2.2.2.1,(p.2.1.2.2.2.2.2.2.1,(p.2.1.2.2.2.2.2.2.2.1,())))))))),(p.2.2.1,()))):B6)=p from rfl,hb,Option.bind_some]
 cases b with
 | true=>rfl
 | false=>
  have hs:=hb2 rfl
  rw [if_pos rfl,rY,dZ 10000000 hn p.2.1 (hs.c.mono (by omega)),Option.bind_some]
  cases hc:N6 p.2.1 with
  | false=>rfl
  | true=>
   have hL:=S5 10000000 hn p.1.1 p.1.2.1 p.2.1 p.2.2.1 hs.c hc 41 0 10000000 1 (⟨0,fun _=>Ea D7⟩:Sq ic) rfl (by omega) (by omega) ⟨rfl,Nat.le_refl _,fun k hk=>absurd hk (Nat.not_lt_zero k)⟩
   rw [show ((0:Nat):Int)=0 from rfl] at hL
   rw [if_neg (by simp)]
   show (ua 10000000 10000000 0 p.1.1 p.1.2.1 p.2.1.1 p.2.1.2.1 p.2.1.2.2.1 p.2.1.2.2.2.1 p.2.1.2.2.2.2.1 p.2.1.2.2.2.2.2.1 p.2.1.2.2.2.2.2.2.1 p.2.1.2.2.2.2.2.2.2.1 p.2.2.1 1 (⟨0,fun _=>Ea D7⟩:Sq ic)).bind _=_
   rw [hL,Option.bind_some]
   simp only [W7,mY,Option.bind_some]⟩
end Go.Proofs.YtdhehcnfkcibiaaGreatDoor.AM
