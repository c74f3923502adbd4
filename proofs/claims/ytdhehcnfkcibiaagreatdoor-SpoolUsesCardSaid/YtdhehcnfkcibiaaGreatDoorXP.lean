/- Texts, plainly: which bytes are a text (both sides). -/
import Derived.Test.YtdhehcnfkcibiaaGreatDoorXQ
import Derived.Test.YtdhehcnfkcibiaaGreatDoorXG
set_option linter.all false
set_option linter.unusedVariables false
set_option linter.unusedSimpArgs false
namespace Go.Proofs.YtdhehcnfkcibiaaGreatDoor.AM
open Go Go.RowKit
def Xz:List Int→Option (List Int×List Int)
 | []=>none
 | [_]=>none
 | c::d::r=>if c=13∧d=10 then some ([],r) else (Xz (d::r)).map fun p=>(c::p.1,p.2)
theorem CY:∀ (x y:List Int),Xz x=none→¬(x.getLast?=some 13∧y.head?=some 10)→Xz (x++y)=(Xz y).map fun p=>(x++p.1,p.2)
 | [],y,_,_=>by
  cases h:Xz y with
  | none=>rw [List.nil_append,h];rfl
  | some p=>rw [List.nil_append,h];rfl
 | [c],[],_,_=>rfl
 | [c],d::r,_,hn=>by
  have h:¬(c=13∧d=10):=fun e=>hn (by rw [e.1,e.2];exact ⟨rfl,rfl⟩)
  show Xz (c::d::r)=_
  rw [Xz,if_neg h];rfl
 | c::d::x,y,hx,hn=>by
  rw [Xz] at hx
  by_cases h:c=13∧d=10
  · rw [if_pos h] at hx;cases hx
  · rw [if_neg h] at hx
    have hx':Xz (d::x)=none:=by
     cases hc:Xz (d::x) with
     | none=>rfl
     | some p=>rw [hc] at hx;cases hx
    have ih:=CY (d::x) y hx' (fun e=>hn ⟨by rw [List.getLast?_cons_cons];exact e.1,e.2⟩)
    show Xz (c::d::(x++y))=_
    rw [Xz,if_neg h]
    show Option.map _ (Xz ((d::x)++y))=_
    rw [ih,Option.map_map]
    rfl
theorem DY:∀ (l a b:List Int),Xz l=some (a,b)→l=a++13::10::b
 | [],a,b,h=>by cases h
 | [c],a,b,h=>by cases h
 | c::d::r,a,b,h=>by
  rw [Xz] at h
  by_cases hc:c=13∧d=10
  · rw [if_pos hc] at h
    cases h
    rw [hc.1,hc.2];rfl
  · rw [if_neg hc] at h
    cases hp:Xz (d::r) with
    | none=>rw [hp] at h;cases h
    | some p=>
     rw [hp] at h
     cases h
     have:=DY (d::r) p.1 p.2 hp
     rw [this];rfl
theorem mcb (x:List Int) (c:Int) (hx:Xz x=none) (hn:¬(x.getLast?=some 13∧c=10)):Xz (x++[c])=none:=by
 rw [CY x [c] hx (fun e=>hn ⟨e.1,by simpa using e.2⟩)];rfl
abbrev eB:BA:=⟨#[]⟩
abbrev ceB:BA:=⟨#[13,10]⟩
theorem lT:∀ (l:List UInt8) (k:Int),Ibb l [13,10] k=match Xz (l.map fun c=>(c.toNat:Int)) with
  | none=> -1
  | some p=>(p.1.length:Int)+k
 | [],k=>rfl
 | [b],k=>by
  unfold Ibb
  have h:(List.isPrefixOf [(13:UInt8),10] [b])=false:=by simp [List.isPrefixOf]
  rw [h];rfl
 | b::c::l,k=>by
  have ih:=lT (c::l) (k+1)
  unfold Ibb
  have e1:∀ (x y:UInt8),(x.toNat:Int)=(y.toNat:Int)↔x=y:=fun x y=>⟨fun e=>UInt8.toNat_inj.1 (by omega),fun e=>by rw [e]⟩
  have e13:((b.toNat:Int)=13)↔b=13:=e1 b 13
  have e10:((c.toNat:Int)=10)↔c=10:=e1 c 10
  rw [List.map_cons,List.map_cons,Xz]
  by_cases h:b=13∧c=10
  · have hp:(List.isPrefixOf [(13:UInt8),10] (b::c::l))=true:=by rw [h.1,h.2];rfl
    rw [if_pos hp,if_pos ⟨e13.2 h.1,e10.2 h.2⟩]
    simp
  · have hp:(List.isPrefixOf [(13:UInt8),10] (b::c::l))=false:=by
     simp only [List.isPrefixOf,Bool.and_true,Bool.and_eq_false_iff,beq_eq_false_iff_ne]
     by_cases hb:b=13
     · right;exact fun e=>h ⟨hb,e.symm⟩
     · left;exact fun e=>hb e.symm
    have hn:¬((b.toNat:Int)=13∧(c.toNat:Int)=10):=fun e=>h ⟨e13.1 e.1,e10.1 e.2⟩
    rw [hp,if_neg (by simp),ih,if_neg hn,List.map_cons]
    cases Xz ((c.toNat:Int)::l.map fun c=>(c.toNat:Int)) with
    | none=>rfl
    | some p=>
     show (p.1.length:Int)+(k+1)=((p.1.length+1:Nat):Int)+k
     omega
theorem Xdb (n:Nat) (s:BA) (hs:s.size≤1000000) (h:Xz (bs s)=none):GQ n s ceB=some (s,(eB,(false,()))):=by
 have hi:uI s ceB=some (-1):=by
  unfold uI
  rw [if_pos (by omega)]
  have:=lT s.data.toList 0
  have hb:Xz (s.data.toList.map fun c=>(c.toNat:Int))=none:=h
  rw [hb] at this
  exact congrArg some this
 unfold GQ GN BX DL
 rw [hi];rfl
theorem Ydb (n:Nat) (s:BA) (hs:s.size≤1000000) {p:List Int×List Int} (h:Xz (bs s)=some p):∃ a b,GQ n s ceB=some (a,(b,(true,())))∧bs a=p.1∧bs b=p.2:=by
 have hl:=DY _ _ _ h
 have hlen:s.size=p.1.length+(p.2.length+2):=by rw [←Da,hl];simp
 have hi:uI s ceB=some (p.1.length:Int):=by
  unfold uI
  rw [if_pos (by omega)]
  have:=lT s.data.toList 0
  have hb:Xz (s.data.toList.map fun c=>(c.toNat:Int))=some p:=h
  rw [hb] at this
  simp only [Int.add_zero] at this
  exact congrArg some this
 have w:IntKind.wrap .i64 ((p.1.length:Int)+(ceB.size:Int))=((p.1.length+2:Nat):Int):=by
  rw [show (ceB.size:Int)=2 from rfl,wr (by omega) (by omega)];rfl
 refine ⟨s.extract 0 p.1.length,s.extract (p.1.length+2) s.size,?_,?_,?_⟩
 · unfold GQ GN BX DL
   rw [hi,Option.bind_some,if_pos (by simp),if_pos ⟨by omega,by omega⟩,w,if_pos ⟨by omega,by omega⟩,Option.bind_some]
   rfl
 · rw [Pm,List.drop_zero,hl,List.take_left]
 · rw [Pm,←Da,List.take_length,hl]
   rw [List.drop_append]
   simp
def pA (l:List Int):Bool:=decide (l.length≤509)&&(!l.contains 13&&!l.contains 10)
theorem N8:∀ l:List UInt8,Lib.containsAny l [13,10]=((l.map fun c=>(c.toNat:Int)).contains 13 || (l.map fun c=>(c.toNat:Int)).contains 10)
 | []=>by decide
 | b::l=>by
  have ih:=N8 l
  unfold Lib.containsAny at ih ⊢
  have hg:=Lib.indexAny_ge [13,10] l
  have e13:((13:Int)==(b.toNat:Int))=(b==13):=by
   rw [Bool.eq_iff_iff,beq_iff_eq,beq_iff_eq]
   exact ⟨fun h=>UInt8.toNat_inj.1 (by show b.toNat=13;omega),fun h=>by rw [h];rfl⟩
  have e10:((10:Int)==(b.toNat:Int))=(b==10):=by
   rw [Bool.eq_iff_iff,beq_iff_eq,beq_iff_eq]
   exact ⟨fun h=>UInt8.toNat_inj.1 (by show b.toNat=10;omega),fun h=>by rw [h];rfl⟩
  simp only [List.map_cons,List.contains_cons,e13,e10]
  unfold Lib.indexAny
  by_cases h1:b=13
  · subst h1;rfl
  by_cases h2:b=10
  · subst h2;simp
  have c1:([13,10]:List UInt8).contains b=false:=by simp [h1,h2]
  have d1:(b==13)=false:=by simpa using h1
  have d2:(b==10)=false:=by simpa using h2
  rw [if_neg (by rw [c1];simp),d1,d2,Bool.false_or,Bool.false_or,←ih]
  by_cases hz:Lib.indexAny l [13,10]= -1
  · rw [hz];rfl
  · rw [if_neg (by simpa using hz)]
    exact decide_eq_decide.2 (by omega)
theorem oeb (n:Nat) (s:BA) (hs:s.size≤1000000):eA n s=some (pA (bs s)):=by
 unfold eA EB pA
 rw [Da]
 by_cases h:s.size≤509
 · have h':(s.size:Int)≤509:=by omega
   have hc:Mab s (⟨#[13,10]⟩:BA)=some (Lib.containsAny s.data.toList [13,10]):=by
    unfold Mab
    rw [if_pos ⟨by omega,rfl⟩];rfl
   simp only [h',h,decide_true,if_true,hc,Option.bind_some,N8,Bool.not_or,Bool.true_and]
   rfl
 · have h':¬(s.size:Int)≤509:=by omega
   simp [h,h']
theorem E8 (n:Nat) (s:BA) (hs:s.size≤1000000):∀ (r:List Int) (k m:Nat),(bs s).drop k=r→k≤s.size→r.length<m→Pf n m s k=some (if (!r.contains 13&&!r.contains 10)=true then .out s else .ret false)
 | [],k,m,h,hk,hm=>by
  obtain ⟨m,rfl⟩:∃ q,m=q+1:=⟨m - 1,by omega⟩
  have:=yn h
  simp [Pf,Kp,this]
 | c::r,k,m,h,hk,hm=>by
  obtain ⟨m,rfl⟩:∃ q,m=q+1:=⟨m - 1,by omega⟩
  obtain ⟨h1,h2,h3,h4,h5⟩:=di h
  have e1:=wr1 (k:=k) (by omega)
  have a3:(0:Int)≤(k:Int):=by omega
  have ih:=E8 n s hs r (k+1) m h3 (by omega) (by simpa using hm)
  simp only [Pf,Kp,h1,h2,a3,e1]
  by_cases g1:c=13
  · subst g1;simp
  · by_cases g2:c=10
    · subst g2;simp
    · have g3:((13:Int)==c)=false:=by simpa using fun e=>g1 e.symm
      have g4:((10:Int)==c)=false:=by simpa using fun e=>g2 e.symm
      simp only [List.contains_cons,g3,g4,Bool.false_or]
      simpa [g1,g2] using ih
theorem Wdb (n:Nat) (s:BA) (hs:s.size≤1000000) (hn:10000000≤n):aC n s=some (pA (bs s)):=by
 have h:=E8 n s hs (bs s) 0 n (by simp) (by omega) (by rw [Da];omega)
 rw [show ((0:Nat):Int)=0 from rfl] at h
 unfold aC tG pA
 rw [h,Da]
 cases (!(bs s).contains 13&&!(bs s).contains 10)
 · simp [onL]
 · simp only [if_true,Option.bind_some,onL,Bool.and_true,Option.some.injEq]
   exact decide_eq_decide.2 (by omega)
def WR:Nat→List Int→Bool
 | 0,_=>false
 | d+1,l=>l.isEmpty || match Xz l with
  | none=>false
  | some p=>pA p.1&&WR d p.2
def V5 (l:List Int):Bool:=decide (l.length≤8192)&&WR (l.length+1) l
theorem T5 {d:Nat} {l:List Int} {p:List Int×List Int} (hc:Xz l=some p):WR (d+1) l=(pA p.1&&WR d p.2):=by
 have hne:l.isEmpty=false:=by
  cases l with
  | nil=>cases hc
  | cons _ _=>rfl
 simp only [WR,hc,hne,Bool.false_or]
theorem Cbb {d:Nat} {l:List Int} (hc:Xz l=none):WR (d+1) l=l.isEmpty:=by
 simp only [WR,hc,Bool.or_false]
theorem ncb (n:Nat):∀ (d m:Nat) (s:BA),s.size<d→d≤m→s.size≤1000000→Hg n m s=some (if WR d (bs s)=true then .out () else .ret false)
 | 0,m,s,h,_,_=>by omega
 | d+1,m,s,h,hm,hs=>by
  obtain ⟨m,rfl⟩:∃ q,m=q+1:=⟨m - 1,by omega⟩
  have h0:((s.toList==(⟨#[]⟩:BA).toList))=(bs s).isEmpty:=by
   rw [gw]
   cases hb:bs s with
   | nil=>simp [bs]
   | cons c r=>simp [bs]
  rw [Hg,Du,h0,show (⟨#[13,10]⟩:BA)=ceB from rfl]
  cases hc:Xz (bs s) with
  | none=>
   rw [Cbb hc,Xdb n s hs hc]
   cases (bs s).isEmpty<;>rfl
  | some p=>
   obtain ⟨a,b,h1,h2,h3⟩:=Ydb n s hs hc
   have hne:(bs s).isEmpty=false:=by
    cases hb:bs s with
    | nil=>rw [hb] at hc;cases hc
    | cons _ _=>rfl
   have hl:=congrArg List.length (DY _ _ _ hc)
   simp only [List.length_append,List.length_cons,Da] at hl
   have e2:=congrArg List.length h2
   have e3:=congrArg List.length h3
   rw [Da] at e2 e3
   rw [T5 hc,h1,hne,if_pos (by rfl),Option.bind_some,if_pos (by rfl),oeb n a (by omega),h2,Option.bind_some]
   have ih:=ncb n d m b (by omega) (by omega) (by omega)
   rw [h3] at ih
   cases pA p.1 with
   | true=>rw [if_neg (by simp),ih,Bool.true_and]
   | false=>rfl
theorem Bhb (n:Nat) (s:BA) (hs:s.size≤1000000) (hn:10000000≤n):FB n s=some (V5 (bs s)):=by
 unfold FB iG V5
 rw [Da]
 by_cases h:s.size≤8192
 · rw [if_neg (by simp;omega),decide_eq_true h,ncb n (s.size+1) n s (by omega) (by omega) hs]
   cases WR (s.size+1) (bs s)<;>rfl
 · rw [if_pos (by simp;omega),decide_eq_false h];rfl
def KZ:List Int→List Int→Bool
 | cur,[]=>cur.isEmpty
 | cur,c::r=>if c=10∧cur.getLast?=some 13 then (if pA cur.dropLast=true then KZ [] r else false) else KZ (cur++[c]) r
theorem vP:∀ (r cur:List Int) (d:Nat),Xz cur=none→(cur++r).length<d→KZ cur r=WR d (cur++r)
 | r,cur,0,_,h=>by omega
 | [],cur,d+1,hc,h=>by
  unfold KZ WR
  rw [List.append_nil,hc];simp
 | c::r,cur,d+1,hc,h=>by
  unfold KZ
  by_cases hx:c=10∧cur.getLast?=some 13
  · rw [if_pos hx]
    obtain ⟨x,rfl⟩:∃ x,cur=x++[13]:=by
     rcases List.eq_nil_or_concat cur with h0 | ⟨x,y,h0⟩
     · rw [h0] at hx;cases hx.2
     · subst h0
       have:=hx.2
       simp at this
       subst this
       exact ⟨x,by simp⟩
    have hx0:Xz x=none:=by
     cases hp:Xz x with
     | none=>rfl
     | some p=>
      have e:=DY _ _ _ hp
      have:∀ (a b:List Int),Xz (a++13::10::b)≠none:=by
       intro a
       induction a with
       | nil=>intro b hb;simp [Xz] at hb
       | cons a0 a ih=>
        intro b hb
        cases a with
        | nil=>
         have hb:Xz (a0::13::10::b)=none:=hb
         rw [Xz] at hb
         split at hb
         · cases hb
         · cases hcc:Xz (13::10::b) with
           | none=>exact ih b hcc
           | some q=>rw [hcc] at hb;cases hb
        | cons a1 a=>
         have hb:Xz (a0::a1::(a++13::10::b))=none:=hb
         rw [Xz] at hb
         split at hb
         · cases hb
         · cases hcc:Xz (a1::(a++13::10::b)) with
           | none=>exact ih b hcc
           | some q=>rw [hcc] at hb;cases hb
      rw [e] at hc
      exact absurd (by simpa using hc) (this p.1 (p.2++[13]))
    have hcut:Xz ((x++[13])++c::r)=some (x,r):=by
     rw [hx.1,show (x++[13])++10::r=x++13::10::r by simp,CY x (13::10::r) hx0 (fun e=>by simp at e),Xz,if_pos ⟨rfl,rfl⟩]
     simp
    rw [T5 hcut,List.dropLast_concat]
    simp only [List.length_append,List.length_cons,List.length_nil] at h
    have ih:=vP r [] d rfl (by simp;omega)
    rw [List.nil_append] at ih
    rw [ih]
    cases pA x<;>rfl
  · rw [if_neg hx]
    have ih:=vP r (cur++[c]) (d+1) (mcb cur c hc (fun e=>hx ⟨e.2,e.1⟩)) (by simpa using h)
    rw [ih]
    congr 1
    simp
theorem u6 (n:Nat) (s:BA) (hs:s.size≤100000) (hn:10000000≤n):∀ (r:List Int) (m i fr:Nat) (l:Sq BA),(bs s).drop i=r→i≤s.size→fr≤i→r.length<m→l.n≤i→
  (KZ (((bs s).take i).drop fr) r=true→∃ l',Ec n m s (fr:Int) (i:Int) l=some (.out (s,(s.size:Int),l')))∧
  (KZ (((bs s).take i).drop fr) r=false→(∃ l',Ec n m s (fr:Int) (i:Int) l=some (.ret (false,l')))∨∃ (f:Nat) (l':Sq BA),f<s.size∧Ec n m s (fr:Int) (i:Int) l=some (.out (s,(f:Int),l')))
 | [],m,i,fr,l,hr,hi,hf,hm,hl=>by
  obtain ⟨m,rfl⟩:∃ q,m=q+1:=⟨m - 1,by omega⟩
  have h0:=yn hr
  have hE:i=s.size:=by omega
  have hL:Ec n (m+1) s (fr:Int) (i:Int) l=some (.out (s,(fr:Int),l)):=by
   rw [Ec,Lp,if_neg (by simpa using h0)]
  rw [hL]
  have he:(((bs s).take i).drop fr).isEmpty=decide (fr=s.size):=by
   rw [Bool.eq_iff_iff,List.isEmpty_iff,decide_eq_true_iff,←List.length_eq_zero_iff,List.length_drop,List.length_take,Da]
   omega
  unfold KZ
  rw [he]
  by_cases h:fr=s.size
  · subst h
    exact ⟨fun _=>⟨_,rfl⟩,fun e=>by simp at e⟩
  · refine ⟨fun e=>absurd (of_decide_eq_true e) h,fun _=>.inr ⟨fr,l,by omega,rfl⟩⟩
 | c::r,m,i,fr,l,hr,hi,hf,hm,hl=>by
  obtain ⟨m,rfl⟩:∃ q,m=q+1:=⟨m - 1,by omega⟩
  obtain ⟨h1,h2,h3,h4,h5⟩:=di hr
  have e1:=wr1 (k:=i) (by omega)
  have hlt:i<s.size:=by omega
  have hci:(bs s)[i]?=some c:=by
   have:((bs s).drop i)[0]?=some c:=by rw [hr];rfl
   simpa using this
  have htake:((bs s).take (i+1)).drop fr=((bs s).take i).drop fr++[c]:=by
   rw [List.take_add_one,hci,List.drop_append_of_le_length (by rw [List.length_take,Da];omega)]
   rfl
  have ih:=u6 n s hs hn r m (i+1) fr l h3 (by omega) (by omega) (by simpa using hm) (by omega)
  rw [htake] at ih
  have hstep:¬(c=10∧(((bs s).take i).drop fr).getLast?=some 13)→Ec n (m+1) s (fr:Int) (i:Int) l=Ec n m s (fr:Int) ((i+1:Nat):Int) l:=fun hx=>by
   rw [Ec,Lp,if_pos (decide_eq_true h1),if_pos ⟨by omega,h1⟩,h2,e1]
   by_cases g:c=10
   · subst g
     rw [if_pos (by decide)]
     by_cases gi:i=fr
     · subst gi
       rw [if_neg (by simp)]
     · have w1:IntKind.wrap .i64 ((i:Int) - 1)=((i - 1:Nat):Int):=by rw [wr (by omega) (by omega)];omega
       have hlast:(((bs s).take i).drop fr).getLast?=(bs s)[i - 1]?:=by
        rw [List.getLast?_eq_getElem?,List.getElem?_drop,List.length_drop,List.length_take,Da,show fr+(min i s.size - fr - 1)=i - 1 by omega,List.getElem?_take,if_pos (by omega)]
       obtain ⟨b,hb⟩:∃ b,(bs s)[i - 1]?=some b:=⟨_,List.getElem?_eq_getElem (by rw [Da];omega)⟩
       have hbt:=P6 hb
       rw [if_pos (by simp only [beq_eq_false_iff_ne];omega),w1,if_pos ⟨by omega,by omega⟩,hbt,if_pos]
       have:b≠13:=fun e=>hx ⟨rfl,by rw [hlast,hb,e]⟩
       simpa using this
   · rw [if_neg]
     simpa using g
  unfold KZ
  by_cases hx:c=10∧(((bs s).take i).drop fr).getLast?=some 13
  · rw [if_pos hx]
    have hne:fr<i:=by
     rcases Nat.lt_or_ge fr i with h | h
     · exact h
     · have:((bs s).take i).drop fr=[]:=List.drop_eq_nil_of_le (by rw [List.length_take,Da];omega)
       rw [this] at hx;cases hx.2
    have hlast:(((bs s).take i).drop fr).getLast?=(bs s)[i - 1]?:=by
     rw [List.getLast?_eq_getElem?,List.getElem?_drop,List.length_drop,List.length_take,Da,show fr+(min i s.size - fr - 1)=i - 1 by omega,List.getElem?_take,if_pos (by omega)]
    have hb:(bs s)[i - 1]?=some 13:=by rw [←hlast];exact hx.2
    have hbt:=P6 hb
    have w1:IntKind.wrap .i64 ((i:Int) - 1)=((i - 1:Nat):Int):=by rw [wr (by omega) (by omega)];omega
    have hline:bs (s.extract fr (i - 1))=(((bs s).take i).drop fr).dropLast:=by
     rw [Pm,List.dropLast_eq_take,List.length_drop,List.length_take,Da,List.take_drop,List.take_take]
     congr 2
     omega
    have hC:aC n (s.extract fr (i - 1))=some (pA (((bs s).take i).drop fr).dropLast):=by
     rw [Wdb n _ (by rw [←Da,Pm,List.length_drop,List.length_take,Da];omega) hn,hline]
    have hL:Ec n (m+1) s (fr:Int) (i:Int) l=(if pA (((bs s).take i).drop fr).dropLast=true then Ec n m s ((i+1:Nat):Int) ((i+1:Nat):Int) (⟨(l.n+1),fun q=>if q<l.n then l.at' q else (fun q=>List.getD (α:=BA) [s.extract fr (i - 1)] q (Ba .str)) (q - l.n)⟩:Sq BA) else some (.ret (false,(⟨0,fun _=>Ba .str⟩:Sq BA)))):=by
     rw [Ec,Lp,if_pos (decide_eq_true h1),if_pos ⟨by omega,h1⟩,h2,e1,hx.1,if_pos (by decide),if_pos (by simp only [beq_eq_false_iff_ne];omega),w1,if_pos ⟨by omega,by omega⟩,hbt,if_neg (by decide),if_pos ⟨by omega,by omega⟩,if_pos ⟨by omega,by omega⟩]
     simp only [Int.toNat_natCast]
     rw [hC,Option.bind_some]
     cases pA (((bs s).take i).drop fr).dropLast with
     | false=>rfl
     | true=>
      rw [if_neg (by decide),if_pos ⟨by omega,by omega⟩,if_pos ⟨by omega,by omega⟩,if_pos (by unfold Rb;simp only [Bool.and_eq_true,Nat.ble_eq];omega),if_pos rfl]
    rw [hL]
    cases hk:pA (((bs s).take i).drop fr).dropLast with
    | false=>
     rw [if_neg (by decide),if_neg (by decide)]
     exact ⟨fun e=>(by cases e),fun _=>.inl ⟨_,rfl⟩⟩
    | true=>
     rw [if_pos rfl,if_pos rfl]
     have ih2:=u6 n s hs hn r m (i+1) (i+1) (⟨(l.n+1),fun q=>if q<l.n then l.at' q else (fun q=>List.getD (α:=BA) [s.extract fr (i - 1)] q (Ba .str)) (q - l.n)⟩:Sq BA) h3 (by omega) (Nat.le_refl _) (by simpa using hm) (by show l.n+1≤i+1;omega)
     have e0:((bs s).take (i+1)).drop (i+1)=[]:=List.drop_eq_nil_of_le (by rw [List.length_take];omega)
     rw [e0] at ih2
     exact ih2
  · rw [if_neg hx,hstep hx]
    exact ih
theorem lhb (n:Nat) (s:BA) (hs:s.size≤100000) (hn:10000000≤n):∃ l,bC n s=some (l,(V5 (bs s),())):=by
 unfold bC HM V5
 rw [Da]
 by_cases h:s.size≤8192
 · rw [if_neg (by simp;omega),decide_eq_true h]
   have hR:=u6 n s hs hn (bs s) n 0 0 (⟨0,fun _=>Ba .str⟩:Sq BA) rfl (by omega) (by omega) (by rw [Da];omega) (Nat.le_refl _)
   have hT:=vP (bs s) [] (s.size+1) rfl (by rw [List.nil_append,Da];omega)
   rw [List.nil_append] at hT
   simp only [List.take_zero,List.drop_nil] at hR
   rw [hT] at hR
   cases hb:WR (s.size+1) (bs s) with
   | true=>
    obtain ⟨l',e⟩:=hR.1 hb
    rw [show ((0:Nat):Int)=0 from rfl] at e
    rw [e]
    refine ⟨l',?_⟩
    simp [onL]
   | false=>
    rcases hR.2 hb with ⟨l',e⟩ | ⟨f,l',hf,e⟩
    · rw [show ((0:Nat):Int)=0 from rfl] at e
      rw [e];exact ⟨_,rfl⟩
    · rw [show ((0:Nat):Int)=0 from rfl] at e
      rw [e]
      refine ⟨l',?_⟩
      have:((f:Int)==(s.size:Int))=false:=by simp only [beq_eq_false_iff_ne];omega
      simp [onL,this]
 · rw [if_pos (by simp;omega),decide_eq_false h];exact ⟨_,rfl⟩
open Go Go.RowKit
abbrev RcT:Type:=((BA×(BA×Unit))×(Int×(Int×(Int×(Int×Unit)))))
abbrev sd:Type:=(Int×(Int×(Bool×((BA×(BA×Unit))×((Sq RcT)×(BA×(Int×(Bool×(Bool×Unit)))))))))
abbrev SpT:Type:=(Int×((Sq sd)×Unit))
abbrev bxK:CTy:=.pair .str (.pair .str .unit)
def okF (p:Nat→Bool):Nat→Nat→Bool
 | 0,_=>true
 | d+1,i=>p i&&okF p d (i+1)
theorem Fe (p:Nat→Bool) (d i:Nat):okF p (d+1) i=(p i&&okF p d (i+1)):=rfl
theorem FO (p:Nat→Bool):∀ (d i:Nat),okF p d i=true↔∀ k,i≤k→k<i+d→p k=true
 | 0,i=>by simp [okF];intro k h1 h2;omega
 | d+1,i=>by
  simp only [okF,Bool.and_eq_true,FO p d (i+1)]
  constructor
  · rintro ⟨h1,h2⟩ k hk hk2
    by_cases e:k=i
    · rw [e];exact h1
    · exact h2 k (by omega) (by omega)
  · intro h
    exact ⟨h i (Nat.le_refl _) (by omega),fun k h1 h2=>h k (by omega) (by omega)⟩
theorem Rn {p q:Nat→Bool} {d i:Nat} (h:∀ k,i≤k→k<i+d→p k=q k):okF p d i=okF q d i:=by
 rw [Bool.eq_iff_iff,FO,FO]
 exact ⟨fun g k h1 h2=>by rw [←h k h1 h2];exact g k h1 h2,fun g k h1 h2=>by rw [h k h1 h2];exact g k h1 h2⟩
theorem jV (n:Nat) (a l m:Int):Zd n a l m=some (decide (l≤a)&&decide (a≤m)):=by
 unfold Zd Bt
 by_cases h:l≤a
 · rw [if_pos (decide_eq_true h),decide_eq_true h,Bool.true_and]
 · rw [if_neg (by simpa using h),decide_eq_false h,Bool.false_and]
theorem J8 (n:Nat) (a m:Int):km n a m=some (decide (0≤a)&&decide (a≤m)):=by
 unfold km mS
 by_cases h:0≤a
 · rw [if_pos (decide_eq_true h),decide_eq_true h,Bool.true_and]
 · rw [if_neg (by simpa using h),decide_eq_false h,Bool.false_and]
def Ajb (b:BA×(BA×Unit)):Bool:=yO (bs b.1)&&DK (bs b.2.1)
def btw (l m a:Int):Bool:=decide (l≤a)&&decide (a≤m)
def rcB (r:RcT):Bool:=Ajb r.1&&(btw 0 4 r.2.1&&(btw 0 1048576 r.2.2.1&&(btw 0 2199023255552 r.2.2.2.1&&btw 0 599 r.2.2.2.2.1)))
def LQ (a b:RcT):Bool:=decide (bs a.1.1=bs b.1.1)&&decide (bs a.1.2.1=bs b.1.2.1)
def V7 (q:Sq RcT) (i:Nat):Bool:=rcB (q.at' i)&&okF (fun k=>!LQ (q.at' k) (q.at' i)) i 0
def RcS (B:Nat) (r:RcT):Prop:=r.1.1.size≤B∧r.1.2.1.size≤B
structure MailS (B:Nat) (m:sd):Prop where
 body:m.2.2.2.2.2.1.size≤B
 fl:m.2.2.2.1.1.size≤B
 fd:m.2.2.2.1.2.1.size≤B
 rn:m.2.2.2.2.1.n≤B
 rc:∀ i,i<m.2.2.2.2.1.n→RcS B (m.2.2.2.2.1.at' i)
theorem nib (n:Nat) (r:RcT) (hs:RcS 100000 r) (hn:10000000≤n):sA n r=some (rcB r):=by
 obtain ⟨⟨a,b,u⟩,s,t,x,c,u2⟩:=r
 unfold sA KB rcB Ajb btw
 simp only [Xbb n a b hs.1 hs.2 hn,jV,Option.bind_some]
 cases yO (bs a)&&DK (bs b) with
 | false=>rfl
 | true=>
  rw [if_pos (by rfl),Bool.true_and]
  cases decide (0≤s)&&decide (s≤4) with
  | false=>rfl
  | true=>
   rw [if_pos (by rfl),Bool.true_and]
   cases decide (0≤t)&&decide (t≤1048576) with
   | false=>rfl
   | true=>
    rw [if_pos (by rfl),Bool.true_and]
    cases decide (0≤x)&&decide (x≤2199023255552) with
    | false=>rfl
    | true=>rw [if_pos (by rfl),Bool.true_and]
def jeb (r:RcT):El bxK:=(r.1.1,(r.1.2.1,()))
theorem Sab (r:RcT) (hs:RcS 100000 r):rh bxK (jeb r)=true:=by
 have h1:=hs.1
 have h2:=hs.2
 simp only [bxK,jeb,rh,Bool.and_eq_true,Nat.ble_eq,and_true]
 constructor<;>omega
theorem tcb (a b:RcT):Hgb bxK (jeb a) (jeb b)=LQ b a:=by
 simp only [bxK,jeb,Hgb,gw,Bool.and_true,LQ]
 rw [Bool.eq_iff_iff]
 simp only [Bool.and_eq_true,decide_eq_true_eq]
 exact ⟨fun h=>⟨h.1.symm,h.2.symm⟩,fun h=>⟨h.1.symm,h.2.symm⟩⟩
theorem W9 (n:Nat) (q:Sq RcT) (hs:∀ i,i<q.n→RcS 100000 (q.at' i)) (hq:q.n≤1000000) (hn:10000000≤n):∀ (d m i:Nat) (seen:Sq (BA×(BA×Unit))),i+d=q.n→d<m→seen.n=i→(∀ k,k<i→seen.at' k=jeb (q.at' k))→
  wd n m q q (q.n:Int) (i:Int) seen=some (if okF (V7 q) d i=true then .out q else .ret false)
 | 0,m,i,seen,hi,hm,h1,h2=>by
  obtain ⟨m,rfl⟩:∃ p,m=p+1:=⟨m - 1,by omega⟩
  rw [wd,Uk,if_neg (by simp;omega)];rfl
 | d+1,m,i,seen,hi,hm,h1,h2=>by
  obtain ⟨m,rfl⟩:∃ p,m=p+1:=⟨m - 1,by omega⟩
  have e1:=wr1 (k:=i) (by omega)
  have hr:=hs i (by omega)
  have hrc:=nib n (q.at' i) hr hn
  have hk:=Sab (q.at' i) hr
  have hhas:AX bxK seen (jeb (q.at' i))=!okF (fun k=>!LQ (q.at' k) (q.at' i)) i 0:=by
   rw [Bool.eq_iff_iff,Bool.not_eq_true',←Bool.not_eq_true,FO]
   unfold AX
   rw [h1]
   simp only [List.any_map,List.any_eq_true,List.mem_range,Function.comp]
   constructor
   · rintro ⟨k,hk,he⟩ hall
     rw [h2 k hk,tcb] at he
     have:=hall k (Nat.zero_le _) (by omega)
     simp [he] at this
   · intro hne
     apply Classical.byContradiction
     intro hno
     apply hne
     intro k _ hk
     simp only [Bool.not_eq_true']
     cases hb:LQ (q.at' k) (q.at' i) with
     | false=>rfl
     | true=>exact absurd ⟨k,by omega,by rw [h2 k (by omega),tcb];exact hb⟩ hno
  rw [wd,Uk,if_pos (decide_eq_true (by omega)),if_pos ⟨by omega,by omega⟩]
  rw [Fe]
  simp only [Int.toNat_natCast]
  have eta:(((q.at' i).1.1,((q.at' i).1.2.1,())),((q.at' i).2.1,((q.at' i).2.2.1,((q.at' i).2.2.2.1,((q.at' i).2.2.2.2.1,())))))=q.at' i:=rfl
  have etb:(((q.at' i).1.1,((q.at' i).1.2.1,())):El bxK)=jeb (q.at' i):=rfl
  rw [eta,etb,hrc,Option.bind_some]
  rw [show V7 q i=(rcB (q.at' i)&&okF (fun k=>!LQ (q.at' k) (q.at' i)) i 0) from rfl]
  cases hb:rcB (q.at' i) with
  | false=>rfl
  | true=>
   rw [if_pos (by rfl),if_pos hk,hhas,Bool.true_and]
   cases ho:okF (fun k=>!LQ (q.at' k) (q.at' i)) i 0 with
   | false=>rfl
   | true=>
    rw [if_neg (by simp),if_pos hk,e1,Bool.true_and]
    have hp:(KX bxK seen (jeb (q.at' i))).n=i+1:=by
     simp only [KX,hhas,ho,Bool.not_true,cond_false,h1]
    refine W9 n q hs hq hn d m (i+1) _ (by omega) (by omega) hp fun k hk=>?_
    simp only [KX,h1]
    by_cases e:k<i
    · rw [if_pos e];exact h2 k e
    · rw [if_neg e,show k=i by omega]
theorem Yeb (n:Nat) (q:Sq RcT) (hs:∀ i,i<q.n→RcS 100000 (q.at' i)) (hq:q.n≤1000000) (hn:10000000≤n):ju n q=some (okF (V7 q) q.n 0&&btw 1 8 (q.n:Int)):=by
 unfold ju Tw
 have:=W9 n q hs hq hn q.n n 0 (⟨0,fun _=>Ba (.pair .str (.pair .str .unit))⟩:Sq (BA×(BA×Unit))) (by omega) (by omega) rfl (fun k h=>by omega)
 rw [show ((0:Nat):Int)=0 from rfl] at this
 rw [this]
 cases okF (V7 q) q.n 0 with
 | false=>rfl
 | true=>simp [onL,jV,btw]
def reb (m:sd):Bool:=cond m.2.2.1 (decide (bs m.2.2.2.1.1=[])&&decide (bs m.2.2.2.1.2.1=[])) (Ajb m.2.2.2.1)
def zO (m:sd):Bool:=btw 1 1099511627776 m.1&&(btw 0 3 m.2.1&&(btw 0 1099511627776 m.2.2.2.2.2.2.1&&((okF (V7 m.2.2.2.2.1) m.2.2.2.2.1.n 0&&btw 1 8 (m.2.2.2.2.1.n:Int))&&(reb m&&V5 (bs m.2.2.2.2.2.1)))))
theorem Zhb (n:Nat) (m:sd) (hs:MailS 100000 m) (hn:10000000≤n):Sw n m=some (zO m):=by
 unfold Sw nG zO reb
 have hd:=Bhb n m.2.2.2.2.2.1 (by have:=hs.body;omega) hn
 have hr:=Yeb n m.2.2.2.2.1 hs.rc (by have:=hs.rn;omega) hn
 simp only [jV,Option.bind_some,hr,hd,gw,Bool.and_true]
 have hb:bs (⟨#[]⟩:BA)=[]:=rfl
 rw [hb]
 have hbx:=Xbb n m.2.2.2.1.1 m.2.2.2.1.2.1 hs.fl hs.fd hn
 rw [hbx]
 unfold btw Ajb
 cases decide (1≤m.1)&&decide (m.1≤1099511627776) with
 | false=>rfl
 | true=>
  cases decide (0≤m.2.1)&&decide (m.2.1≤3) with
  | false=>rfl
  | true=>
   cases decide (0≤m.2.2.2.2.2.2.1)&&decide (m.2.2.2.2.2.2.1≤1099511627776) with
   | false=>rfl
   | true=>
    cases (okF (V7 m.2.2.2.2.1) m.2.2.2.2.1.n 0&&(decide (1≤(m.2.2.2.2.1.n:Int))&&decide ((m.2.2.2.2.1.n:Int)≤8))) with
    | false=>rfl
    | true=>
     cases m.2.2.1 with
     | true=>
      cases (decide (bs m.2.2.2.1.1=[])&&decide (bs m.2.2.2.1.2.1=[])) with
      | false=>rfl
      | true=>rfl
     | false=>
      cases (yO (bs m.2.2.2.1.1)&&DK (bs m.2.2.2.1.2.1)) with
      | false=>rfl
      | true=>rfl
theorem Sbb (n:Nat) (i:Nat) (m1 m2:Int) (m3:Bool) (m4 m5:BA) (q:Sq RcT) (m7:BA) (m8:Int) (m9 m10:Bool) (r:RcT) (hi:i≤q.n) (hq:q.n≤1000000):∀ (d m k:Nat),k+d=i→d<m→
  ub n m (i:Int) (k:Int) m1 m2 m3 m4 m5 q m7 m8 m9 m10 r.1.1 r.1.2.1 r.2.1 r.2.2.1 r.2.2.2.1 r.2.2.2.2.1=some (if okF (fun k=>!LQ (q.at' k) r) d k=true then .out ((i:Int),m1,m2,m3,m4,m5,q,m7,m8,m9,m10) else .ret false)
 | 0,m,k,hk,hm=>by
  obtain ⟨m,rfl⟩:∃ p,m=p+1:=⟨m - 1,by omega⟩
  rw [ub,Ie,if_neg (by simp;omega)];rfl
 | d+1,m,k,hk,hm=>by
  obtain ⟨m,rfl⟩:∃ p,m=p+1:=⟨m - 1,by omega⟩
  have e1:=wr1 (k:=k) (by omega)
  have ih:=Sbb n i m1 m2 m3 m4 m5 q m7 m8 m9 m10 r hi hq d m (k+1) (by omega) (by omega)
  rw [ub,Ie,if_pos (decide_eq_true (by omega)),if_pos ⟨by omega,by omega⟩,e1]
  rw [Fe]
  simp only [Int.toNat_natCast,gw,Bool.and_true]
  cases hb:(decide (bs (q.at' k).1.1=bs r.1.1)&&decide (bs (q.at' k).1.2.1=bs r.1.2.1)) with
  | true=>
   have:LQ (q.at' k) r=true:=hb
   rw [if_pos rfl,this];rfl
  | false=>
   have:LQ (q.at' k) r=false:=hb
   rw [if_neg (by simp),this,ih];rfl
theorem Rbb (n:Nat) (m1 m2:Int) (m3:Bool) (m4 m5:BA) (q:Sq RcT) (m7:BA) (m8:Int) (m9 m10:Bool) (hs:∀ i,i<q.n→RcS 100000 (q.at' i)) (hq:q.n≤1000000) (hn:10000000≤n):∀ (d m i:Nat),i+d=q.n→d<m→
  Pa n m (i:Int) m1 m2 m3 m4 m5 q m7 m8 m9 m10=some (if okF (V7 q) d i=true then .out (m1,m2,m3,m4,m5,q,m7,m8,m9,m10) else .ret false)
 | 0,m,i,hi,hm=>by
  obtain ⟨m,rfl⟩:∃ p,m=p+1:=⟨m - 1,by omega⟩
  rw [Pa,He,if_neg (by simp;omega)];rfl
 | d+1,m,i,hi,hm=>by
  obtain ⟨m,rfl⟩:∃ p,m=p+1:=⟨m - 1,by omega⟩
  have e1:=wr1 (k:=i) (by omega)
  have hr:=hs i (by omega)
  have ih:=Rbb n m1 m2 m3 m4 m5 q m7 m8 m9 m10 hs hq hn d m (i+1) (by omega) (by omega)
  have hM:=ygb n (q.at' i).1.1 (q.at' i).1.2.1 (by have:=hr.1;omega) (by have:=hr.2;omega) hn
  have h1:=Sbb n i m1 m2 m3 m4 m5 q m7 m8 m9 m10 (q.at' i) (by omega) hq i n 0 (by omega) (by omega)
  rw [show ((0:Nat):Int)=0 from rfl] at h1
  rw [Pa,He,if_pos (decide_eq_true (by omega)),if_pos ⟨by omega,by omega⟩]
  rw [Fe,show V7 q i=(((yO (bs (q.at' i).1.1)&&DK (bs (q.at' i).1.2.1))&&((decide (0≤(q.at' i).2.1)&&decide ((q.at' i).2.1≤4))&&((decide (0≤(q.at' i).2.2.1)&&decide ((q.at' i).2.2.1≤1048576))&&((decide (0≤(q.at' i).2.2.2.1)&&decide ((q.at' i).2.2.2.1≤2199023255552))&&(decide (0≤(q.at' i).2.2.2.2.1)&&decide ((q.at' i).2.2.2.2.1≤599))))))&&okF (fun k=>!LQ (q.at' k) (q.at' i)) i 0) from rfl]
  simp only [Int.toNat_natCast,hM,J8,Option.bind_some]
  cases (yO (bs (q.at' i).1.1)&&DK (bs (q.at' i).1.2.1)) with
  | false=>rfl
  | true=>
   rw [if_pos (by rfl),Bool.true_and]
   by_cases g1:(q.at' i).2.1<0
   · rw [if_neg (by simpa using g1),decide_eq_false (show ¬(0≤(q.at' i).2.1) by omega)];rfl
   rw [if_pos (by simpa using g1),decide_eq_true (show 0≤(q.at' i).2.1 by omega),Bool.true_and]
   by_cases g2:(q.at' i).2.1>4
   · rw [if_neg (by simpa using g2),decide_eq_false (show ¬((q.at' i).2.1≤4) by omega)];rfl
   rw [if_pos (by simpa using g2),decide_eq_true (show (q.at' i).2.1≤4 by omega),Bool.true_and]
   cases decide (0≤(q.at' i).2.2.1)&&decide ((q.at' i).2.2.1≤1048576) with
   | false=>rfl
   | true=>
    rw [if_pos (by rfl),Bool.true_and]
    cases decide (0≤(q.at' i).2.2.2.1)&&decide ((q.at' i).2.2.2.1≤2199023255552) with
    | false=>rfl
    | true=>
     rw [if_pos (by rfl),Bool.true_and]
     cases decide (0≤(q.at' i).2.2.2.2.1)&&decide ((q.at' i).2.2.2.2.1≤599) with
     | false=>rfl
     | true=>
      rw [if_neg (by simp),h1,Bool.true_and]
      cases okF (fun k=>!LQ (q.at' k) (q.at' i)) i 0 with
      | false=>rfl
      | true=>
       rw [if_pos rfl,Option.bind_some,Bool.true_and]
       simp only [onL]
       rw [e1]
       exact ih
theorem Ueb (n:Nat) (m:sd) (hs:MailS 100000 m) (hn:10000000≤n):th n m=some (zO m):=by
 obtain ⟨l,hR⟩:=lhb n m.2.2.2.2.2.1 hs.body hn
 have hL:=Rbb n m.1 m.2.1 m.2.2.1 m.2.2.2.1.1 m.2.2.2.1.2.1 m.2.2.2.2.1 m.2.2.2.2.2.1 m.2.2.2.2.2.2.1 m.2.2.2.2.2.2.2.1 m.2.2.2.2.2.2.2.2.1 hs.rc (by have:=hs.rn;omega) hn m.2.2.2.2.1.n n 0 (by omega) (by have:=hs.rn;omega)
 rw [show ((0:Nat):Int)=0 from rfl] at hL
 have hM:=ygb n m.2.2.2.1.1 m.2.2.2.1.2.1 (by have:=hs.fl;omega) (by have:=hs.fd;omega) hn
 unfold th Yk zO reb
 simp only [hL,hM,J8,Option.bind_some,gw,Bool.and_true]
 have hb:bs (⟨#[]⟩:BA)=[]:=rfl
 rw [hb]
 unfold btw Ajb
 by_cases g1:m.1<1
 · rw [if_neg (by simpa using g1),decide_eq_false (show ¬(1≤m.1) by omega)];rfl
 rw [if_pos (by simpa using g1),decide_eq_true (show 1≤m.1 by omega),Bool.true_and]
 by_cases g2:m.1>1099511627776
 · rw [if_neg (by simpa using g2),decide_eq_false (show ¬(m.1≤1099511627776) by omega)];rfl
 rw [if_pos (by simpa using g2),decide_eq_true (show m.1≤1099511627776 by omega),Bool.true_and]
 cases decide (0≤m.2.1)&&decide (m.2.1≤3) with
 | false=>rfl
 | true=>
  rw [if_pos (by rfl),Bool.true_and]
  by_cases g3:(m.2.2.2.2.1.n:Int)<1
  · rw [if_neg (by simpa using g3),decide_eq_false (show ¬(1≤(m.2.2.2.2.1.n:Int)) by omega)]
    simp
  rw [if_pos (by simpa using g3),decide_eq_true (show 1≤(m.2.2.2.2.1.n:Int) by omega),Bool.true_and]
  by_cases g4:(m.2.2.2.2.1.n:Int)>8
  · rw [if_neg (by simpa using g4),decide_eq_false (show ¬((m.2.2.2.2.1.n:Int)≤8) by omega)]
    simp
  rw [if_pos (by simpa using g4),decide_eq_true (show (m.2.2.2.2.1.n:Int)≤8 by omega),Bool.and_true]
  cases decide (0≤m.2.2.2.2.2.2.1)&&decide (m.2.2.2.2.2.2.1≤1099511627776) with
  | false=>rfl
  | true=>
   rw [if_neg (by simp),Bool.true_and]
   cases hN:m.2.2.1 with
   | true=>
    rw [if_pos rfl]
    cases (decide (bs m.2.2.2.1.1=[])&&decide (bs m.2.2.2.1.2.1=[])) with
    | false=>simp
    | true=>
     rw [if_pos (by rfl),if_neg (by simp)]
     cases okF (V7 m.2.2.2.2.1) m.2.2.2.2.1.n 0 with
     | false=>rfl
     | true=>simp [onL,hR]
   | false=>
    rw [if_neg (by simp),if_pos (by rfl)]
    cases (yO (bs m.2.2.2.1.1)&&DK (bs m.2.2.2.1.2.1)) with
    | false=>simp
    | true=>
     rw [if_neg (by simp)]
     cases okF (V7 m.2.2.2.2.1) m.2.2.2.2.1.n 0 with
     | false=>rfl
     | true=>simp [onL,hR]
open Go Go.RowKit
set_option maxRecDepth 100000
theorem D9 (m:sd):(m.1,(m.2.1,(m.2.2.1,((m.2.2.2.1.1,(m.2.2.2.1.2.1,())),(m.2.2.2.2.1,(m.2.2.2.2.2.1,(m.2.2.2.2.2.2.1,(m.2.2.2.2.2.2.2.1,(m.2.2.2.2.2.2.2.2.1,())))))))))=m:=rfl
theorem Vdb (s:SpT):(s.1,(s.2.1,()))=s:=rfl
structure SpS (B:Nat) (s:SpT):Prop where
 n:s.2.1.n≤B
 m:∀ i,i<s.2.1.n→MailS B (s.2.1.at' i)
def mV (p:Nat→Bool):Nat→Nat→Nat
 | 0,_=>0
 | d+1,i=>cond (p i) 1 0+mV p d (i+1)
theorem O2 (p:Nat→Bool) (d i:Nat):mV p (d+1) i=cond (p i) 1 0+mV p d (i+1):=rfl
theorem fO {p q:Nat→Bool}:∀ {d i:Nat},(∀ k,i≤k→k<i+d→p k=q k)→mV p d i=mV q d i
 | 0,i,h=>rfl
 | d+1,i,h=>by simp only [mV];rw [h i (Nat.le_refl _) (by omega),fO fun k h1 h2=>h k (by omega) (by omega)]
def tJ (q:Sq sd) (i:Nat):Bool:=!(q.at' i).2.2.1
def okM (s1:Int) (q:Sq sd) (i:Nat):Bool:=zO (q.at' i)&&(decide ((q.at' i).1<s1)&&(decide (i=0) || decide ((q.at' (i - 1)).1<(q.at' i).1)))
def spB (s:SpT):Bool:=btw 1 1099511627776 s.1&&(decide (s.2.1.n≤128)&&(okF (okM s.1 s.2.1) s.2.1.n 0&&decide (mV (tJ s.2.1) s.2.1.n 0≤64)))
theorem xO (n:Nat) (q:Sq sd) (hq:q.n≤1000000):∀ (d m i c:Nat),i+d=q.n→d<m→c≤i→Zb n m (c:Int) q (q.n:Int) (i:Int)=some (.out (((c+mV (tJ q) d i:Nat):Int)))
 | 0,m,i,c,hi,hm,hc=>by
  obtain ⟨m,rfl⟩:∃ p,m=p+1:=⟨m - 1,by omega⟩
  rw [Zb,og,if_neg (by simp;omega)];rfl
 | d+1,m,i,c,hi,hm,hc=>by
  obtain ⟨m,rfl⟩:∃ p,m=p+1:=⟨m - 1,by omega⟩
  have e1:=wr1 (k:=i) (by omega)
  have e2:=wr1 (k:=c) (by omega)
  rw [Zb,og,if_pos (decide_eq_true (by omega)),if_pos ⟨by omega,by omega⟩,e1,e2]
  rw [Int.toNat_natCast,O2]
  cases hb:(q.at' i).2.2.1 with
  | true=>
   have:tJ q i=false:=by unfold tJ;rw [hb];rfl
   rw [if_neg (by simp),xO n q hq d m (i+1) c (by omega) (by omega) (by omega),this]
   simp only [cond_false,Nat.zero_add]
  | false=>
   have:tJ q i=true:=by unfold tJ;rw [hb];rfl
   rw [if_pos (by rfl),xO n q hq d m (i+1) (c+1) (by omega) (by omega) (by omega),this]
   simp only [cond_true]
   congr 3;omega
theorem EX (n:Nat) (s:SpT) (hq:s.2.1.n≤1000000) (hn:10000000≤n):Ri n s=some ((mV (tJ s.2.1) s.2.1.n 0:Nat):Int):=by
 unfold Ri Po
 have:=xO n s.2.1 hq s.2.1.n n 0 0 (by omega) (by omega) (Nat.le_refl _)
 rw [show ((0:Nat):Int)=0 from rfl] at this
 rw [this,Nat.zero_add];rfl
theorem dab (n:Nat) (s1:Int) (q:Sq sd) (hs:∀ i,i<q.n→MailS 100000 (q.at' i)) (hq:q.n≤1000000) (hn:10000000≤n):∀ (d m i:Nat) (last:Int),i+d=q.n→d<m→last=(if i=0 then 0 else (q.at' (i - 1)).1)→
  De n m last q (q.n:Int) (i:Int) s1 q=some (if okF (okM s1 q) d i=true then .out (s1,q) else .ret false)
 | 0,m,i,last,hi,hm,hl=>by
  obtain ⟨m,rfl⟩:∃ p,m=p+1:=⟨m - 1,by omega⟩
  rw [De,sn,if_neg (by simp;omega)];rfl
 | d+1,m,i,last,hi,hm,hl=>by
  obtain ⟨m,rfl⟩:∃ p,m=p+1:=⟨m - 1,by omega⟩
  have e1:=wr1 (k:=i) (by omega)
  have hM:=Zhb n (q.at' i) (hs i (by omega)) hn
  rw [De,sn,if_pos (decide_eq_true (by omega)),if_pos ⟨by omega,by omega⟩,e1,Fe]
  simp only [Int.toNat_natCast]
  rw [D9,hM,Option.bind_some,show okM s1 q i=(zO (q.at' i)&&(decide ((q.at' i).1<s1)&&(decide (i=0) || decide ((q.at' (i - 1)).1<(q.at' i).1)))) from rfl]
  cases hb:zO (q.at' i) with
  | false=>rfl
  | true=>
   have hid:1≤(q.at' i).1:=by
    unfold zO btw at hb
    simp only [Bool.and_eq_true,decide_eq_true_eq] at hb
    exact hb.1.1
   have hlast:(decide (i=0) || decide ((q.at' (i - 1)).1<(q.at' i).1))=decide (last<(q.at' i).1):=by
    rw [hl]
    by_cases h0:i=0
    · subst h0
      simp only [decide_true,Bool.true_or,if_true]
      exact (decide_eq_true (by omega)).symm
    · rw [if_neg h0,decide_eq_false h0,Bool.false_or]
   rw [if_pos (by rfl),hlast,Bool.true_and]
   by_cases g1:(q.at' i).1≤last
   · rw [if_neg (by simpa using g1),decide_eq_false (show ¬(last<(q.at' i).1) by omega),Bool.and_false];rfl
   rw [if_pos (by simpa using g1),decide_eq_true (show last<(q.at' i).1 by omega),Bool.and_true]
   by_cases g2:(q.at' i).1≥s1
   · rw [if_pos (by simpa using g2),decide_eq_false (show ¬((q.at' i).1<s1) by omega)];rfl
   rw [if_neg (by simpa using g2),decide_eq_true (show (q.at' i).1<s1 by omega),Bool.true_and]
   exact dab n s1 q hs hq hn d m (i+1) _ (by omega) (by omega) (by rw [if_neg (by omega)];rfl)
theorem OZ (n:Nat) (s:SpT) (hs:SpS 100000 s) (hn:10000000≤n):mm n s=some (spB s):=by
 have hL:=dab n s.1 s.2.1 hs.m (by have:=hs.n;omega) hn s.2.1.n n 0 0 (by omega) (by have:=hs.n;omega) rfl
 rw [show ((0:Nat):Int)=0 from rfl] at hL
 have hl:=EX n s (by have:=hs.n;omega) hn
 unfold mm uC spB btw
 rw [hL]
 cases okF (okM s.1 s.2.1) s.2.1.n 0 with
 | false=>simp [onL]
 | true=>
  rw [if_pos rfl,Option.bind_some]
  simp only [onL]
  rw [Vdb,hl]
  by_cases g1:s.1≥1
  · rw [if_pos (by simpa using g1),decide_eq_true (show 1≤s.1 from g1),Bool.true_and]
    by_cases g2:s.1≤1099511627776
    · rw [if_pos (by simpa using g2),decide_eq_true g2,Bool.true_and]
      by_cases g3:s.2.1.n≤128
      · rw [if_pos (by simp;omega),decide_eq_true g3,Bool.true_and,Bool.true_and,Option.bind_some]
        congr 1
        exact decide_eq_decide.2 (by omega)
      · rw [if_neg (by simp;omega),decide_eq_false g3];rfl
    · rw [if_neg (by simpa using g2),decide_eq_false g2];rfl
  · rw [if_neg (by simpa using g1),decide_eq_false (show ¬(1≤s.1) from g1)];rfl
theorem vU (n:Nat) (s1:Int) (q:Sq sd) (hs:∀ i,i<q.n→MailS 100000 (q.at' i)) (hq:q.n≤1000000) (hn:10000000≤n):∀ (d m i c:Nat),i+d=q.n→d<m→c≤i→
  db n m (c:Int) (i:Int) s1 q=some (if okF (okM s1 q) d i=true then .out (((c+mV (tJ q) d i:Nat):Int)) else .ret false)
 | 0,m,i,c,hi,hm,hc=>by
  obtain ⟨m,rfl⟩:∃ p,m=p+1:=⟨m - 1,by omega⟩
  rw [db,uf,if_neg (by simp;omega)];rfl
 | d+1,m,i,c,hi,hm,hc=>by
  obtain ⟨m,rfl⟩:∃ p,m=p+1:=⟨m - 1,by omega⟩
  have e1:=wr1 (k:=i) (by omega)
  have e2:=wr1 (k:=c) (by omega)
  have hM:=Ueb n (q.at' i) (hs i (by omega)) hn
  have fin:(if (!(q.at' i).2.2.1)=true then db n m ((c+1:Nat):Int) ((i+1:Nat):Int) s1 q else db n m (c:Int) ((i+1:Nat):Int) s1 q)=some (if okF (okM s1 q) d (i+1)=true then .out (((c+mV (tJ q) (d+1) i:Nat):Int)) else .ret false):=by
   simp only [mV]
   cases hb:(q.at' i).2.2.1 with
   | true=>
    have:tJ q i=false:=by unfold tJ;rw [hb];rfl
    rw [if_neg (by simp),vU n s1 q hs hq hn d m (i+1) c (by omega) (by omega) (by omega),this]
    simp only [cond_false,Nat.zero_add]
   | false=>
    have:tJ q i=true:=by unfold tJ;rw [hb];rfl
    rw [if_pos (by rfl),vU n s1 q hs hq hn d m (i+1) (c+1) (by omega) (by omega) (by omega),this]
    simp only [cond_true]
    rw [show c+1+mV (tJ q) d (i+1)=c+(1+mV (tJ q) d (i+1)) by omega]
  rw [db,uf,if_pos (decide_eq_true (by omega)),if_pos ⟨by omega,by omega⟩,e1,e2,Fe]
  simp only [Int.toNat_natCast]
  rw [D9,hM,Option.bind_some,show okM s1 q i=(zO (q.at' i)&&(decide ((q.at' i).1<s1)&&(decide (i=0) || decide ((q.at' (i - 1)).1<(q.at' i).1)))) from rfl]
  cases hb:zO (q.at' i) with
  | false=>rfl
  | true=>
   rw [if_pos (by rfl),Bool.true_and]
   by_cases g2:(q.at' i).1≥s1
   · rw [if_neg (by simpa using g2),decide_eq_false (show ¬((q.at' i).1<s1) by omega)];rfl
   rw [if_pos (by simpa using g2),decide_eq_true (show (q.at' i).1<s1 by omega),Bool.true_and]
   by_cases h0:i=0
   · rw [if_neg (by simp;omega),decide_eq_true h0,Bool.true_or,Bool.true_and,fin]
   · have w1:IntKind.wrap .i64 ((i:Int) - 1)=((i - 1:Nat):Int):=by rw [wr (by omega) (by omega)];omega
     rw [if_pos (decide_eq_true (by omega)),w1,if_pos ⟨by omega,by omega⟩,decide_eq_false h0,Bool.false_or]
     simp only [Int.toNat_natCast]
     by_cases g3:(q.at' (i - 1)).1≥(q.at' i).1
     · rw [if_pos (by simpa using g3),decide_eq_false (show ¬((q.at' (i - 1)).1<(q.at' i).1) by omega)];rfl
     · rw [if_neg (by simpa using g3),decide_eq_true (show (q.at' (i - 1)).1<(q.at' i).1 by omega),Bool.true_and,fin]
theorem wdb (n:Nat) (s:SpT) (hs:SpS 100000 s) (hn:10000000≤n):lj n s=some (spB s):=by
 have hL:=vU n s.1 s.2.1 hs.m (by have:=hs.n;omega) hn s.2.1.n n 0 0 (by omega) (by have:=hs.n;omega) (Nat.le_refl _)
 rw [show ((0:Nat):Int)=0 from rfl,Nat.zero_add] at hL
 unfold lj tm spB btw
 rw [hL]
 by_cases g1:s.1<1
 · rw [if_neg (by simpa using g1),decide_eq_false (show ¬(1≤s.1) by omega)];rfl
 rw [if_pos (by simpa using g1),decide_eq_true (show 1≤s.1 by omega),Bool.true_and]
 by_cases g2:s.1>1099511627776
 · rw [if_neg (by simpa using g2),decide_eq_false (show ¬(s.1≤1099511627776) by omega)];rfl
 rw [if_pos (by simpa using g2),decide_eq_true (show s.1≤1099511627776 by omega),Bool.true_and]
 by_cases g3:s.2.1.n≤128
 · rw [if_neg (by simp;omega),decide_eq_true g3,Bool.true_and]
   cases okF (okM s.1 s.2.1) s.2.1.n 0 with
   | false=>rfl
   | true=>
    simp only [if_true,Option.bind_some,onL,Bool.true_and]
    congr 1
    exact decide_eq_decide.2 (by omega)
 · rw [if_pos (by simp;omega),decide_eq_false g3];rfl
def Jjb (m:sd) (k:Nat):Int:=(m.2.2.2.2.1.at' k).2.1
def cW (m:sd):Bool:=okF (fun k=>!(Jjb m k==0 || Jjb m k==1)) m.2.2.2.2.1.n 0
theorem T9 (n:Nat) (m1 m2:Int) (m3:Bool) (m4 m5:BA) (q:Sq RcT) (m7:BA) (m8:Int) (m9 m10:Bool) (hq:q.n≤1000000):∀ (d m i:Nat),i+d=q.n→d<m→
  wb n m (i:Int) m1 m2 m3 m4 m5 q m7 m8 m9 m10=some (if okF (fun k=>!((q.at' k).2.1==0 || (q.at' k).2.1==1)) d i=true then .out () else .ret false)
 | 0,m,i,hi,hm=>by
  obtain ⟨m,rfl⟩:∃ p,m=p+1:=⟨m - 1,by omega⟩
  rw [wb,Je,if_neg (by simp;omega)];rfl
 | d+1,m,i,hi,hm=>by
  obtain ⟨m,rfl⟩:∃ p,m=p+1:=⟨m - 1,by omega⟩
  have e1:=wr1 (k:=i) (by omega)
  rw [wb,Je,if_pos (decide_eq_true (by omega)),if_pos ⟨by omega,by omega⟩,e1,Fe,Int.toNat_natCast]
  cases h0:((q.at' i).2.1==(0:Int)) with
  | true=>rfl
  | false=>
   rw [if_pos rfl,if_pos ⟨by omega,by omega⟩,Bool.false_or]
   cases h1:((q.at' i).2.1==(1:Int)) with
   | true=>rfl
   | false=>
    rw [if_neg (by simp),Bool.not_false,Bool.true_and]
    exact T9 n m1 m2 m3 m4 m5 q m7 m8 m9 m10 hq d m (i+1) (by omega) (by omega)
theorem Veb (n:Nat) (m:sd) (hq:m.2.2.2.2.1.n≤1000000) (hn:10000000≤n):uh n m=some (cW m):=by
 have hL:=T9 n m.1 m.2.1 m.2.2.1 m.2.2.2.1.1 m.2.2.2.1.2.1 m.2.2.2.2.1 m.2.2.2.2.2.1 m.2.2.2.2.2.2.1 m.2.2.2.2.2.2.2.1 m.2.2.2.2.2.2.2.2.1 hq m.2.2.2.2.1.n n 0 (by omega) (by omega)
 rw [show ((0:Nat):Int)=0 from rfl] at hL
 unfold uh Zk cW Jjb
 rw [hL]
 cases okF (fun k=>!((m.2.2.2.2.1.at' k).2.1==0 || (m.2.2.2.2.1.at' k).2.1==1)) m.2.2.2.2.1.n 0<;>rfl
def Qgb (st:Sq Int) (v:Int):Bool:=!okF (fun j=>!(v==st.at' j)) st.n 0
theorem F8 (n:Nat) (st:Sq Int) (v:Int) (hq:st.n≤1000000):∀ (d m i:Nat),i+d=st.n→d<m→
  (okF (fun j=>!(v==st.at' j)) d i=true→Ga n m st v (st.n:Int) (i:Int)=some (.out ()))∧(okF (fun j=>!(v==st.at' j)) d i=false→∃ k:Nat,Ga n m st v (st.n:Int) (i:Int)=some (.ret (k:Int)))
 | 0,m,i,hi,hm=>by
  obtain ⟨m,rfl⟩:∃ p,m=p+1:=⟨m - 1,by omega⟩
  rw [Ga,Gc,if_neg (by simp;omega)]
  exact ⟨fun _=>rfl,fun h=>(by cases h)⟩
 | d+1,m,i,hi,hm=>by
  obtain ⟨m,rfl⟩:∃ p,m=p+1:=⟨m - 1,by omega⟩
  have e1:=wr1 (k:=i) (by omega)
  rw [Ga,Gc,if_pos (decide_eq_true (by omega)),if_pos ⟨by omega,by omega⟩,e1,Fe,Int.toNat_natCast]
  cases h0:(v==st.at' i) with
  | true=>rw [if_pos rfl];exact ⟨fun h=>(by cases h),fun _=>⟨i,rfl⟩⟩
  | false=>
   rw [if_neg (by simp),Bool.not_false,Bool.true_and]
   exact F8 n st v hq d m (i+1) (by omega) (by omega)
theorem o6 (n:Nat) (st:Sq Int) (v:Int) (hq:st.n≤1000000) (hn:10000000≤n):Fc n st v=some (Qgb st v):=by
 have hL:=F8 n st v hq st.n n 0 (by omega) (by omega)
 rw [show ((0:Nat):Int)=0 from rfl] at hL
 unfold Fc we We fg Qgb
 cases h:okF (fun j=>!(v==st.at' j)) st.n 0 with
 | true=>rw [hL.1 h];rfl
 | false=>
  obtain ⟨k,hk⟩:=hL.2 h
  rw [hk]
  simp only [Option.bind_some,onL]
  rw [decide_eq_true (by omega)];rfl
def fmb (m:sd) (st:Sq Int):Bool:=!okF (fun k=>!Qgb st (Jjb m k)) m.2.2.2.2.1.n 0
theorem aQ (n:Nat) (q:Sq RcT) (st:Sq Int) (hq:q.n≤1000000) (hst:st.n≤1000000) (hn:10000000≤n):∀ (d m i:Nat),i+d=q.n→d<m→
  (okF (fun k=>!Qgb st (q.at' k).2.1) d i=true→sa n m q (q.n:Int) (i:Int) st=some (.out ()))∧(okF (fun k=>!Qgb st (q.at' k).2.1) d i=false→∃ k:Nat,sa n m q (q.n:Int) (i:Int) st=some (.ret (k:Int)))
 | 0,m,i,hi,hm=>by
  obtain ⟨m,rfl⟩:∃ p,m=p+1:=⟨m - 1,by omega⟩
  rw [sa,Ia,if_neg (by simp;omega)]
  exact ⟨fun _=>rfl,fun h=>(by cases h)⟩
 | d+1,m,i,hi,hm=>by
  obtain ⟨m,rfl⟩:∃ p,m=p+1:=⟨m - 1,by omega⟩
  have e1:=wr1 (k:=i) (by omega)
  rw [sa,Ia,if_pos (decide_eq_true (by omega)),if_pos ⟨by omega,by omega⟩,e1,Fe]
  simp only [Int.toNat_natCast,Sk,Mn,o6 n st _ hst hn,Option.bind_some]
  cases h0:Qgb st (q.at' i).2.1 with
  | true=>rw [if_pos rfl];exact ⟨fun h=>(by cases h),fun _=>⟨i,rfl⟩⟩
  | false=>
   rw [if_neg (by simp),Bool.not_false,Bool.true_and]
   exact aQ n q st hq hst hn d m (i+1) (by omega) (by omega)
theorem Ljb (n:Nat) (m:sd) (st:Sq Int) (hq:m.2.2.2.2.1.n≤1000000) (hst:st.n≤1000000) (hn:10000000≤n):lG n m st=some (fmb m st):=by
 have hL:=aQ n m.2.2.2.2.1 st hq hst hn m.2.2.2.2.1.n n 0 (by omega) (by omega)
 rw [show ((0:Nat):Int)=0 from rfl] at hL
 unfold lG mG Ha eb Ma Db fmb Jjb
 cases h:okF (fun k=>!Qgb st (m.2.2.2.2.1.at' k).2.1) m.2.2.2.2.1.n 0 with
 | true=>rw [hL.1 h];rfl
 | false=>
  obtain ⟨k,hk⟩:=hL.2 h
  rw [hk]
  simp only [Option.bind_some,onL]
  rw [decide_eq_true (by omega)];rfl
theorem Nbb (n:Nat) (m:sd) (hq:m.2.2.2.2.1.n≤1000000) (hn:10000000≤n):Fp n m=some (cW m):=by
 unfold Fp zt
 rw [D9,Ljb n m _ hq (by decide) hn,Option.bind_some]
 unfold fmb cW
 rw [Bool.not_not]
 congr 1
 refine Rn fun k _ _=>?_
 unfold Qgb
 simp only [okF,List.getD]
 rw [Bool.not_not]
 show _=_
 simp only [Bool.not_or,Bool.and_true]
 rfl
def vmb (m:sd):Int:=(m.2.2.2.2.2.1.size:Int)
def usF (t:Int) (q:Sq sd):Nat→Nat→Int→Int→Int×Int
 | 0,_,c,b=>(c,b)
 | d+1,i,c,b=>if ((q.at' i).2.1==t&&!cW (q.at' i))=true then usF t q d (i+1) (c+1) (b+(vmb (q.at' i)+1000)) else usF t q d (i+1) c b
def bd (i:Nat):Int:=(i:Int)*101000
theorem bd0:bd 0=0:=rfl
theorem bd1 (i:Nat):bd (i+1)=bd i+101000:=by unfold bd;omega
theorem bd2 {i:Nat} (h:i≤1000000):bd i≤101000000000:=by unfold bd;omega
theorem Ndb (t:Int) (q:Sq sd) (hs:∀ i,i<q.n→MailS 100000 (q.at' i)):∀ (d i:Nat) (c b:Int),i+d=q.n→0≤c→c≤i→0≤b→b≤bd i→(0≤(usF t q d i c b).1∧(usF t q d i c b).1≤q.n)∧0≤(usF t q d i c b).2∧(usF t q d i c b).2≤bd q.n:=by
 intro d
 induction d with
 | zero=>
  intro i c b hi h1 h2 h3 h4
  simp only [usF]
  have:i=q.n:=by omega
  subst this
  exact ⟨⟨h1,h2⟩,h3,h4⟩
 | succ d ih=>
  intro i c b hi h1 h2 h3 h4
  have hb:=(hs i (by omega)).body
  have hz:vmb (q.at' i)=((q.at' i).2.2.2.2.2.1.size:Int):=rfl
  have hd:=bd1 i
  simp only [usF]
  split
  · exact ih (i+1) _ _ (by omega) (by omega) (by omega) (by omega) (by omega)
  · exact ih (i+1) _ _ (by omega) (by omega) (by omega) (by omega) (by omega)
theorem mhb (n:Nat) (t:Int) (q:Sq sd) (hs:∀ i,i<q.n→MailS 100000 (q.at' i)) (hq:q.n≤1000000) (hn:10000000≤n):∀ (d m i:Nat) (c b:Int),i+d=q.n→d<m→0≤c→c≤i→0≤b→b≤bd i→
  Kd n m t c b q (q.n:Int) (i:Int)=some (.out (usF t q d i c b)):=by
 intro d
 induction d with
 | zero=>
  intro m i c b hi hm h1 h2 h3 h4
  obtain ⟨m,rfl⟩:∃ p,m=p+1:=⟨m - 1,by omega⟩
  rw [Kd,Fl,if_neg (by simp;omega)];rfl
 | succ d ih=>
  intro m i c b hi hm h1 h2 h3 h4
  obtain ⟨m,rfl⟩:∃ p,m=p+1:=⟨m - 1,by omega⟩
  have e1:=wr1 (k:=i) (by omega)
  have hb:=(hs i (by omega)).body
  have hd:=bd1 i
  have hd2:=bd2 (i:=i) (by omega)
  have hO:=Nbb n (q.at' i) (by have:=(hs i (by omega)).rn;omega) hn
  have w1:IntKind.wrap .i64 (c+1)=c+1:=wr (by omega) (by omega)
  have w2:IntKind.wrap .i64 (((q.at' i).2.2.2.2.2.1.size:Int)+1000)=((q.at' i).2.2.2.2.2.1.size:Int)+1000:=wr (by omega) (by omega)
  have w3:IntKind.wrap .i64 (b+(((q.at' i).2.2.2.2.2.1.size:Int)+1000))=b+(((q.at' i).2.2.2.2.2.1.size:Int)+1000):=wr (by omega) (by omega)
  rw [Kd,Fl,if_pos (decide_eq_true (by omega)),if_pos ⟨by omega,by omega⟩,e1,w1]
  simp only [Int.toNat_natCast,usF]
  rw [D9,hO,Option.bind_some]
  simp only [Hp,Kq,Option.bind_some,w2,w3]
  cases h0:((q.at' i).2.1==t) with
  | false=>
   rw [if_neg (by simp),if_neg (by simp)]
   exact ih m (i+1) c b (by omega) (by omega) (by omega) (by omega) (by omega) (by omega)
  | true=>
   rw [if_pos rfl,Bool.true_and]
   cases h5:cW (q.at' i) with
   | true=>
    rw [if_neg (by simp),if_neg (by simp)]
    exact ih m (i+1) c b (by omega) (by omega) (by omega) (by omega) (by omega) (by omega)
   | false=>
    rw [if_pos (by rfl),if_pos (by rfl)]
    exact ih m (i+1) _ _ (by omega) (by omega) (by omega) (by omega) (by omega) (by omega)
theorem Ubb (n:Nat) (s:SpT) (t:Int) (hs:SpS 100000 s) (hn:10000000≤n):Zp n s t=some ((usF t s.2.1 s.2.1.n 0 0 0).1,((usF t s.2.1 s.2.1.n 0 0 0).2,())):=by
 have hL:=mhb n t s.2.1 hs.m (by have:=hs.n;omega) hn s.2.1.n n 0 0 0 (by omega) (by have:=hs.n;omega) (by omega) (by omega) (by omega) (by rw [bd0];omega)
 rw [show ((0:Nat):Int)=0 from rfl] at hL
 unfold Zp Ux
 rw [hL];rfl
theorem Xeb (n:Nat) (t s1:Int) (q:Sq sd) (hs:∀ i,i<q.n→MailS 100000 (q.at' i)) (hq:q.n≤1000000) (hn:10000000≤n):∀ (d m i:Nat) (c b:Int),i+d=q.n→d<m→0≤c→c≤i→0≤b→b≤bd i→
  Bb n m t c b (i:Int) s1 q=some (.out (usF t q d i c b)):=by
 intro d
 induction d with
 | zero=>
  intro m i c b hi hm h1 h2 h3 h4
  obtain ⟨m,rfl⟩:∃ p,m=p+1:=⟨m - 1,by omega⟩
  rw [Bb,Ne,if_neg (by simp;omega)];rfl
 | succ d ih=>
  intro m i c b hi hm h1 h2 h3 h4
  obtain ⟨m,rfl⟩:∃ p,m=p+1:=⟨m - 1,by omega⟩
  have e1:=wr1 (k:=i) (by omega)
  have hb:=(hs i (by omega)).body
  have hd:=bd1 i
  have hd2:=bd2 (i:=i) (by omega)
  have hO:=Veb n (q.at' i) (by have:=(hs i (by omega)).rn;omega) hn
  have w1:IntKind.wrap .i64 (c+1)=c+1:=wr (by omega) (by omega)
  have w2:IntKind.wrap .i64 (((q.at' i).2.2.2.2.2.1.size:Int)+1000)=((q.at' i).2.2.2.2.2.1.size:Int)+1000:=wr (by omega) (by omega)
  have w3:IntKind.wrap .i64 (b+(((q.at' i).2.2.2.2.2.1.size:Int)+1000))=b+(((q.at' i).2.2.2.2.2.1.size:Int)+1000):=wr (by omega) (by omega)
  rw [Bb,Ne,if_pos (decide_eq_true (by omega)),if_pos ⟨by omega,by omega⟩,e1,w1]
  simp only [Int.toNat_natCast,usF]
  rw [D9,hO,Option.bind_some]
  simp only [Wj,Xk,Option.bind_some,w2,w3]
  cases h0:((q.at' i).2.1==t) with
  | false=>
   rw [if_neg (by simp),if_neg (by simp)]
   exact ih m (i+1) c b (by omega) (by omega) (by omega) (by omega) (by omega) (by omega)
  | true=>
   rw [if_pos (by rfl),if_pos (by constructor<;>omega),Bool.true_and]
   cases h5:cW (q.at' i) with
   | true=>
    rw [if_neg (by simp),if_neg (by simp)]
    exact ih m (i+1) c b (by omega) (by omega) (by omega) (by omega) (by omega) (by omega)
   | false=>
    rw [if_pos (by rfl),if_pos (by constructor<;>omega),if_pos (by rfl)]
    exact ih m (i+1) _ _ (by omega) (by omega) (by omega) (by omega) (by omega) (by omega)
theorem V9 (n:Nat) (s:SpT) (t:Int) (hs:SpS 100000 s) (hn:10000000≤n):Lf n s t=some ((usF t s.2.1 s.2.1.n 0 0 0).1,((usF t s.2.1 s.2.1.n 0 0 0).2,())):=by
 have hL:=Xeb n t s.1 s.2.1 hs.m (by have:=hs.n;omega) hn s.2.1.n n 0 0 0 (by omega) (by have:=hs.n;omega) (by omega) (by omega) (by omega) (by rw [bd0];omega)
 rw [show ((0:Nat):Int)=0 from rfl] at hL
 unfold Lf el
 rw [hL];rfl
open Go Go.RowKit
abbrev BkT:Type:=(Int×(Int×(Int×(Int×(Int×Unit)))))
abbrev TnT:Type:=(BA×(Int×(Int×(Int×(BkT×(Bool×Unit))))))
abbrev CfT:Type:=((Sq TnT)×(BA×(Int×(Int×((Sq Int)×(Int×(Int×(Nat×Unit))))))))
abbrev bkK:CTy:=(.pair (.int .i64) (.pair (.int .i64) (.pair (.int .i64) (.pair (.int .i64) (.pair (.int .i64) .unit)))))
abbrev tnK:CTy:=(.pair .str (.pair (.int .i64) (.pair (.int .i64) (.pair (.int .i64) (.pair bkK (.pair .bool .unit))))))
abbrev rcK:CTy:=(.pair (.pair .str (.pair .str .unit)) (.pair (.int .i64) (.pair (.int .i64) (.pair (.int .i64) (.pair (.int .i64) .unit)))))
abbrev mlK:CTy:=(.pair (.int .i64) (.pair (.int .i64) (.pair .bool (.pair (.pair .str (.pair .str .unit)) (.pair (.sl rcK) (.pair .str (.pair (.int .i64) (.pair .bool (.pair .bool .unit)))))))))
theorem XP (n:Nat) (q:Sq (RcT)) (hq:q.n≤1000000):∀ (d m i:Nat) (r:Sq (RcT)),i+d=q.n→d<m→r.n=i→(∀ k,k<i→r.at' k=q.at' k)→
  ∃ r',wc n m q (i:Int) r=some (.out r')∧r'.n=q.n∧∀ k,k<q.n→r'.at' k=q.at' k
 | 0,m,i,r,hi,hm,h1,h2=>by
  obtain ⟨m,rfl⟩:∃ p,m=p+1:=⟨m - 1,by omega⟩
  rw [wc,Ah,if_neg (by simp;omega)]
  exact ⟨r,rfl,by omega,fun k hk=>h2 k (by omega)⟩
 | d+1,m,i,r,hi,hm,h1,h2=>by
  obtain ⟨m,rfl⟩:∃ p,m=p+1:=⟨m - 1,by omega⟩
  have e1:=wr1 (k:=i) (by omega)
  rw [wc,Ah,if_pos (decide_eq_true (by omega)),if_pos ⟨by omega,by omega⟩,if_pos (by unfold Rb;simp only [Bool.and_eq_true,Nat.ble_eq];omega),e1,Int.toNat_natCast]
  refine XP n q hq d m (i+1) _ (by omega) (by omega) (by show r.n+1=i+1;omega) fun k hk=>?_
  show (if k<r.n then r.at' k else _)=_
  by_cases e:k<i
  · rw [if_pos (by omega)];exact h2 k e
  · have e:k=i:=by omega
    subst e
    rw [if_neg (by omega),h1,Nat.sub_self];rfl
theorem Q0 (n:Nat) (q:Sq (RcT)) (hq:q.n≤1000000) (hn:10000000≤n):∃ r',Vm n q=some r'∧r'.n=q.n∧∀ k,k<q.n→r'.at' k=q.at' k:=by
 obtain ⟨r',h1,h2⟩:=XP n q hq q.n n 0 (⟨0,fun _=>Ba rcK⟩:Sq (RcT)) (by omega) (by omega) rfl (fun k hk=>by omega)
 rw [show ((0:Nat):Int)=0 from rfl] at h1
 refine ⟨r',?_,h2⟩
 unfold Vm lq
 rw [h1];rfl
theorem gX (n:Nat) (a b:Sq (RcT)) (hq:a.n≤1000000) (hab:a.n=b.n) (he:∀ k,k<a.n→a.at' k=b.at' k):∀ (d m i:Nat),i+d=a.n→d<m→Cd n m a b (i:Int)=some (.out ())
 | 0,m,i,hi,hm=>by
  obtain ⟨m,rfl⟩:∃ p,m=p+1:=⟨m - 1,by omega⟩
  rw [Cd,ul,if_neg (by simp;omega)]
 | d+1,m,i,hi,hm=>by
  obtain ⟨m,rfl⟩:∃ p,m=p+1:=⟨m - 1,by omega⟩
  have e1:=wr1 (k:=i) (by omega)
  rw [Cd,ul,if_pos (decide_eq_true (by omega)),if_pos ⟨by omega,by omega⟩,if_pos ⟨by omega,by omega⟩,e1,Int.toNat_natCast,he i (by omega),if_neg (by simp)]
  exact gX n a b hq hab he d m (i+1) (by omega) (by omega)
theorem rab (n:Nat) (a b:Sq (RcT)) (hq:a.n≤1000000) (hab:a.n=b.n) (he:∀ k,k<a.n→a.at' k=b.at' k) (hn:10000000≤n):lu n a b=some true:=by
 have h1:=gX n a b hq hab he a.n n 0 (by omega) (by omega)
 rw [show ((0:Nat):Int)=0 from rfl] at h1
 unfold lu rx
 rw [if_neg (by simp [hab]),h1];rfl
theorem eI (n:Nat) (q:Sq (TnT)) (hq:q.n≤1000000):∀ (d m i:Nat) (r:Sq (TnT)),i+d=q.n→d<m→r.n=i→(∀ k,k<i→r.at' k=q.at' k)→
  ∃ r',Kb n m q (i:Int) r=some (.out r')∧r'.n=q.n∧∀ k,k<q.n→r'.at' k=q.at' k
 | 0,m,i,r,hi,hm,h1,h2=>by
  obtain ⟨m,rfl⟩:∃ p,m=p+1:=⟨m - 1,by omega⟩
  rw [Kb,zf,if_neg (by simp;omega)]
  exact ⟨r,rfl,by omega,fun k hk=>h2 k (by omega)⟩
 | d+1,m,i,r,hi,hm,h1,h2=>by
  obtain ⟨m,rfl⟩:∃ p,m=p+1:=⟨m - 1,by omega⟩
  have e1:=wr1 (k:=i) (by omega)
  rw [Kb,zf,if_pos (decide_eq_true (by omega)),if_pos ⟨by omega,by omega⟩,if_pos (by unfold Rb;simp only [Bool.and_eq_true,Nat.ble_eq];omega),e1,Int.toNat_natCast]
  refine eI n q hq d m (i+1) _ (by omega) (by omega) (by show r.n+1=i+1;omega) fun k hk=>?_
  show (if k<r.n then r.at' k else _)=_
  by_cases e:k<i
  · rw [if_pos (by omega)];exact h2 k e
  · have e:k=i:=by omega
    subst e
    rw [if_neg (by omega),h1,Nat.sub_self];rfl
theorem qV (n:Nat) (q:Sq (TnT)) (hq:q.n≤1000000) (hn:10000000≤n):∃ r',nj n q=some r'∧r'.n=q.n∧∀ k,k<q.n→r'.at' k=q.at' k:=by
 obtain ⟨r',h1,h2⟩:=eI n q hq q.n n 0 (⟨0,fun _=>Ba tnK⟩:Sq (TnT)) (by omega) (by omega) rfl (fun k hk=>by omega)
 rw [show ((0:Nat):Int)=0 from rfl] at h1
 refine ⟨r',?_,h2⟩
 unfold nj vm
 rw [h1];rfl
theorem ZP (n:Nat) (a b:Sq (TnT)) (hq:a.n≤1000000) (hab:a.n=b.n) (he:∀ k,k<a.n→a.at' k=b.at' k):∀ (d m i:Nat),i+d=a.n→d<m→zc n m a b (i:Int)=some (.out ())
 | 0,m,i,hi,hm=>by
  obtain ⟨m,rfl⟩:∃ p,m=p+1:=⟨m - 1,by omega⟩
  rw [zc,Dh,if_neg (by simp;omega)]
 | d+1,m,i,hi,hm=>by
  obtain ⟨m,rfl⟩:∃ p,m=p+1:=⟨m - 1,by omega⟩
  have e1:=wr1 (k:=i) (by omega)
  rw [zc,Dh,if_pos (decide_eq_true (by omega)),if_pos ⟨by omega,by omega⟩,if_pos ⟨by omega,by omega⟩,e1,Int.toNat_natCast,he i (by omega),if_neg (by simp)]
  exact ZP n a b hq hab he d m (i+1) (by omega) (by omega)
theorem X0 (n:Nat) (a b:Sq (TnT)) (hq:a.n≤1000000) (hab:a.n=b.n) (he:∀ k,k<a.n→a.at' k=b.at' k) (hn:10000000≤n):Xm n a b=some true:=by
 have h1:=ZP n a b hq hab he a.n n 0 (by omega) (by omega)
 rw [show ((0:Nat):Int)=0 from rfl] at h1
 unfold Xm oq
 rw [if_neg (by simp [hab]),h1];rfl
theorem dI (n:Nat) (q:Sq (Int)) (hq:q.n≤1000000):∀ (d m i:Nat) (r:Sq (Int)),i+d=q.n→d<m→r.n=i→(∀ k,k<i→r.at' k=q.at' k)→
  ∃ r',Jb n m q (i:Int) r=some (.out r')∧r'.n=q.n∧∀ k,k<q.n→r'.at' k=q.at' k
 | 0,m,i,r,hi,hm,h1,h2=>by
  obtain ⟨m,rfl⟩:∃ p,m=p+1:=⟨m - 1,by omega⟩
  rw [Jb,xf,if_neg (by simp;omega)]
  exact ⟨r,rfl,by omega,fun k hk=>h2 k (by omega)⟩
 | d+1,m,i,r,hi,hm,h1,h2=>by
  obtain ⟨m,rfl⟩:∃ p,m=p+1:=⟨m - 1,by omega⟩
  have e1:=wr1 (k:=i) (by omega)
  rw [Jb,xf,if_pos (decide_eq_true (by omega)),if_pos ⟨by omega,by omega⟩,if_pos (by unfold Rb;simp only [Bool.and_eq_true,Nat.ble_eq];omega),e1,Int.toNat_natCast]
  refine dI n q hq d m (i+1) _ (by omega) (by omega) (by show r.n+1=i+1;omega) fun k hk=>?_
  show (if k<r.n then r.at' k else _)=_
  by_cases e:k<i
  · rw [if_pos (by omega)];exact h2 k e
  · have e:k=i:=by omega
    subst e
    rw [if_neg (by omega),h1,Nat.sub_self];rfl
theorem pV (n:Nat) (q:Sq (Int)) (hq:q.n≤1000000) (hn:10000000≤n):∃ r',mj n q=some r'∧r'.n=q.n∧∀ k,k<q.n→r'.at' k=q.at' k:=by
 obtain ⟨r',h1,h2⟩:=dI n q hq q.n n 0 (⟨0,fun _=>Ba (.int .i64)⟩:Sq (Int)) (by omega) (by omega) rfl (fun k hk=>by omega)
 rw [show ((0:Nat):Int)=0 from rfl] at h1
 refine ⟨r',?_,h2⟩
 unfold mj um
 rw [h1];rfl
theorem YP (n:Nat) (a b:Sq (Int)) (hq:a.n≤1000000) (hab:a.n=b.n) (he:∀ k,k<a.n→a.at' k=b.at' k):∀ (d m i:Nat),i+d=a.n→d<m→yc n m a b (i:Int)=some (.out ())
 | 0,m,i,hi,hm=>by
  obtain ⟨m,rfl⟩:∃ p,m=p+1:=⟨m - 1,by omega⟩
  rw [yc,Ch,if_neg (by simp;omega)]
 | d+1,m,i,hi,hm=>by
  obtain ⟨m,rfl⟩:∃ p,m=p+1:=⟨m - 1,by omega⟩
  have e1:=wr1 (k:=i) (by omega)
  rw [yc,Ch,if_pos (decide_eq_true (by omega)),if_pos ⟨by omega,by omega⟩,if_pos ⟨by omega,by omega⟩,e1,Int.toNat_natCast,he i (by omega),if_neg (by simp)]
  exact YP n a b hq hab he d m (i+1) (by omega) (by omega)
theorem S0 (n:Nat) (a b:Sq (Int)) (hq:a.n≤1000000) (hab:a.n=b.n) (he:∀ k,k<a.n→a.at' k=b.at' k) (hn:10000000≤n):Wm n a b=some true:=by
 have h1:=YP n a b hq hab he a.n n 0 (by omega) (by omega)
 rw [show ((0:Nat):Int)=0 from rfl] at h1
 unfold Wm nq
 rw [if_neg (by simp [hab]),h1];rfl
structure ME (a b:sd):Prop where
 c1:a.1=b.1
 c2:a.2.1=b.2.1
 c3:a.2.2.1=b.2.2.1
 c4:a.2.2.2.1.1=b.2.2.2.1.1
 c5:a.2.2.2.1.2.1=b.2.2.2.1.2.1
 rn:a.2.2.2.2.1.n=b.2.2.2.2.1.n
 rc:∀ k,k<a.2.2.2.2.1.n→a.2.2.2.2.1.at' k=b.2.2.2.2.1.at' k
 c6:a.2.2.2.2.2.1=b.2.2.2.2.2.1
 c7:a.2.2.2.2.2.2.1=b.2.2.2.2.2.2.1
 c8:a.2.2.2.2.2.2.2.1=b.2.2.2.2.2.2.2.1
 c9:a.2.2.2.2.2.2.2.2.1=b.2.2.2.2.2.2.2.2.1
structure SE (a b:SpT):Prop where
 c1:a.1=b.1
 n:a.2.1.n=b.2.1.n
 m:∀ k,k<a.2.1.n→ME (a.2.1.at' k) (b.2.1.at' k)
structure CE (a b:CfT):Prop where
 tn:a.1.n=b.1.n
 t:∀ k,k<a.1.n→a.1.at' k=b.1.at' k
 c2:a.2.1=b.2.1
 c3:a.2.2.1=b.2.2.1
 c4:a.2.2.2.1=b.2.2.2.1
 bn:a.2.2.2.2.1.n=b.2.2.2.2.1.n
 bk:∀ k,k<a.2.2.2.2.1.n→a.2.2.2.2.1.at' k=b.2.2.2.2.1.at' k
 c6:a.2.2.2.2.2.1=b.2.2.2.2.2.1
 c7:a.2.2.2.2.2.2.1=b.2.2.2.2.2.2.1
 c8:a.2.2.2.2.2.2.2.1=b.2.2.2.2.2.2.2.1
theorem ME.refl (a:sd):ME a a:=⟨rfl,rfl,rfl,rfl,rfl,rfl,fun _ _=>rfl,rfl,rfl,rfl,rfl⟩
theorem ME.symm {a b:sd} (h:ME a b):ME b a:=⟨h.c1.symm,h.c2.symm,h.c3.symm,h.c4.symm,h.c5.symm,h.rn.symm,fun k hk=>(h.rc k (by rw [h.rn];exact hk)).symm,h.c6.symm,h.c7.symm,h.c8.symm,h.c9.symm⟩
theorem ME.trans {a b c:sd} (h:ME a b) (g:ME b c):ME a c:=⟨h.c1.trans g.c1,h.c2.trans g.c2,h.c3.trans g.c3,h.c4.trans g.c4,h.c5.trans g.c5,h.rn.trans g.rn,fun k hk=>(h.rc k hk).trans (g.rc k (by rw [←h.rn];exact hk)),h.c6.trans g.c6,h.c7.trans g.c7,h.c8.trans g.c8,h.c9.trans g.c9⟩
theorem SE.refl (a:SpT):SE a a:=⟨rfl,rfl,fun _ _=>.refl _⟩
theorem SE.symm {a b:SpT} (h:SE a b):SE b a:=⟨h.c1.symm,h.n.symm,fun k hk=>(h.m k (by rw [h.n];exact hk)).symm⟩
theorem SE.trans {a b c:SpT} (h:SE a b) (g:SE b c):SE a c:=⟨h.c1.trans g.c1,h.n.trans g.n,fun k hk=>(h.m k hk).trans (g.m k (by rw [←h.n];exact hk))⟩
theorem CE.refl (a:CfT):CE a a:=⟨rfl,fun _ _=>rfl,rfl,rfl,rfl,rfl,fun _ _=>rfl,rfl,rfl,rfl⟩
theorem MailS.of {B:Nat} {a b:sd} (h:MailS B b) (e:ME a b):MailS B a:=⟨by rw [e.c6];exact h.body,by rw [e.c4];exact h.fl,by rw [e.c5];exact h.fd,by rw [e.rn];exact h.rn,fun i hi=>by rw [e.rc i hi];exact h.rc i (by rw [←e.rn];exact hi)⟩
theorem MailS.mono {B C:Nat} {a:sd} (h:MailS B a) (hb:B≤C):MailS C a:=⟨Nat.le_trans h.body hb,Nat.le_trans h.fl hb,Nat.le_trans h.fd hb,Nat.le_trans h.rn hb,fun i hi=>⟨Nat.le_trans (h.rc i hi).1 hb,Nat.le_trans (h.rc i hi).2 hb⟩⟩
theorem SpS.of {B:Nat} {a b:SpT} (h:SpS B b) (e:SE a b):SpS B a:=⟨by rw [e.n];exact h.n,fun i hi=>(h.m i (by rw [←e.n];exact hi)).of (e.m i hi)⟩
theorem SpS.mono {B C:Nat} {a:SpT} (h:SpS B a) (hb:B≤C):SpS C a:=⟨Nat.le_trans h.n hb,fun i hi=>(h.m i hi).mono hb⟩
theorem rbb {p q:Sq RcT} {i:Nat} (h:∀ k,k≤i→p.at' k=q.at' k):V7 p i=V7 q i:=by
 unfold V7
 rw [h i (Nat.le_refl _)]
 congr 1
 exact Rn fun k _ hk=>by rw [h k (by omega)]
theorem f7 {a b:sd} (h:ME a b):zO a=zO b:=by
 unfold zO reb Ajb
 rw [h.c1,h.c2,h.c3,h.c4,h.c5,h.c6,h.c7,h.rn]
 have:okF (V7 a.2.2.2.2.1) b.2.2.2.2.1.n 0=okF (V7 b.2.2.2.2.1) b.2.2.2.2.1.n 0:=Rn fun k _ hk=>rbb fun j hj=>h.rc j (by rw [h.rn];omega)
 rw [this]
theorem C7 {a b:sd} (h:ME a b):cW a=cW b:=by
 unfold cW Jjb
 rw [h.rn]
 exact Rn fun k _ hk=>by rw [h.rc k (by rw [h.rn];omega)]
theorem fdb {s1:Int} {p q:Sq sd} {i:Nat} (h:∀ k,k≤i→ME (p.at' k) (q.at' k)):okM s1 p i=okM s1 q i:=by
 unfold okM
 rw [f7 (h i (Nat.le_refl _)),(h i (Nat.le_refl _)).c1,(h (i - 1) (by omega)).c1]
theorem DX {p q:Sq sd} {i:Nat} (h:ME (p.at' i) (q.at' i)):tJ p i=tJ q i:=by
 unfold tJ;rw [h.c3]
theorem BU {a b:SpT} (h:SE a b):spB a=spB b:=by
 unfold spB
 rw [h.c1,h.n,Rn (q:=okM b.1 b.2.1) (fun k _ hk=>fdb fun j hj=>h.m j (by rw [h.n];omega)),fO (q:=tJ b.2.1) (fun k _ hk=>DX (h.m k (by rw [h.n];omega)))]
theorem W5 {t:Int} {p q:Sq sd}:∀ (d i:Nat) (c b:Int),(∀ k,i≤k→k<i+d→ME (p.at' k) (q.at' k))→usF t p d i c b=usF t q d i c b:=by
 intro d
 induction d with
 | zero=>intro i c b h;rfl
 | succ d ih=>
  intro i c b h
  have e:=h i (Nat.le_refl _) (by omega)
  simp only [usF,vmb]
  rw [e.c2,C7 e,e.c6,ih (i+1) _ _ (fun k h1 h2=>h k (by omega) (by omega)),ih (i+1) _ _ (fun k h1 h2=>h k (by omega) (by omega))]
theorem rS (n:Nat) (a:sd) (hq:a.2.2.2.2.1.n≤1000000) (hn:10000000≤n):∃ b,Hm n a=some b∧ME b a:=by
 obtain ⟨r',h1,h2,h3⟩:=Q0 n a.2.2.2.2.1 hq hn
 unfold Hm Ft
 rw [h1]
 exact ⟨_,rfl,rfl,rfl,rfl,rfl,rfl,h2,fun k hk=>h3 k (by rw [←h2];exact hk),rfl,rfl,rfl,rfl⟩
theorem WP (n:Nat) (q:Sq sd) (hs:∀ k,k<q.n→(q.at' k).2.2.2.2.1.n≤1000000) (hq:q.n≤1000000) (hn:10000000≤n):∀ (d m i:Nat) (r:Sq sd),i+d=q.n→d<m→r.n=i→(∀ k,k<i→ME (r.at' k) (q.at' k))→
  ∃ r',vc n m q (i:Int) r=some (.out r')∧r'.n=q.n∧∀ k,k<q.n→ME (r'.at' k) (q.at' k)
 | 0,m,i,r,hi,hm,h1,h2=>by
  obtain ⟨m,rfl⟩:∃ p,m=p+1:=⟨m - 1,by omega⟩
  rw [vc,zh,if_neg (by simp;omega)]
  exact ⟨r,rfl,by omega,fun k hk=>h2 k (by omega)⟩
 | d+1,m,i,r,hi,hm,h1,h2=>by
  obtain ⟨m,rfl⟩:∃ p,m=p+1:=⟨m - 1,by omega⟩
  have e1:=wr1 (k:=i) (by omega)
  obtain ⟨b,hb,he⟩:=rS n (q.at' i) (hs i (by omega)) hn
  rw [vc,zh,if_pos (decide_eq_true (by omega)),if_pos ⟨by omega,by omega⟩,Int.toNat_natCast,D9,hb,Option.bind_some,if_pos (by unfold Rb;simp only [Bool.and_eq_true,Nat.ble_eq];omega),e1]
  refine WP n q hs hq hn d m (i+1) _ (by omega) (by omega) (by show r.n+1=i+1;omega) fun k hk=>?_
  show ME (if k<r.n then r.at' k else _) _
  by_cases e:k<i
  · rw [if_pos (by omega)];exact h2 k e
  · have e:k=i:=by omega
    subst e
    rw [if_neg (by omega),h1,Nat.sub_self];exact he
theorem R0 (n:Nat) (s:SpT) (hs:SpS 1000000 s) (hn:10000000≤n):∃ r,Th n s=some r∧SE r s:=by
 obtain ⟨r',h1,h2,h3⟩:=WP n s.2.1 (fun k hk=>(hs.m k hk).rn) hs.n hn s.2.1.n n 0 (⟨0,fun _=>Ba mlK⟩:Sq sd) (by omega) (by have:=hs.n;omega) rfl (fun k hk=>by omega)
 rw [show ((0:Nat):Int)=0 from rfl] at h1
 unfold Th mq gr kq
 rw [h1]
 exact ⟨_,rfl,rfl,h2,fun k hk=>h3 k (by rw [←h2];exact hk)⟩
theorem sS (n:Nat) (a b:sd) (hq:a.2.2.2.2.1.n≤1000000) (h:ME a b) (hn:10000000≤n):bj n a b=some true:=by
 unfold bj XB
 rw [rab n _ _ hq h.rn h.rc hn,h.c1,h.c2,h.c3,h.c4,h.c5,h.c6,h.c7,h.c8,h.c9]
 simp
theorem fX (n:Nat) (a b:Sq sd) (hs:∀ k,k<a.n→(a.at' k).2.2.2.2.1.n≤1000000) (hq:a.n≤1000000) (hab:a.n=b.n) (he:∀ k,k<a.n→ME (a.at' k) (b.at' k)) (hn:10000000≤n):∀ (d m i:Nat),i+d=a.n→d<m→Bd n m a b (i:Int)=some (.out ())
 | 0,m,i,hi,hm=>by
  obtain ⟨m,rfl⟩:∃ p,m=p+1:=⟨m - 1,by omega⟩
  rw [Bd,ol,if_neg (by simp;omega)]
 | d+1,m,i,hi,hm=>by
  obtain ⟨m,rfl⟩:∃ p,m=p+1:=⟨m - 1,by omega⟩
  have e1:=wr1 (k:=i) (by omega)
  have hE:=sS n (a.at' i) (b.at' i) (hs i (by omega)) (he i (by omega)) hn
  rw [Bd,ol,if_pos (decide_eq_true (by omega)),if_pos ⟨by omega,by omega⟩,if_pos ⟨by omega,by omega⟩,e1,Int.toNat_natCast,D9 (a.at' i),D9 (b.at' i),hE,Option.bind_some,if_neg (by simp)]
  exact fX n a b hs hq hab he hn d m (i+1) (by omega) (by omega)
theorem sab (n:Nat) (a b:SpT) (hs:SpS 1000000 a) (h:SE a b) (hn:10000000≤n):vl n a b=some true:=by
 have h1:=fX n a.2.1 b.2.1 (fun k hk=>(hs.m k hk).rn) hs.n h.n h.m hn a.2.1.n n 0 (by omega) (by have:=hs.n;omega)
 rw [show ((0:Nat):Int)=0 from rfl] at h1
 unfold vl sx WA qx
 rw [if_pos (by rw [h.c1];simp),if_neg (by simp [h.n]),h1];rfl
theorem qab (n:Nat) (a:Nat):ku n a a=some true:=by
 unfold ku px
 cases ((FloatKind.format .f64).order a a !=some .eq) with
 | true=>rfl
 | false=>simp
theorem ZX (n:Nat) (a:CfT) (h1:a.1.n≤1000000) (h2:a.2.2.2.2.1.n≤1000000) (hn:10000000≤n):∃ b,ef n a=some b∧CE b a:=by
 obtain ⟨r,k1,k2,k3⟩:=qV n a.1 h1 hn
 obtain ⟨u,l1,l2,l3⟩:=pV n a.2.2.2.2.1 h2 hn
 unfold ef Zn
 rw [k1,Option.bind_some,l1]
 exact ⟨_,rfl,k2,fun k hk=>k3 k (by rw [←k2];exact hk),rfl,rfl,rfl,l2,fun k hk=>l3 k (by rw [←l2];exact hk),rfl,rfl,rfl⟩
theorem q6 (n:Nat) (a b:CfT) (h1:a.1.n≤1000000) (h2:a.2.2.2.2.1.n≤1000000) (h:CE a b) (hn:10000000≤n):Ci n a b=some true:=by
 unfold Ci Gt
 rw [X0 n _ _ h1 h.tn h.t hn,S0 n _ _ h2 h.bn h.bk hn,h.c2,h.c3,h.c4,h.c6,h.c7,h.c8,qab]
 simp
def Ln (p:Nat→Bool):Nat→Nat→Option Nat
 | 0,_=>none
 | d+1,i=>if p i=true then some i else Ln p d (i+1)
theorem iu {p:Nat→Bool}:∀ {d i k:Nat},Ln p d i=some k→i≤k∧k<i+d∧p k=true
 | 0,i,k,h=>by cases h
 | d+1,i,k,h=>by
  unfold Ln at h
  split at h
  · cases h;exact ⟨Nat.le_refl _,by omega,‹_›⟩
  · obtain ⟨h1,h2,h3⟩:=iu h
    exact ⟨by omega,by omega,h3⟩
theorem vX {p:Nat→Bool}:∀ {d i:Nat},Ln p d i=none→∀ k,i≤k→k<i+d→p k=false
 | 0,i,h,k,h1,h2=>by omega
 | d+1,i,h,k,h1,h2=>by
  unfold Ln at h
  split at h
  · cases h
  · rename_i hp
    by_cases e:k=i
    · rw [e];simpa using hp
    · exact vX h k (by omega) (by omega)
def idB (q:Sq sd) (id:Int) (i:Nat):Bool:=(q.at' i).1==id
def fI (o:Option Nat):Int:=match o with
 | some k=>(k:Int)
 | none=> -1
theorem Lbb (n:Nat) (id s1:Int) (q:Sq sd) (hq:q.n≤1000000):∀ (d m i:Nat),i+d=q.n→d<m→zb n m id (i:Int) s1 q=some (match Ln (idB q id) d i with
  | some k=>.ret (k:Int)
  | none=>.out ())
 | 0,m,i,hi,hm=>by
  obtain ⟨m,rfl⟩:∃ p,m=p+1:=⟨m - 1,by omega⟩
  rw [zb,Le,if_neg (by simp;omega)];rfl
 | d+1,m,i,hi,hm=>by
  obtain ⟨m,rfl⟩:∃ p,m=p+1:=⟨m - 1,by omega⟩
  have e1:=wr1 (k:=i) (by omega)
  rw [zb,Le,if_pos (decide_eq_true (by omega)),if_pos ⟨by omega,by omega⟩,e1,Int.toNat_natCast]
  by_cases h:((q.at' i).1==id)=true
  · have:Ln (idB q id) (d+1) i=some i:=by unfold Ln;exact if_pos h
    rw [if_pos h,this]
  · have:Ln (idB q id) (d+1) i=Ln (idB q id) d (i+1):=by rw [Ln];exact if_neg h
    rw [if_neg h,this]
    exact Lbb n id s1 q hq d m (i+1) (by omega) (by omega)
theorem fhb (n:Nat) (s:SpT) (id:Int) (hq:s.2.1.n≤1000000) (hn:10000000≤n):wh n s id=some (fI (Ln (idB s.2.1 id) s.2.1.n 0)):=by
 have h1:=Lbb n id s.1 s.2.1 hq s.2.1.n n 0 (by omega) (by omega)
 rw [show ((0:Nat):Int)=0 from rfl] at h1
 unfold wh cl
 rw [h1]
 cases Ln (idB s.2.1 id) s.2.1.n 0<;>rfl
def Rises (q:Sq sd):Prop:=∀ i,i+1<q.n→(q.at' i).1<(q.at' (i+1)).1
theorem Rises.lt {q:Sq sd} (h:Rises q):∀ {d i:Nat},i+d+1<q.n→(q.at' i).1<(q.at' (i+d+1)).1
 | 0,i,hi=>h i hi
 | d+1,i,hi=>Int.lt_trans (h.lt (d:=d) (i:=i) (by omega)) (h (i+d+1) (by omega))
theorem Rises.of {q:Sq sd} (h:Rises q) {i j:Nat} (hij:i<j) (hj:j<q.n):(q.at' i).1<(q.at' j).1:=by
 have:=h.lt (d:=j - i - 1) (i:=i) (by omega)
 rwa [show i+(j - i - 1)+1=j by omega] at this
theorem Ddb {s:SpT} (h:spB s=true):Rises s.2.1:=by
 unfold spB at h
 simp only [Bool.and_eq_true] at h
 intro i hi
 have:=(FO _ _ _).1 h.2.2.1 (i+1) (by omega) (by omega)
 unfold okM at this
 simp only [Bool.and_eq_true,Bool.or_eq_true,decide_eq_true_eq] at this
 rcases this.2.2 with h0 | h0
 · omega
 · exact h0
theorem Cgb (n:Nat) (x y:Int):oh n x y=some (if x<y then -1 else if x>y then 1 else 0):=by
 unfold oh Nk Ok Bn
 simp only [bne_self_eq_false,Option.bind_some,Bool.false_eq_true,if_false]
 by_cases h:x<y
 · rw [if_pos (decide_eq_true h),if_pos h]
 · rw [if_neg (by simpa using h),if_neg h]
   by_cases g:x>y
   · rw [if_pos (decide_eq_true g),if_pos g]
   · rw [if_neg (by simpa using g),if_neg g]
theorem Ohb {i j:Nat} (hi:i≤1000000) (hj:j≤1000000):(IntKind.wrap .i64 (Int.fdiv (IntKind.wrap .u64 (IntKind.wrap .i64 ((i:Int)+(j:Int)))) (2^(min (Int.toNat (1:Int)) (IntKind.bits .u64)))))=(((i+j) / 2:Nat):Int):=by
 have h1:IntKind.wrap .i64 ((i:Int)+(j:Int))=((i+j:Nat):Int):=by rw [wr (by omega) (by omega)];omega
 have h2:IntKind.wrap .u64 ((i+j:Nat):Int)=((i+j:Nat):Int):=by
  show ((i+j:Nat):Int)%18446744073709551616=_
  omega
 have h3:(2:Int)^(min (Int.toNat (1:Int)) (IntKind.bits .u64))=2:=rfl
 rw [h1,h2,h3,Int.fdiv_eq_ediv_of_nonneg _ (by omega),wr (by omega) (by omega)];omega
theorem dhb (n:Nat) (q:Sq sd) (id n0:Int) (hr:Rises q) (hq:q.n≤1000000):∀ (d m i j:Nat),j - i≤d→d<m→i≤j→j≤q.n→(∀ k,k<i→(q.at' k).1<id)→(∀ k,j≤k→k<q.n→id≤(q.at' k).1)→
  ∃ p:Nat,p≤q.n∧pa n m q id n0 (i:Int) (j:Int)=some (.out (q,id,n0,(p:Int)))∧(∀ k,k<p→(q.at' k).1<id)∧(∀ k,p≤k→k<q.n→id≤(q.at' k).1)
 | 0,m,i,j,hd,hm,hij,hj,h1,h2=>by
  obtain ⟨m,rfl⟩:∃ p,m=p+1:=⟨m - 1,by omega⟩
  have:i=j:=by omega
  subst this
  rw [pa,ya,if_neg (by simp)]
  exact ⟨i,hj,rfl,h1,h2⟩
 | d+1,m,i,j,hd,hm,hij,hj,h1,h2=>by
  obtain ⟨m,rfl⟩:∃ p,m=p+1:=⟨m - 1,by omega⟩
  rw [pa,ya]
  by_cases hlt:i<j
  · have hh:=Ohb (i:=i) (j:=j) (by omega) (by omega)
    obtain ⟨h,hhe⟩:∃ h,h=(i+j) / 2:=⟨_,rfl⟩
    rw [←hhe] at hh
    have e1:=wr1 (k:=h) (by omega)
    rw [if_pos (decide_eq_true (by omega)),hh,if_pos ⟨by omega,by omega⟩,Int.toNat_natCast,D9]
    simp only [Yp,xr,Cgb,Option.bind_some,e1]
    by_cases g:(q.at' h).1<id
    · rw [if_pos g,if_pos (by rfl)]
      refine dhb n q id n0 hr hq d m (h+1) j (by omega) (by omega) (by omega) hj (fun k hk=>?_) h2
      by_cases e:k=h
      · rw [e];exact g
      · exact Int.lt_trans (hr.of (i:=k) (j:=h) (by omega) (by omega)) g
    · rw [if_neg g]
      rw [if_neg (by split<;>decide)]
      refine dhb n q id n0 hr hq d m i h (by omega) (by omega) (by omega) (by omega) h1 (fun k hk hk2=>?_)
      by_cases e:k=h
      · rw [e];omega
      · have:=hr.of (i:=h) (j:=k) (by omega) hk2
        omega
  · have:i=j:=by omega
    subst this
    rw [if_neg (by simp)]
    exact ⟨i,hj,rfl,h1,h2⟩
theorem Rlb (n:Nat) (s:SpT) (id:Int) (hr:Rises s.2.1) (hq:s.2.1.n≤1000000) (hn:10000000≤n):∃ p:Nat,EG n s id=some ((p:Int),((Ln (idB s.2.1 id) s.2.1.n 0).isSome,()))∧∀ k,Ln (idB s.2.1 id) s.2.1.n 0=some k→p=k:=by
 obtain ⟨p,hp,hb,h1,h2⟩:=dhb n s.2.1 id (s.2.1.n:Int) hr hq s.2.1.n n 0 s.2.1.n (by omega) (by omega) (by omega) (Nat.le_refl _) (fun k hk=>by omega) (fun k h1 h2=>by omega)
 rw [show ((0:Nat):Int)=0 from rfl] at hb
 refine ⟨p,?_,fun k hk=>?_⟩
 · unfold EG GG za Na
   rw [hb]
   simp only [Option.bind_some,onL]
   by_cases hlt:p<s.2.1.n
   · rw [if_pos (decide_eq_true (by omega)),if_pos ⟨by omega,by omega⟩,Int.toNat_natCast,D9]
     simp only [Yp,xr,Cgb,Option.bind_some]
     have hge:=h2 p (Nat.le_refl _) hlt
     rw [if_neg (show ¬((s.2.1.at' p).1<id) by omega)]
     cases hf:Ln (idB s.2.1 id) s.2.1.n 0 with
     | some k=>
      obtain ⟨k1,k2,k3⟩:=iu hf
      have k3:(s.2.1.at' k).1=id:=by simpa [idB] using k3
      have:p=k:=by
       rcases Nat.lt_trichotomy p k with h | h | h
       · have:=hr.of h (by omega);omega
       · exact h
       · have:=h1 k h;omega
      rw [this,if_neg (by omega)];rfl
     | none=>
      have:=vX hf p (by omega) (by omega)
      have hne:(s.2.1.at' p).1≠id:=by simpa [idB] using this
      rw [if_pos (by omega)];rfl
   · rw [if_neg (by simp;omega)]
     cases hf:Ln (idB s.2.1 id) s.2.1.n 0 with
     | some k=>
      obtain ⟨k1,k2,k3⟩:=iu hf
      have k3:(s.2.1.at' k).1=id:=by simpa [idB] using k3
      have:=h1 k (by omega)
      omega
     | none=>rfl
 · obtain ⟨k1,k2,k3⟩:=iu hk
   have k3:(s.2.1.at' k).1=id:=by simpa [idB] using k3
   rcases Nat.lt_trichotomy p k with h | h | h
   · have:=hr.of h (by omega)
     have:=h2 p (Nat.le_refl _) (by omega)
     omega
   · exact h
   · have:=h1 k h;omega
open Go Go.RowKit
abbrev Hlb:Type:=(Int×(Int×(Int×(sd×(Bool×Unit)))))
abbrev ScT:Type:=(SpT×(CfT×((Sq Hlb)×Unit)))
structure CfS (B:Nat) (c:CfT):Prop where
 tn:c.1.n≤B
 t:∀ i,i<c.1.n→(c.1.at' i).1.size≤B
 host:c.2.1.size≤B
 bn:c.2.2.2.2.1.n≤B
theorem CfS.of {B:Nat} {a b:CfT} (h:CfS B b) (e:CE a b):CfS B a:=⟨by rw [e.tn];exact h.tn,fun i hi=>by rw [e.t i hi];exact h.t i (by rw [←e.tn];exact hi),by rw [e.c2];exact h.host,by rw [e.bn];exact h.bn⟩
theorem CfS.mono {B C:Nat} {a:CfT} (h:CfS B a) (hb:B≤C):CfS C a:=⟨Nat.le_trans h.tn hb,fun i hi=>Nat.le_trans (h.t i hi) hb,Nat.le_trans h.host hb,Nat.le_trans h.bn hb⟩
theorem Ulb (n:Nat) (m1 m2:Int) (m3:Bool) (m4 m5:BA) (q:Sq RcT) (m7:BA) (m8:Int) (m9 m10:Bool) (hs:∀ i,i<q.n→RcS 140737488351232 (q.at' i)) (hq:q.n≤140737488351232) (hn:10000000≤n):∀ (d m i:Nat) (z:Int),(1048576≤z∨q.n - i≤d)→(1048576 - z).toNat<m→0≤z→z≤600000000000000→i≤q.n→
  ∃ w,ac n m z (i:Int) m1 m2 m3 m4 m5 q m7 m8 m9 m10=some (.out w)∧z≤w∧w≤600000000000000∧(w≤30000→z+(q.n - i)≤w∧∀ j,i≤j→j<q.n→RcS 30000 (q.at' j)):=by
 intro d
 induction d with
 | zero=>
  intro m i z hd hm hz hz2 hi
  obtain ⟨m,rfl⟩:∃ p,m=p+1:=⟨m - 1,by omega⟩
  rw [ac,pg]
  by_cases h:(i:Int)<(q.n:Int)
  · rw [if_pos (decide_eq_true h),if_neg (by simp;omega)]
    exact ⟨z,rfl,Int.le_refl _,hz2,fun hw=>by omega⟩
  · rw [if_neg (by simpa using h)]
    exact ⟨z,rfl,Int.le_refl _,hz2,fun hw=>⟨by omega,fun j h1 h2=>by omega⟩⟩
 | succ d ih=>
  intro m i z hd hm hz hz2 hi
  obtain ⟨m,rfl⟩:∃ p,m=p+1:=⟨m - 1,by omega⟩
  rw [ac,pg]
  by_cases h:(i:Int)<(q.n:Int)
  · by_cases g:z<1048576
    · obtain ⟨s1,s2⟩:=hs i (by omega)
      have e1:=wr1 (k:=i) (by omega)
      have w0:IntKind.wrap .i64 (z+1)=z+1:=wr (by omega) (by omega)
      have w1:IntKind.wrap .i64 (z+1+((q.at' i).1.1.size:Int))=z+1+((q.at' i).1.1.size:Int):=wr (by omega) (by omega)
      have w2:IntKind.wrap .i64 (z+1+((q.at' i).1.1.size:Int)+((q.at' i).1.2.1.size:Int))=z+1+((q.at' i).1.1.size:Int)+((q.at' i).1.2.1.size:Int):=wr (by omega) (by omega)
      rw [if_pos (decide_eq_true h),if_pos (decide_eq_true g),if_pos ⟨by omega,h⟩,if_pos ⟨by omega,h⟩,e1,Int.toNat_natCast,w0,w1,w2]
      obtain ⟨w,k1,k2,k3,k4⟩:=ih m (i+1) (z+1+((q.at' i).1.1.size:Int)+((q.at' i).1.2.1.size:Int)) (by omega) (by omega) (by omega) (by omega) (by omega)
      refine ⟨w,k1,by omega,k3,fun hw=>?_⟩
      obtain ⟨l1,l2⟩:=k4 hw
      refine ⟨by omega,fun j h1 h2=>?_⟩
      by_cases e:j=i
      · rw [e];exact ⟨by omega,by omega⟩
      · exact l2 j (by omega) h2
    · rw [if_pos (decide_eq_true h),if_neg (by simpa using g)]
      exact ⟨z,rfl,Int.le_refl _,hz2,fun hw=>by omega⟩
  · rw [if_neg (by simpa using h)]
    exact ⟨z,rfl,Int.le_refl _,hz2,fun hw=>⟨by omega,fun j h1 h2=>by omega⟩⟩
theorem Njb (n:Nat) (m:sd) (h:MailS 140737488351232 m) (hn:10000000≤n):∃ w:Int,Ti n m=some w∧0≤w∧w≤600000000000000∧(w≤30000→MailS 30000 m):=by
 have h1:=h.body
 have h2:=h.fl
 have h3:=h.fd
 have h4:=h.rn
 have w1:IntKind.wrap .i64 ((m.2.2.2.2.2.1.size:Int)+(m.2.2.2.1.1.size:Int))=(m.2.2.2.2.2.1.size:Int)+(m.2.2.2.1.1.size:Int):=wr (by omega) (by omega)
 have w2:IntKind.wrap .i64 ((m.2.2.2.2.2.1.size:Int)+(m.2.2.2.1.1.size:Int)+(m.2.2.2.1.2.1.size:Int))=(m.2.2.2.2.2.1.size:Int)+(m.2.2.2.1.1.size:Int)+(m.2.2.2.1.2.1.size:Int):=wr (by omega) (by omega)
 obtain ⟨w,k1,k2,k3,k4⟩:=Ulb n m.1 m.2.1 m.2.2.1 m.2.2.2.1.1 m.2.2.2.1.2.1 m.2.2.2.2.1 m.2.2.2.2.2.1 m.2.2.2.2.2.2.1 m.2.2.2.2.2.2.2.1 m.2.2.2.2.2.2.2.2.1 h.rc h.rn hn m.2.2.2.2.1.n n 0 ((m.2.2.2.2.2.1.size:Int)+(m.2.2.2.1.1.size:Int)+(m.2.2.2.1.2.1.size:Int)) (.inr (by omega)) (by omega) (by omega) (by omega) (by omega)
 rw [show ((0:Nat):Int)=0 from rfl] at k1
 refine ⟨w,?_,by omega,k3,fun hw=>?_⟩
 · unfold Ti Ro
   rw [w1,w2,k1];rfl
 · obtain ⟨l1,l2⟩:=k4 hw
   exact ⟨by omega,by omega,by omega,by omega,fun i hi=>l2 i (by omega) hi⟩
theorem Vlb (n:Nat) (s1:Int) (q:Sq sd) (hs:∀ i,i<q.n→MailS 140737488351232 (q.at' i)) (hq:q.n≤140737488351232) (hn:10000000≤n):∀ (d m i:Nat) (z:Int),(1048576≤z∨q.n - i≤d)→d<m→0≤z→z≤700000000000000→i≤q.n→
  ∃ w,Mb n m z (i:Int) s1 q=some (.out w)∧z≤w∧w≤700000000000000∧(w≤30000→∀ j,i≤j→j<q.n→MailS 30000 (q.at' j)):=by
 intro d
 induction d with
 | zero=>
  intro m i z hd hm hz hz2 hi
  obtain ⟨m,rfl⟩:∃ p,m=p+1:=⟨m - 1,by omega⟩
  rw [Mb,Df]
  by_cases h:(i:Int)<(q.n:Int)
  · rw [if_pos (decide_eq_true h),if_neg (by simp;omega)]
    exact ⟨z,rfl,Int.le_refl _,hz2,fun hw=>by omega⟩
  · rw [if_neg (by simpa using h)]
    exact ⟨z,rfl,Int.le_refl _,hz2,fun hw j h1 h2=>by omega⟩
 | succ d ih=>
  intro m i z hd hm hz hz2 hi
  obtain ⟨m,rfl⟩:∃ p,m=p+1:=⟨m - 1,by omega⟩
  rw [Mb,Df]
  by_cases h:(i:Int)<(q.n:Int)
  · by_cases g:z<1048576
    · obtain ⟨x,x1,x2,x3,x4⟩:=Njb n (q.at' i) (hs i (by omega)) hn
      have e1:=wr1 (k:=i) (by omega)
      have w0:IntKind.wrap .i64 (z+x)=z+x:=wr (by omega) (by omega)
      rw [if_pos (decide_eq_true h),if_pos (decide_eq_true g),if_pos ⟨by omega,h⟩,Int.toNat_natCast,D9,x1,Option.bind_some,e1,w0]
      obtain ⟨w,k1,k2,k3,k4⟩:=ih m (i+1) (z+x) (by omega) (by omega) (by omega) (by omega) (by omega)
      refine ⟨w,k1,by omega,k3,fun hw j h1 h2=>?_⟩
      by_cases e:j=i
      · rw [e];exact x4 (by omega)
      · exact k4 hw j (by omega) h2
    · rw [if_pos (decide_eq_true h),if_neg (by simpa using g)]
      exact ⟨z,rfl,Int.le_refl _,hz2,fun hw=>by omega⟩
  · rw [if_neg (by simpa using h)]
    exact ⟨z,rfl,Int.le_refl _,hz2,fun hw j h1 h2=>by omega⟩
theorem Wlb (n:Nat) (s:SpT) (h:SpS 140737488351232 s) (hn:10000000≤n):∃ w:Int,sj n s=some w∧0≤w∧w≤700000000000000∧(w≤30000→SpS 30000 s):=by
 have h1:=h.n
 obtain ⟨w,k1,k2,k3,k4⟩:=Vlb n s.1 s.2.1 h.m h.n hn (min s.2.1.n 1048576) n 0 (s.2.1.n:Int) (by omega) (by omega) (by omega) (by omega) (by omega)
 rw [show ((0:Nat):Int)=0 from rfl] at k1
 refine ⟨w,?_,by omega,k3,fun hw=>⟨by omega,fun i hi=>k4 hw i (by omega) hi⟩⟩
 unfold sj Em
 rw [k1];rfl
theorem Slb (n:Nat) (q:Sq TnT) (c2:BA) (c3 c4:Int) (c5:Sq Int) (c6 c7:Int) (c8:Nat) (hs:∀ i,i<q.n→(q.at' i).1.size≤140737488351232) (hq:q.n≤140737488351232) (hn:10000000≤n):∀ (d m i:Nat) (z:Int),(1048576≤z∨q.n - i≤d)→d<m→0≤z→z≤700000000000000→i≤q.n→
  ∃ w,Eb n m z (i:Int) q c2 c3 c4 c5 c6 c7 c8=some (.out w)∧z≤w∧w≤700000000000000∧(w≤30000→∀ j,i≤j→j<q.n→(q.at' j).1.size≤30000):=by
 intro d
 induction d with
 | zero=>
  intro m i z hd hm hz hz2 hi
  obtain ⟨m,rfl⟩:∃ p,m=p+1:=⟨m - 1,by omega⟩
  rw [Eb,Pe]
  by_cases h:(i:Int)<(q.n:Int)
  · rw [if_pos (decide_eq_true h),if_neg (by simp;omega)]
    exact ⟨z,rfl,Int.le_refl _,hz2,fun hw=>by omega⟩
  · rw [if_neg (by simpa using h)]
    exact ⟨z,rfl,Int.le_refl _,hz2,fun hw j h1 h2=>by omega⟩
 | succ d ih=>
  intro m i z hd hm hz hz2 hi
  obtain ⟨m,rfl⟩:∃ p,m=p+1:=⟨m - 1,by omega⟩
  rw [Eb,Pe]
  by_cases h:(i:Int)<(q.n:Int)
  · by_cases g:z<1048576
    · have x3:=hs i (by omega)
      have e1:=wr1 (k:=i) (by omega)
      have w0:IntKind.wrap .i64 (z+((q.at' i).1.size:Int))=z+((q.at' i).1.size:Int):=wr (by omega) (by omega)
      rw [if_pos (decide_eq_true h),if_pos (decide_eq_true g),if_pos ⟨by omega,h⟩,Int.toNat_natCast,e1,w0]
      obtain ⟨w,k1,k2,k3,k4⟩:=ih m (i+1) (z+((q.at' i).1.size:Int)) (by omega) (by omega) (by omega) (by omega) (by omega)
      refine ⟨w,k1,by omega,k3,fun hw j h1 h2=>?_⟩
      by_cases e:j=i
      · rw [e];omega
      · exact k4 hw j (by omega) h2
    · rw [if_pos (decide_eq_true h),if_neg (by simpa using g)]
      exact ⟨z,rfl,Int.le_refl _,hz2,fun hw=>by omega⟩
  · rw [if_neg (by simpa using h)]
    exact ⟨z,rfl,Int.le_refl _,hz2,fun hw j h1 h2=>by omega⟩
theorem Tlb (n:Nat) (c:CfT) (h:CfS 140737488351232 c) (hn:10000000≤n):∃ w:Int,Oh n c=some w∧0≤w∧w≤700000000000000∧(w≤30000→CfS 30000 c):=by
 have h1:=h.tn
 have h2:=h.host
 have h3:=h.bn
 have w1:IntKind.wrap .i64 ((c.2.1.size:Int)+(c.2.2.2.2.1.n:Int))=(c.2.1.size:Int)+(c.2.2.2.2.1.n:Int):=wr (by omega) (by omega)
 have w2:IntKind.wrap .i64 ((c.2.1.size:Int)+(c.2.2.2.2.1.n:Int)+(c.1.n:Int))=(c.2.1.size:Int)+(c.2.2.2.2.1.n:Int)+(c.1.n:Int):=wr (by omega) (by omega)
 obtain ⟨w,k1,k2,k3,k4⟩:=Slb n c.1 c.2.1 c.2.2.1 c.2.2.2.1 c.2.2.2.2.1 c.2.2.2.2.2.1 c.2.2.2.2.2.2.1 c.2.2.2.2.2.2.2.1 h.t h.tn hn (min c.1.n 1048576) n 0 ((c.2.1.size:Int)+(c.2.2.2.2.1.n:Int)+(c.1.n:Int)) (by omega) (by omega) (by omega) (by omega) (by omega)
 rw [show ((0:Nat):Int)=0 from rfl] at k1
 refine ⟨w,?_,by omega,k3,fun hw=>⟨by omega,fun i hi=>k4 hw i (by omega) hi,by omega,by omega⟩⟩
 unfold Oh Hl
 rw [w1,w2,k1];rfl
theorem Llb (c:CfT):(c.1,(c.2.1,(c.2.2.1,(c.2.2.2.1,(c.2.2.2.2.1,(c.2.2.2.2.2.1,(c.2.2.2.2.2.2.1,(c.2.2.2.2.2.2.2.1,()))))))))=c:=rfl
theorem teb (n:Nat) (p1:Int) (p2:Sq sd) (p3:Sq TnT) (p4:BA) (p5 p6:Int) (p7:Sq Int) (p8 p9:Int) (p10:Nat) (l:Sq Hlb) (hs:∀ i,i<l.n→MailS 140737488351232 (l.at' i).2.2.2.1) (hq:l.n≤140737488351232) (hn:10000000≤n):∀ (d m i:Nat) (z:Int),(1048576≤z+d∨l.n - i≤d)→d<m→0≤z→z≤1500000000000000→i≤l.n→
  ∃ w,mb n m z (i:Int) p1 p2 p3 p4 p5 p6 p7 p8 p9 p10 l=some (.out (w,p1,p2,p3,p4,p5,p6,p7,p8,p9,p10,l))∧z≤w∧(w≤30000→∀ j,i≤j→j<l.n→MailS 30000 (l.at' j).2.2.2.1):=by
 intro d
 induction d with
 | zero=>
  intro m i z hd hm hz hz2 hi
  obtain ⟨m,rfl⟩:∃ p,m=p+1:=⟨m - 1,by omega⟩
  rw [mb,ae]
  by_cases h:(i:Int)<(l.n:Int)
  · rw [if_pos (decide_eq_true h),if_neg (by simp;omega)]
    exact ⟨z,rfl,Int.le_refl _,fun hw=>by omega⟩
  · rw [if_neg (by simpa using h)]
    exact ⟨z,rfl,Int.le_refl _,fun hw j h1 h2=>by omega⟩
 | succ d ih=>
  intro m i z hd hm hz hz2 hi
  obtain ⟨m,rfl⟩:∃ p,m=p+1:=⟨m - 1,by omega⟩
  rw [mb,ae]
  by_cases h:(i:Int)<(l.n:Int)
  · by_cases g:z<1048576
    · obtain ⟨x,x1,x2,x3,x4⟩:=Njb n (l.at' i).2.2.2.1 (hs i (by omega)) hn
      have e1:=wr1 (k:=i) (by omega)
      have w0:IntKind.wrap .i64 (z+1)=z+1:=wr (by omega) (by omega)
      have w1:IntKind.wrap .i64 (z+1+x)=z+1+x:=wr (by omega) (by omega)
      rw [if_pos (decide_eq_true h),if_pos (decide_eq_true g),if_pos ⟨by omega,h⟩,Int.toNat_natCast,D9,x1,Option.bind_some,e1,w0,w1]
      obtain ⟨w,k1,k2,k4⟩:=ih m (i+1) (z+1+x) (by omega) (by omega) (by omega) (by omega) (by omega)
      refine ⟨w,k1,by omega,fun hw j h1 h2=>?_⟩
      by_cases e:j=i
      · rw [e];exact x4 (by omega)
      · exact k4 hw j (by omega) h2
    · rw [if_pos (decide_eq_true h),if_neg (by simpa using g)]
      exact ⟨z,rfl,Int.le_refl _,fun hw=>by omega⟩
  · rw [if_neg (by simpa using h)]
    exact ⟨z,rfl,Int.le_refl _,fun hw j h1 h2=>by omega⟩
structure ScS (B:Nat) (p:ScT):Prop where
 s:SpS B p.1
 c:CfS B p.2.1
 ln:p.2.2.1.n≤B
 m:∀ i,i<p.2.2.1.n→MailS B (p.2.2.1.at' i).2.2.2.1
theorem ueb (n:Nat) (p:ScT) (h:ScS 140737488351232 p) (hn:10000000≤n):∃ b,Re n p=some b∧(b=false→ScS 30000 p):=by
 obtain ⟨x,x1,x2,x3,x4⟩:=Wlb n p.1 h.s hn
 obtain ⟨y,y1,y2,y3,y4⟩:=Tlb n p.2.1 h.c hn
 have hl:=h.ln
 have w0:IntKind.wrap .i64 (x+y)=x+y:=wr (by omega) (by omega)
 obtain ⟨w,k1,k2,k3⟩:=teb n p.1.1 p.1.2.1 p.2.1.1 p.2.1.2.1 p.2.1.2.2.1 p.2.1.2.2.2.1 p.2.1.2.2.2.2.1 p.2.1.2.2.2.2.2.1 p.2.1.2.2.2.2.2.2.1 p.2.1.2.2.2.2.2.2.2.1 p.2.2.1 h.m h.ln hn 1048576 n 0 (x+y) (by omega) (by omega) (by omega) (by omega) (by omega)
 rw [show ((0:Nat):Int)=0 from rfl] at k1
 unfold Re Bj
 rw [Vdb,x1,Option.bind_some,Llb,y1,Option.bind_some,w0,k1,Option.bind_some]
 simp only [onL]
 by_cases g:w>30000
 · rw [if_neg (by simpa using g)]
   exact ⟨true,rfl,fun e=>by cases e⟩
 · rw [if_pos (by simpa using g)]
   refine ⟨_,rfl,fun e=>?_⟩
   have e:=of_decide_eq_false e
   exact ⟨x4 (by omega),y4 (by omega),by omega,fun i hi=>k3 (by omega) i (by omega) hi⟩
open Go Go.RowKit
theorem wjb:Ud 10000000=some true:=by
 rw [←iH];kernel_rfl
theorem nmb (n:Nat) (e:Int):Nb n e=some e:=rfl
theorem XX (n:Nat) (i:Int) (m:Nat) (h0:0<m) (hm:m≤1000000):∃ v:Nat,v<m∧Xd n i (m:Int)=some (v:Int):=by
 have h1:IntKind.wrap .u64 (m:Int)=(m:Int):=by
  show (m:Int)%18446744073709551616=_
  omega
 have h2:0≤IntKind.wrap .u64 i:=by
  show 0≤i%18446744073709551616
  omega
 have h3:Int.tmod (IntKind.wrap .u64 i) (m:Int)=(IntKind.wrap .u64 i)%(m:Int):=Int.tmod_eq_emod_of_nonneg h2
 have h4:0≤(IntKind.wrap .u64 i)%(m:Int):=Int.emod_nonneg _ (by omega)
 have h5:(IntKind.wrap .u64 i)%(m:Int)<(m:Int):=Int.emod_lt_of_pos _ (by omega)
 refine ⟨((IntKind.wrap .u64 i)%(m:Int)).toNat,by omega,?_⟩
 unfold Xd CC
 rw [h1,if_neg (by omega),h3,wr (by omega) (by omega)]
 congr 1;omega
theorem nhb (n:Nat) (s:SpT) (t:Int) (hs:SpS 100000 s) (hn:10000000≤n):Gl n s t=some (cond (spB s&&btw 0 3 t) ((usF t s.2.1 s.2.1.n 0 0 0).1,((usF t s.2.1 s.2.1.n 0 0 0).2,(0,()))) (0,(0,(1,())))):=by
 unfold Gl Vx btw
 rw [Vdb,OZ n s hs hn,Option.bind_some]
 cases spB s with
 | false=>rfl
 | true=>
  rw [if_pos (by rfl),Bool.true_and]
  by_cases g1:t<0
  · rw [if_neg (by simpa using g1),decide_eq_false (show ¬(0≤t) by omega)];rfl
  rw [if_pos (by simpa using g1),decide_eq_true (show 0≤t by omega),Bool.true_and]
  by_cases g2:t≥4
  · rw [if_pos (by simpa using g2),decide_eq_false (show ¬(t≤3) by omega)];rfl
  rw [if_neg (by simpa using g2),decide_eq_true (show t≤3 by omega),Ubb n s t hs hn];rfl
section
variable (n:Nat) (hn:10000000≤n) (id2 s5:Int) (s6:Sq sd) (c17:Sq TnT) (c18:BA) (c19 c20:Int) (c21:Sq Int) (c22 c23:Int) (c24:Nat) (a30 a31 a32 a33:Int) (a34:Bool) (a35 a36:BA) (a37:Sq RcT) (a38:BA) (a39:Int) (a40 a41 a42:Bool) (t62 m020 m021:Int) (m022:Bool) (m023 m024:BA) (m025:Sq RcT) (m026:BA) (m027:Int) (m028 m029:Bool) (in0:Int) (in01:Sq sd) (cc:Sq TnT) (cc1:BA) (cc2 cc3:Int) (cc4:Sq Int) (cc5 cc6:Int) (cc7:Nat) (want:Int) (want1:Sq sd) (x:Int)
include hn
theorem jhb (hs:SpS 30000 (s5,(s6,()))) (he:SE (in0,(in01,())) (s5,(s6,()))):∃ e:Int,Oa n (spB (s5,(s6,()))) id2 1 true s5 s6 c17 c18 c19 c20 c21 c22 c23 c24 (0:Int) a30 a31 a32 a33 a34 a35 a36 a37 a38 a39 a40 a41 a42 t62 m020 m021 m022 m023 m024 m025 m026 m027 m028 m029 in0 in01 cc cc1 cc2 cc3 cc4 cc5 cc6 cc7 want want1 x=some (.out (e,e,false,s5,s6,c17,c18,c19,c20,c21,c22,c23,c24,t62,in0,in01,cc,cc1,cc2,cc3,cc4,cc5,cc6,cc7,want,want1,x)):=by
 have hU:=nhb n (in0,(in01,())) a30 ((hs.of he).mono (by omega)) hn
 have hR:=V9 n (s5,(s6,())) a30 (hs.mono (by omega)) hn
 have hb:=BU he
 have hu:usF a30 in01 in01.n 0 0 0=usF a30 s6 s6.n 0 0 0:=by
  have h1:=he.n
  have h1:in01.n=s6.n:=h1
  rw [h1]
  exact W5 s6.n 0 0 0 fun k _ hk=>he.m k (by show k<in01.n;omega)
 have hU:Gl n (in0,(in01,())) a30=some (cond (spB (s5,(s6,()))&&btw 0 3 a30) ((usF a30 s6 s6.n 0 0 0).1,((usF a30 s6 s6.n 0 0 0).2,(0,()))) (0,(0,(1,())))):=by
  rw [hU,hb]
  show some (cond _ ((usF a30 in01 in01.n 0 0 0).1,((usF a30 in01 in01.n 0 0 0).2,(0,()))) _)=_
  rw [hu]
 unfold Oa Od
 rw [show Xd n 0 10=some 0 from rfl,Option.bind_some,if_pos (by rfl),hU,Option.bind_some,J8,show (decide (0≤a30)&&decide (a30≤3))=btw 0 3 a30 from rfl,Option.bind_some]
 cases spB (s5,(s6,())) with
 | false=>exact ⟨1,rfl⟩
 | true=>
  rw [if_pos rfl]
  cases btw 0 3 a30 with
  | false=>exact ⟨1,rfl⟩
  | true=>
   rw [if_pos rfl,hR,Option.bind_some]
   refine ⟨0,?_⟩
   simp
omit hn in
theorem zhb (q:Sq RcT) (h:q.n≤100000):eE 64 q=some (q,()):=by
 unfold eE
 rw [if_pos (by omega)]
omit hn in
theorem hfb:∀ (d m i:Nat) (r:Sq RcT) (x1 x2:Int) (x3:Bool) (x4 x5 x6:BA) (x7:Int) (x8 x9:Bool),r.n=i+d→d<m→r.n≤1000000→Nd n m (i:Int) x1 x2 x3 x4 x5 x6 x7 x8 x9 r=some (.out ()):=by
 intro d
 induction d with
 | zero=>
  intro m i r x1 x2 x3 x4 x5 x6 x7 x8 x9 hi hm hr
  obtain ⟨m,rfl⟩:∃ p,m=p+1:=⟨m - 1,by omega⟩
  rw [Nd,Il,if_neg (by simp;omega)]
 | succ d ih=>
  intro m i r x1 x2 x3 x4 x5 x6 x7 x8 x9 hi hm hr
  obtain ⟨m,rfl⟩:∃ p,m=p+1:=⟨m - 1,by omega⟩
  rw [Nd,Il,if_pos (decide_eq_true (by omega)),if_pos ⟨by omega,by omega⟩,wr1 (k:=i) (by omega)]
  exact ih m (i+1) _ _ _ _ _ _ _ _ _ _ (by show r.n=_;omega) (by omega) hr
theorem PZ (x1 x2:Int) (x3:Bool) (x4 x5 x6:BA) (x7:Int) (x8 x9:Bool) (r:Sq RcT) (hr:r.n≤1000000):rj n x1 x2 x3 x4 x5 x6 x7 x8 x9 r=some ():=by
 have:=hfb n r.n n 0 r x1 x2 x3 x4 x5 x6 x7 x8 x9 (by omega) (by omega) hr
 rw [show ((0:Nat):Int)=0 from rfl] at this
 unfold rj ey
 rw [this];rfl
omit hn in
abbrev zM:sd:=((0:Int),((0:Int),(false,(((⟨#[]⟩:BA),((⟨#[]⟩:BA),())),((⟨0,fun _=>Ba rcK⟩:Sq RcT),((⟨#[]⟩:BA),((0:Int),(false,(false,())))))))))
def Cjb (m:sd) (e:Int):(Int×Int×Bool×BA×BA×BA×Int×Bool×Bool×Int×(Sq RcT)×Unit):=(m.1,(m.2.1,(m.2.2.1,(m.2.2.2.1.1,(m.2.2.2.1.2.1,(m.2.2.2.2.2.1,(m.2.2.2.2.2.2.1,(m.2.2.2.2.2.2.2.1,(m.2.2.2.2.2.2.2.2.1,(e,(m.2.2.2.2.1,())))))))))))
theorem Kjb (s:SpT) (id:Int) (hs:SpS 30000 s):Vh n s id=some (if spB s=true then (match Ln (idB s.2.1 id) s.2.1.n 0 with
  | some k=>Cjb (s.2.1.at' k) 0
  | none=>Cjb zM 3) else Cjb zM 1):=by
 unfold Vh uq
 rw [Vdb,OZ n s (hs.mono (by omega)) hn,Option.bind_some]
 cases hb:spB s with
 | false=>rfl
 | true=>
  obtain ⟨p,h1,h2⟩:=Rlb n s id (Ddb hb) (by have:=hs.n;omega) hn
  rw [if_neg (by simp),if_pos rfl,h1,Option.bind_some]
  cases hf:Ln (idB s.2.1 id) s.2.1.n 0 with
  | none=>rfl
  | some k=>
   obtain ⟨k1,k2,k3⟩:=iu hf
   have hp:=h2 k hf
   subst hp
   rw [if_neg (by simp),if_pos ⟨by omega,by omega⟩,Int.toNat_natCast,D9]
   unfold Gp At
   rw [zhb _ (by have:=(hs.m p (by omega)).rn;omega)];rfl
theorem hhb (hs:SpS 30000 (s5,(s6,()))) (he:SE (in0,(in01,())) (s5,(s6,()))):∃ e:Int,Oa n (spB (s5,(s6,()))) id2 1 true s5 s6 c17 c18 c19 c20 c21 c22 c23 c24 (7:Int) a30 a31 a32 a33 a34 a35 a36 a37 a38 a39 a40 a41 a42 t62 m020 m021 m022 m023 m024 m025 m026 m027 m028 m029 in0 in01 cc cc1 cc2 cc3 cc4 cc5 cc6 cc7 want want1 x=some (.out (e,e,false,s5,s6,c17,c18,c19,c20,c21,c22,c23,c24,t62,in0,in01,cc,cc1,cc2,cc3,cc4,cc5,cc6,cc7,want,want1,x)):=by
 have hi:=hs.of he
 have hG:=Kjb n hn (in0,(in01,())) id2 hi
 have hF:=fhb n (s5,(s6,())) id2 (by have:=hs.n;omega) hn
 have hb:=BU he
 have hn1:in01.n=s6.n:=he.n
 have hff:Ln (idB in01 id2) in01.n 0=Ln (idB s6 id2) s6.n 0:=by
  rw [hn1]
  have:∀ (d i:Nat),i+d≤s6.n→Ln (idB in01 id2) d i=Ln (idB s6 id2) d i:=by
   intro d
   induction d with
   | zero=>intro i _;rfl
   | succ d ih=>
    intro i hi
    unfold Ln
    rw [ih (i+1) (by omega),show idB in01 id2 i=idB s6 id2 i by unfold idB;rw [(he.m i (by show i<in01.n;omega)).c1]]
  exact this s6.n 0 (by omega)
 have hG:Vh n (in0,(in01,())) id2=some (if spB (s5,(s6,()))=true then (match Ln (idB s6 id2) s6.n 0 with
   | some k=>Cjb (in01.at' k) 0
   | none=>Cjb zM 3) else Cjb zM 1):=by
  rw [hG,hb,←hff]
 unfold Oa Od
 rw [show Xd n 7 10=some 7 from rfl,Option.bind_some,if_neg (by decide),if_neg (by decide),if_neg (by decide),if_neg (by decide),if_pos (by rfl),hG,Option.bind_some]
 have hz:=sS n zM zM (by decide) (.refl _) hn
 cases spB (s5,(s6,())) with
 | false=>
  rw [if_neg (by simp),if_neg (by simp)]
  show ∃ e:Int,(bj n zM zM).bind _=_
  rw [hz,Option.bind_some,if_neg (by simp),PZ n hn _ _ _ _ _ _ _ _ _ _ (by show (0:Nat)≤1000000;omega)]
  exact ⟨1,rfl⟩
 | true=>
  rw [if_pos rfl,if_pos rfl,hF,Option.bind_some]
  show ∃ e:Int,(if decide (fI (Ln (idB s6 id2) s6.n 0)≥0)=true then (if 0≤fI (Ln (idB s6 id2) s6.n 0)∧fI (Ln (idB s6 id2) s6.n 0)<(s6.n:Int) then _ else _) else _)=_
  cases hf:Ln (idB s6 id2) s6.n 0 with
  | none=>
   rw [if_neg (by decide)]
   show ∃ e:Int,(bj n zM zM).bind _=_
   rw [hz,Option.bind_some,if_neg (by simp),PZ n hn _ _ _ _ _ _ _ _ _ _ (by show (0:Nat)≤1000000;omega)]
   exact ⟨3,rfl⟩
  | some k=>
   obtain ⟨k1,k2,k3⟩:=iu hf
   have hm:=he.m k (by show k<in01.n;omega)
   have hr:=(hi.m k (by show k<in01.n;omega)).rn
   have hE:=sS n (in01.at' k) (s6.at' k) (by have hr:(in01.at' k).2.2.2.2.1.n≤30000:=hr;omega) hm hn
   have e0:fI (some k)=(k:Int):=rfl
   rw [e0,if_pos (decide_eq_true (by omega)),if_pos ⟨by omega,by omega⟩]
   show ∃ e:Int,(bj n (in01.at' k) (s6.at' (Int.toNat (k:Int)))).bind _=_
   rw [Int.toNat_natCast,hE,Option.bind_some,if_neg (by simp)]
   show ∃ e:Int,(rj n (in01.at' k).1 (in01.at' k).2.1 (in01.at' k).2.2.1 (in01.at' k).2.2.2.1.1 (in01.at' k).2.2.2.1.2.1 (in01.at' k).2.2.2.2.2.1 (in01.at' k).2.2.2.2.2.2.1 (in01.at' k).2.2.2.2.2.2.2.1 (in01.at' k).2.2.2.2.2.2.2.2.1 (in01.at' k).2.2.2.2.1).bind _=_
   rw [PZ n hn _ _ _ _ _ _ _ _ _ _ (by have hr:(in01.at' k).2.2.2.2.1.n≤30000:=hr;omega)]
   exact ⟨0,rfl⟩
end
theorem o8 (n:Nat) (hn:10000000≤n) (dd:Int) (hw:∃ w,Xd n dd 10=some w∧w≠5) (s:SpT) (c:CfT) (a:Hlb) (hd:a.1=dd) (hs:SpS 30000 s) (hc:CfS 30000 c) (hm:MailS 30000 a.2.2.2.1)
  (hJ:∀ (id2 a30 a31 a32 a33:Int) (a34:Bool) (a35 a36:BA) (a37:Sq RcT) (a38:BA) (a39:Int) (a40 a41 a42:Bool) (t62 m020 m021:Int) (m022:Bool) (m023 m024:BA) (m025:Sq RcT) (m026:BA) (m027:Int) (m028 m029:Bool) (i:SpT) (cc:CfT),SE i s→CE cc c→
   ∃ e:Int,Oa n (spB s) id2 1 true s.1 s.2.1 c.1 c.2.1 c.2.2.1 c.2.2.2.1 c.2.2.2.2.1 c.2.2.2.2.2.1 c.2.2.2.2.2.2.1 c.2.2.2.2.2.2.2.1 dd a30 a31 a32 a33 a34 a35 a36 a37 a38 a39 a40 a41 a42 t62 m020 m021 m022 m023 m024 m025 m026 m027 m028 m029 i.1 i.2.1 cc.1 cc.2.1 cc.2.2.1 cc.2.2.2.1 cc.2.2.2.2.1 cc.2.2.2.2.2.1 cc.2.2.2.2.2.2.1 cc.2.2.2.2.2.2.2.1 s.1 s.2.1 0
    =some (.out (e,e,false,s.1,s.2.1,c.1,c.2.1,c.2.2.1,c.2.2.2.1,c.2.2.2.2.1,c.2.2.2.2.2.1,c.2.2.2.2.2.2.1,c.2.2.2.2.2.2.2.1,t62,i.1,i.2.1,cc.1,cc.2.1,cc.2.2.1,cc.2.2.2.1,cc.2.2.2.2.1,cc.2.2.2.2.2.1,cc.2.2.2.2.2.2.1,cc.2.2.2.2.2.2.2.1,s.1,s.2.1,0))):
  Ad n s c a=some (s,(true,())):=by
 obtain ⟨b,hb,hbe⟩:=rS n a.2.2.2.1 (by have:=hm.rn;omega) hn
 obtain ⟨i,hi,hie⟩:=R0 n s (hs.mono (by omega)) hn
 obtain ⟨cc,hcc,hce⟩:=ZX n c (by have:=hc.tn;omega) (by have:=hc.bn;omega) hn
 obtain ⟨w,hw,hw5⟩:=hw
 have hJ0:∃ id2,Ge n (spB s) a.2.2.1 s.1 s.2.1 c.1 c.2.1 c.2.2.1 c.2.2.2.1 c.2.2.2.2.1 c.2.2.2.2.2.1 c.2.2.2.2.2.2.1 c.2.2.2.2.2.2.2.1 a.1 a.2.1 a.2.2.1 a.2.2.2.1.1 a.2.2.2.1.2.1 a.2.2.2.1.2.2.1 a.2.2.2.1.2.2.2.1.1 a.2.2.2.1.2.2.2.1.2.1 a.2.2.2.1.2.2.2.2.1 a.2.2.2.1.2.2.2.2.2.1 a.2.2.2.1.2.2.2.2.2.2.1 a.2.2.2.1.2.2.2.2.2.2.2.1 a.2.2.2.1.2.2.2.2.2.2.2.2.1 a.2.2.2.2.1 (0:Int) b.1 b.2.1 b.2.2.1 b.2.2.2.1.1 b.2.2.2.1.2.1 b.2.2.2.2.1 b.2.2.2.2.2.1 b.2.2.2.2.2.2.1 b.2.2.2.2.2.2.2.1 b.2.2.2.2.2.2.2.2.1
   =some (.out (spB s,id2,s.1,s.2.1,c.1,c.2.1,c.2.2.1,c.2.2.2.1,c.2.2.2.2.1,c.2.2.2.2.2.1,c.2.2.2.2.2.2.1,c.2.2.2.2.2.2.2.1,a.1,a.2.1,a.2.2.1,a.2.2.2.1.1,a.2.2.2.1.2.1,a.2.2.2.1.2.2.1,a.2.2.2.1.2.2.2.1.1,a.2.2.2.1.2.2.2.1.2.1,a.2.2.2.1.2.2.2.2.1,a.2.2.2.1.2.2.2.2.2.1,a.2.2.2.1.2.2.2.2.2.2.1,a.2.2.2.1.2.2.2.2.2.2.2.1,a.2.2.2.1.2.2.2.2.2.2.2.2.1,a.2.2.2.2.1,(0:Int),b.1,b.2.1,b.2.2.1,b.2.2.2.1.1,b.2.2.2.1.2.1,b.2.2.2.2.1,b.2.2.2.2.2.1,b.2.2.2.2.2.2.1,b.2.2.2.2.2.2.2.1,b.2.2.2.2.2.2.2.2.1)):=by
  unfold Ge Sg
  rw [hd,hw]
  have h5:(w==(5:Int))=false:=by simpa using hw5
  cases a.2.2.2.2.1 with
  | false=>exact ⟨_,rfl⟩
  | true=>
   rw [if_pos rfl]
   by_cases h0:0<s.2.1.n
   · obtain ⟨v,v1,v2⟩:=XX n a.2.2.1 s.2.1.n h0 (by have:=hs.n;omega)
     rw [if_pos (decide_eq_true (by omega)),v2]
     simp only [Option.bind_some,h5,Bool.false_eq_true,if_false,fa,ba]
     rw [if_pos ⟨by omega,by omega⟩]
     exact ⟨_,rfl⟩
   · rw [if_neg (by simp;omega)]
     exact ⟨_,rfl⟩
 obtain ⟨id2,hJ0⟩:=hJ0
 obtain ⟨e,he⟩:=hJ id2 a.2.1 a.2.2.1 a.2.2.2.1.1 a.2.2.2.1.2.1 a.2.2.2.1.2.2.1 a.2.2.2.1.2.2.2.1.1 a.2.2.2.1.2.2.2.1.2.1 a.2.2.2.1.2.2.2.2.1 a.2.2.2.1.2.2.2.2.2.1 a.2.2.2.1.2.2.2.2.2.2.1 a.2.2.2.1.2.2.2.2.2.2.2.1 a.2.2.2.1.2.2.2.2.2.2.2.2.1 a.2.2.2.2.1 (0:Int) b.1 b.2.1 b.2.2.1 b.2.2.2.1.1 b.2.2.2.1.2.1 b.2.2.2.2.1 b.2.2.2.2.2.1 b.2.2.2.2.2.2.1 b.2.2.2.2.2.2.2.1 b.2.2.2.2.2.2.2.2.1 i cc hie hce
 have hES:=sab n i s ((hs.of hie).mono (by omega)) hie hn
 have hEC:=q6 n cc c (by have:=(hc.of hce).tn;omega) (by have:=(hc.of hce).bn;omega) hce hn
 unfold Ad Wk
 rw [Vdb,wdb n s (hs.mono (by omega)) hn,Option.bind_some,D9,hb,Option.bind_some,hJ0,Option.bind_some]
 simp only [onL]
 rw [Vdb,hi,Llb,hcc]
 simp only [Option.bind_some,hd,he,onL,nmb,bne_self_eq_false,if_true,Vdb,Llb,hES,hEC,Bool.not_true,Bool.not_false,Bool.false_eq_true,if_false,ba,fa]
 rw [if_neg (by simp)]
section
variable (n:Nat) (hn:10000000≤n) (dd:Int) (s:SpT) (c:CfT) (l:Sq Hlb)
include hn
theorem jib (hst:∀ j,j<l.n→Ad n s c (dd,(l.at' j).2)=some (s,(true,()))):∀ (d i m:Nat),i+d=13→d<m→i≤12→Ob n m dd (i:Int) s.1 s.2.1 c.1 c.2.1 c.2.2.1 c.2.2.2.1 c.2.2.2.2.1 c.2.2.2.2.2.1 c.2.2.2.2.2.2.1 c.2.2.2.2.2.2.2.1 l=some (.out ()):=by
 intro d
 induction d with
 | zero=>intro i m hi hm h14;omega
 | succ d ih=>
  intro i m hi hm h14
  obtain ⟨m,rfl⟩:∃ q,m=q+1:=⟨m - 1,by omega⟩
  rw [Ob,tg]
  by_cases a4:(i:Int)<(l.n:Int)
  · by_cases g:(i:Int)<12
    · have h1:=hst i (by omega)
      rw [if_pos (decide_eq_true a4),if_pos (decide_eq_true g),if_pos ⟨by omega,a4⟩,Int.toNat_natCast,wr1 (k:=i) (by omega)]
      show (Ad n s c (dd,(l.at' i).2)).bind _=_
      rw [h1,Option.bind_some,if_neg (by simp)]
      exact ih (i+1) m (by omega) (by omega) (by omega)
    · rw [if_pos (decide_eq_true a4),if_neg (by simpa using g)]
  · rw [if_neg (by simpa using a4)]
end
theorem A7 (p:ScT) (hp:ScS 140737488351232 p) (dd:Int) (hst:ScS 30000 p→∀ j,j<p.2.2.1.n→Ad 10000000 p.1 p.2.1 (dd,(p.2.2.1.at' j).2)=some (p.1,(true,()))):uc 10000000 p dd=some true:=by
 have hn:10000000≤10000000:=Nat.le_refl _
 obtain ⟨b,hb,hb2⟩:=ueb 10000000 p hp hn
 unfold uc Vk
 rw [show (((p.1.1,(p.1.2.1,())),((p.2.1.1,(p.2.1.2.1,(p.2.1.2.2.1,(p.2.1.2.2.2.1,(p.2.1.2.2.2.2.1,(p.2.1.2.2.2.2.2.1,(p.2.1.2.2.2.2.2.2.1,(p.2.1.2.2.2.2.2.2.2.1,())))))))),(p.2.2.1,()))):ScT)=p from rfl,hb,Option.bind_some]
 cases b with
 | true=>rfl
 | false=>
  have hL:=jib 10000000 hn dd p.1 p.2.1 p.2.2.1 (hst (hb2 rfl)) 13 0 10000000 rfl (by omega) (by omega)
  rw [show ((0:Nat):Int)=0 from rfl] at hL
  rw [if_neg (by simp),hL,Option.bind_some]
  simp only [onL,wjb,Option.bind_some]
theorem b9 {m:sd} (h:Fit reachBytes mlK m):MailS 140737488351232 m:=
 ⟨h.2.2.2.2.2.1,h.2.2.2.1.1,h.2.2.2.1.2.1,h.2.2.2.2.1.1,fun i hi=>⟨(h.2.2.2.2.1.2 i hi).1.1,(h.2.2.2.2.1.2 i hi).1.2.1⟩⟩
theorem Acb {p:ScT} (h:Fit reachBytes K10 p):ScS 140737488351232 p:=
 ⟨⟨h.1.2.1.1,fun i hi=>b9 (h.1.2.1.2 i hi)⟩,⟨h.2.1.1.1,fun i hi=>(h.2.1.1.2 i hi).1,h.2.1.2.1,h.2.1.2.2.2.2.1.1⟩,h.2.2.1.1,fun i hi=>b9 (h.2.2.1.2 i hi).2.2.2.1⟩
theorem plain_SpoolUses (p:ScT) (h:Fit reachBytes K10 p):∃ n,pouchlaw17_SpoolUses n p=some true:=⟨10000000,by
 have hn:10000000≤10000000:=Nat.le_refl _
 have:=A7 p (Acb h) 0 fun hs j hj=>o8 10000000 hn 0 ⟨0,rfl,by decide⟩ p.1 p.2.1 _ rfl hs.s hs.c (hs.m j hj) fun id2 a30 a31 a32 a33 a34 a35 a36 a37 a38 a39 a40 a41 a42 t62 m020 m021 m022 m023 m024 m025 m026 m027 m028 m029 i cc hi hc=>jhb 10000000 hn id2 p.1.1 p.1.2.1 p.2.1.1 p.2.1.2.1 p.2.1.2.2.1 p.2.1.2.2.2.1 p.2.1.2.2.2.2.1 p.2.1.2.2.2.2.2.1 p.2.1.2.2.2.2.2.2.1 p.2.1.2.2.2.2.2.2.2.1 a30 a31 a32 a33 a34 a35 a36 a37 a38 a39 a40 a41 a42 t62 m020 m021 m022 m023 m024 m025 m026 m027 m028 m029 i.1 i.2.1 cc.1 cc.2.1 cc.2.2.1 cc.2.2.2.1 cc.2.2.2.2.1 cc.2.2.2.2.2.1 cc.2.2.2.2.2.2.1 cc.2.2.2.2.2.2.2.1 p.1.1 p.1.2.1 0 hs.s hi
 unfold pouchlaw17_SpoolUses Xf
 show (uc 10000000 p 0).bind _=_
 rw [this];rfl⟩
theorem plain_SpoolGets (p:ScT) (h:Fit reachBytes K10 p):∃ n,pouchlaw17_SpoolGets n p=some true:=⟨10000000,by
 have hn:10000000≤10000000:=Nat.le_refl _
 have:=A7 p (Acb h) 7 fun hs j hj=>o8 10000000 hn 7 ⟨7,rfl,by decide⟩ p.1 p.2.1 _ rfl hs.s hs.c (hs.m j hj) fun id2 a30 a31 a32 a33 a34 a35 a36 a37 a38 a39 a40 a41 a42 t62 m020 m021 m022 m023 m024 m025 m026 m027 m028 m029 i cc hi hc=>hhb 10000000 hn id2 p.1.1 p.1.2.1 p.2.1.1 p.2.1.2.1 p.2.1.2.2.1 p.2.1.2.2.2.1 p.2.1.2.2.2.2.1 p.2.1.2.2.2.2.2.1 p.2.1.2.2.2.2.2.2.1 p.2.1.2.2.2.2.2.2.2.1 a30 a31 a32 a33 a34 a35 a36 a37 a38 a39 a40 a41 a42 t62 m020 m021 m022 m023 m024 m025 m026 m027 m028 m029 i.1 i.2.1 cc.1 cc.2.1 cc.2.2.1 cc.2.2.2.1 cc.2.2.2.2.1 cc.2.2.2.2.2.1 cc.2.2.2.2.2.2.1 cc.2.2.2.2.2.2.2.1 p.1.1 p.1.2.1 0 hs.s hi
 unfold pouchlaw17_SpoolGets Wf
 show (uc 10000000 p 7).bind _=_
 rw [this];rfl⟩
open Go Go.RowKit
theorem mO (n:Nat) (a l m:Int):lc n a l m=some (btw l m a):=by
 unfold lc Kn btw
 by_cases h:l≤a
 · rw [if_pos (decide_eq_true h),decide_eq_true h,Bool.true_and]
 · rw [if_neg (by simpa using h),decide_eq_false h,Bool.false_and]
theorem Jab (n:Nat) (a l m:Int):qe n a l m=some (btw l m a):=by
 unfold qe zn btw
 by_cases h:l≤a
 · rw [if_pos (decide_eq_true h),decide_eq_true h,Bool.true_and]
 · rw [if_neg (by simpa using h),decide_eq_false h,Bool.false_and]
theorem dY (n:Nat) (a m:Int):km n a m=some (btw 0 m a):=J8 n a m
def Xhb (c:Int):Bool:=btw 97 122 c
def A4 (l:List Int):Bool:=l.all Xhb&&btw 1 32 (l.length:Int)
theorem Zcb (n:Nat) (s:BA) (hs:s.size≤1000000):∀ (r:List Int) (k m:Nat),(bs s).drop k=r→k≤s.size→r.length<m→Rc n m s (s.size:Int) (k:Int)=some (if r.all Xhb=true then .out s else .ret false)
 | [],k,m,h,hk,hm=>by
  obtain ⟨m,rfl⟩:∃ q,m=q+1:=⟨m - 1,by omega⟩
  have:=yn h
  rw [Rc,jj,if_neg (by simpa using this)];rfl
 | c::r,k,m,h,hk,hm=>by
  obtain ⟨m,rfl⟩:∃ q,m=q+1:=⟨m - 1,by omega⟩
  obtain ⟨h1,h2,h3,h4,h5⟩:=di h
  have ih:=Zcb n s hs r (k+1) m h3 (by omega) (by simpa using hm)
  rw [Rc,jj,if_pos (decide_eq_true h1),if_pos ⟨by omega,h1⟩,h2,wr1 (k:=k) (by omega),List.all_cons,show Xhb c=(decide (97≤c)&&decide (c≤122)) from rfl]
  by_cases g1:c<97
  · rw [if_neg (by simpa using g1),decide_eq_false (show ¬(97≤c) by omega)];rfl
  rw [if_pos (by simpa using g1),decide_eq_true (show 97≤c by omega),Bool.true_and,if_pos ⟨by omega,h1⟩]
  by_cases g2:c>122
  · rw [if_pos (by simpa using g2),decide_eq_false (show ¬(c≤122) by omega)];rfl
  rw [if_neg (by simpa using g2),decide_eq_true (show c≤122 by omega),Bool.true_and,ih]
theorem aib (n:Nat) (s:BA) (hs:s.size≤1000000) (hn:10000000≤n):Ap n s=some (A4 (bs s)):=by
 have h:=Zcb n s hs (bs s) 0 n (by simp) (by omega) (by rw [Da];omega)
 rw [show ((0:Nat):Int)=0 from rfl] at h
 unfold Ap tt A4
 rw [h,Da]
 cases (bs s).all Xhb with
 | false=>rfl
 | true=>simp [onL,mO]
theorem bab (n:Nat) (s:BA) (hs:s.size≤1000000):∀ (r:List Int) (k m:Nat),(bs s).drop k=r→k≤s.size→r.length<m→yb n m s (k:Int)=some (if r.all Xhb=true then .out s else .ret false)
 | [],k,m,h,hk,hm=>by
  obtain ⟨m,rfl⟩:∃ q,m=q+1:=⟨m - 1,by omega⟩
  have:=yn h
  rw [yb,Ke,if_neg (by simpa using this)];rfl
 | c::r,k,m,h,hk,hm=>by
  obtain ⟨m,rfl⟩:∃ q,m=q+1:=⟨m - 1,by omega⟩
  obtain ⟨h1,h2,h3,h4,h5⟩:=di h
  have ih:=bab n s hs r (k+1) m h3 (by omega) (by simpa using hm)
  rw [yb,Ke,if_pos (decide_eq_true h1),if_pos ⟨by omega,h1⟩,h2,wr1 (k:=k) (by omega),List.all_cons,show Xhb c=(decide (97≤c)&&decide (c≤122)) from rfl]
  by_cases g1:c<97
  · rw [if_neg (by simpa using g1),decide_eq_false (show ¬(97≤c) by omega)];rfl
  rw [if_pos (by simpa using g1),decide_eq_true (show 97≤c by omega),Bool.true_and,if_pos ⟨by omega,h1⟩]
  by_cases g2:c>122
  · rw [if_pos (by simpa using g2),decide_eq_false (show ¬(c≤122) by omega)];rfl
  rw [if_neg (by simpa using g2),decide_eq_true (show c≤122 by omega),Bool.true_and,ih]
theorem cfb (n:Nat) (s:BA) (hs:s.size≤1000000) (hn:10000000≤n):vh n s=some (A4 (bs s)):=by
 have h:=bab n s hs (bs s) 0 n (by simp) (by omega) (by rw [Da];omega)
 rw [show ((0:Nat):Int)=0 from rfl] at h
 unfold vh bl A4 btw
 rw [h,Da]
 cases (bs s).all Xhb with
 | false=>rfl
 | true=>
  simp only [if_true,Option.bind_some,onL,Bool.true_and]
  by_cases g:(s.size:Int)≥1
  · rw [if_pos (decide_eq_true g),decide_eq_true (show 1≤(s.size:Int) from g),Bool.true_and]
  · rw [if_neg (by simpa using g),decide_eq_false (show ¬(1≤(s.size:Int)) from g)];rfl
def Bgb (b:BkT):Bool:=btw 0 1048576 b.2.1&&(btw 0 1048576 b.2.2.1&&(btw 0 b.2.1 b.1&&(btw 1 1048576 b.2.2.2.1&&btw 0 (b.2.2.2.1 - 1) b.2.2.2.2.1)))
theorem Inb {x:Int} (h:btw 1 1048576 x=true):IntKind.wrap .i64 (x - 1)=x - 1:=by
 unfold btw at h
 simp only [Bool.and_eq_true,decide_eq_true_eq] at h
 exact wr (by omega) (by omega)
theorem shb (n:Nat) (b:BkT):gu n b=some (Bgb b):=by
 unfold gu Cw Bgb
 simp only [Jab,Option.bind_some]
 cases btw 0 1048576 b.2.1 with
 | false=>rfl
 | true=>
  cases btw 0 1048576 b.2.2.1 with
  | false=>rfl
  | true=>
   cases btw 0 b.2.1 b.1 with
   | false=>rfl
   | true=>
    cases h:btw 1 1048576 b.2.2.2.1 with
    | false=>rfl
    | true=>rw [Inb h];rfl
theorem qbb (n:Nat) (b:BkT):ng n b=some (Bgb b):=by
 unfold ng Cj Bgb
 simp only [dY,Option.bind_some]
 cases btw 0 1048576 b.2.1 with
 | false=>rfl
 | true=>
  cases btw 0 1048576 b.2.2.1 with
  | false=>rfl
  | true=>
   cases btw 0 b.2.1 b.1 with
   | false=>rfl
   | true=>
    rw [if_pos rfl,if_pos rfl,if_pos rfl,Bool.true_and,Bool.true_and,Bool.true_and]
    cases h:btw 1 1048576 b.2.2.2.1 with
    | true=>
     rw [Inb h,Bool.true_and]
     unfold btw at h
     simp only [Bool.and_eq_true,decide_eq_true_eq] at h
     rw [if_pos (decide_eq_true h.1),if_pos (decide_eq_true h.2)]
    | false=>
     rw [Bool.false_and]
     unfold btw at h
     by_cases g:1≤b.2.2.2.1
     · rw [decide_eq_true g,Bool.true_and] at h
       rw [if_pos (decide_eq_true g),if_neg (by simpa using h)]
     · rw [if_neg (by simpa using g)]
def pkb (t:TnT):Bool:=A4 (bs t.1)&&(btw 0 1073741824 t.2.1&&(btw 0 64 t.2.2.1&&(btw 1 16384 t.2.2.2.1&&(Bgb t.2.2.2.2.1&&((t.2.2.2.2.1.1==t.2.2.2.2.1.2.1)&&(t.2.2.2.2.1.2.2.2.2.1==0))))))
theorem Qjb (b:BkT):(b.1,(b.2.1,(b.2.2.1,(b.2.2.2.1,(b.2.2.2.2.1,())))))=b:=rfl
theorem Nnb (t:TnT):(t.1,(t.2.1,(t.2.2.1,(t.2.2.2.1,((t.2.2.2.2.1.1,(t.2.2.2.2.1.2.1,(t.2.2.2.2.1.2.2.1,(t.2.2.2.2.1.2.2.2.1,(t.2.2.2.2.1.2.2.2.2.1,()))))),(t.2.2.2.2.2.1,()))))))=t:=rfl
theorem Idb (n:Nat) (t:TnT) (hs:t.1.size≤1000000) (hn:10000000≤n):Rk n t=some (pkb t):=by
 unfold Rk Jn pkb Hn In
 rw [Qjb]
 simp only [aib n t.1 hs hn,mO,shb,Option.bind_some]
 cases A4 (bs t.1) with
 | false=>rfl
 | true=>
  cases btw 0 1073741824 t.2.1 with
  | false=>rfl
  | true=>
   cases btw 0 64 t.2.2.1 with
   | false=>rfl
   | true=>
    cases btw 1 16384 t.2.2.2.1 with
    | false=>rfl
    | true=>
     cases Bgb t.2.2.2.2.1 with
     | false=>rfl
     | true=>
      cases (t.2.2.2.2.1.1==t.2.2.2.2.1.2.1) with
      | false=>rfl
      | true=>rfl
def okT (q:Sq TnT) (i:Nat):Bool:=pkb (q.at' i)&&okF (fun k=>!decide (bs (q.at' k).1=bs (q.at' i).1)) i 0
section
variable (n:Nat) (hn:10000000≤n) (c2:BA) (c3 c4:Int) (c5:Sq Int) (c6 c7:Int) (c8:Nat)
include hn
theorem gcb (q:Sq TnT) (hs:∀ i,i<q.n→(q.at' i).1.size≤1000000) (hq:q.n≤1000000):∀ (d m i:Nat) (seen:Sq BA),i+d=q.n→d<m→seen.n=i→(∀ k,k<i→seen.at' k=(q.at' k).1)→
  vd n m q (q.n:Int) (i:Int) q c2 c3 c4 c5 c6 c7 c8 seen=some (if okF (okT q) d i=true then .out (q,c2,c3,c4,c5,c6,c7,c8) else .ret false)
 | 0,m,i,seen,hi,hm,h1,h2=>by
  obtain ⟨m,rfl⟩:∃ p,m=p+1:=⟨m - 1,by omega⟩
  rw [vd,Qk,if_neg (by simp;omega)];rfl
 | d+1,m,i,seen,hi,hm,h1,h2=>by
  obtain ⟨m,rfl⟩:∃ p,m=p+1:=⟨m - 1,by omega⟩
  have e1:=wr1 (k:=i) (by omega)
  have hr:=hs i (by omega)
  have hrc:=Idb n (q.at' i) hr hn
  have hk:rh .str (q.at' i).1=true:=by
   simp only [rh,Nat.ble_eq];omega
  have hhas:AX .str seen (q.at' i).1=!okF (fun k=>!decide (bs (q.at' k).1=bs (q.at' i).1)) i 0:=by
   rw [Bool.eq_iff_iff,Bool.not_eq_true',←Bool.not_eq_true,FO]
   unfold AX
   have h1':seen.n=i:=h1
   rw [h1']
   simp only [List.any_map,List.any_eq_true,List.mem_range,Function.comp]
   have ee:∀ k,k<i→(Hgb .str (q.at' i).1 (seen.at' k)=true↔bs (q.at' k).1=bs (q.at' i).1):=fun k hk=>by
    rw [h2 k hk]
    show (((q.at' i).1.toList==(q.at' k).1.toList)=true)↔_
    rw [gw,decide_eq_true_iff]
    exact ⟨fun h=>h.symm,fun h=>h.symm⟩
   constructor
   · rintro ⟨k,hk,he⟩ hall
     have:=hall k (Nat.zero_le _) (by omega)
     rw [(ee k hk).1 he] at this
     simp at this
   · intro hne
     apply Classical.byContradiction
     intro hno
     apply hne
     intro k _ hk
     simp only [Bool.not_eq_true',decide_eq_false_iff_not]
     exact fun hb=>hno ⟨k,by omega,(ee k (by omega)).2 hb⟩
  rw [vd,Qk,if_pos (decide_eq_true (by omega)),if_pos ⟨by omega,by omega⟩,Int.toNat_natCast,Nnb,hrc,Option.bind_some,Fe,show okT q i=(pkb (q.at' i)&&okF (fun k=>!decide (bs (q.at' k).1=bs (q.at' i).1)) i 0) from rfl]
  cases hb:pkb (q.at' i) with
  | false=>rfl
  | true=>
   rw [if_pos (by rfl),if_pos hk,hhas,Bool.true_and]
   cases ho:okF (fun k=>!decide (bs (q.at' k).1=bs (q.at' i).1)) i 0 with
   | false=>rfl
   | true=>
    rw [if_neg (by simp),if_pos hk,e1,Bool.true_and]
    have hp:(KX .str seen (q.at' i).1).n=i+1:=by
     simp only [KX,hhas,ho,Bool.not_true,cond_false]
     show seen.n+1=i+1
     omega
    refine gcb q hs hq d m (i+1) _ (by omega) (by omega) hp fun k hk=>?_
    show (if k<seen.n then seen.at' k else (q.at' i).1)=_
    by_cases e:k<i
    · rw [if_pos (by omega)];exact h2 k e
    · rw [if_neg (by omega),show k=i by omega]
theorem wgb (q:Sq Int) (hq:q.n≤1000000):∀ (d m i:Nat) (x:Int),i+d=q.n→d<m→∃ M,Qa n m q x (i:Int)=some (.out M)∧∀ b,(M≤b↔x≤b∧okF (fun k=>decide (q.at' k≤b)) d i=true)
 | 0,m,i,x,hi,hm=>by
  obtain ⟨m,rfl⟩:∃ p,m=p+1:=⟨m - 1,by omega⟩
  rw [Qa,od,if_neg (by simp;omega)]
  exact ⟨x,rfl,fun b=>by simp [okF]⟩
 | d+1,m,i,x,hi,hm=>by
  obtain ⟨m,rfl⟩:∃ p,m=p+1:=⟨m - 1,by omega⟩
  rw [Qa,od,if_pos (decide_eq_true (by omega)),if_pos ⟨by omega,by omega⟩,Int.toNat_natCast,wr1 (k:=i) (by omega)]
  obtain ⟨M,h1,h2⟩:=wgb q hq d m (i+1) (if q.at' i>x then q.at' i else x) (by omega) (by omega)
  refine ⟨M,h1,fun b=>?_⟩
  rw [h2 b,Fe,Bool.and_eq_true,decide_eq_true_iff]
  split
  · exact ⟨fun h=>⟨by omega,h.1,h.2⟩,fun h=>⟨h.2.1,h.2.2⟩⟩
  · exact ⟨fun h=>⟨h.1,by omega,h.2⟩,fun h=>⟨h.1,h.2.2⟩⟩
theorem zgb (q:Sq Int) (hq:q.n≤1000000):∀ (d m i:Nat) (x:Int),i+d=q.n→d<m→∃ M,Ra n m q x (i:Int)=some (.out M)∧∀ b,(b≤M↔b≤x∧okF (fun k=>decide (b≤q.at' k)) d i=true)
 | 0,m,i,x,hi,hm=>by
  obtain ⟨m,rfl⟩:∃ p,m=p+1:=⟨m - 1,by omega⟩
  rw [Ra,pd,if_neg (by simp;omega)]
  exact ⟨x,rfl,fun b=>by simp [okF]⟩
 | d+1,m,i,x,hi,hm=>by
  obtain ⟨m,rfl⟩:∃ p,m=p+1:=⟨m - 1,by omega⟩
  rw [Ra,pd,if_pos (decide_eq_true (by omega)),if_pos ⟨by omega,by omega⟩,Int.toNat_natCast,wr1 (k:=i) (by omega)]
  obtain ⟨M,h1,h2⟩:=zgb q hq d m (i+1) (if q.at' i<x then q.at' i else x) (by omega) (by omega)
  refine ⟨M,h1,fun b=>?_⟩
  rw [h2 b,Fe,Bool.and_eq_true,decide_eq_true_iff]
  split
  · exact ⟨fun h=>⟨by omega,h.1,h.2⟩,fun h=>⟨h.2.1,h.2.2⟩⟩
  · exact ⟨fun h=>⟨h.1,by omega,h.2⟩,fun h=>⟨h.1,h.2.2⟩⟩
def leB (q:Sq Int) (b:Int):Bool:=okF (fun k=>decide (q.at' k≤b)) q.n 0
def geB (q:Sq Int) (b:Int):Bool:=okF (fun k=>decide (b≤q.at' k)) q.n 0
theorem xgb (q:Sq Int) (hq:q.n≤1000000) (h0:0<q.n):∃ M,Jd n q=some M∧∀ b,decide (M≤b)=leB q b:=by
 obtain ⟨M,h1,h2⟩:=wgb n hn q hq (q.n - 1) n 1 (q.at' 0) (by omega) (by omega)
 rw [show ((1:Nat):Int)=1 from rfl] at h1
 refine ⟨M,?_,fun b=>?_⟩
 · unfold Jd jh
   rw [if_neg (by simp;omega),if_pos ⟨by omega,by omega⟩,show Int.toNat (0:Int)=0 from rfl,h1];rfl
 · rw [Bool.eq_iff_iff,decide_eq_true_iff,h2 b]
   unfold leB
   rw [show q.n=(q.n - 1)+1 by omega,Fe,Bool.and_eq_true,decide_eq_true_iff]
   simp
theorem Ojb (q:Sq Int) (hq:q.n≤1000000) (h0:0<q.n):∃ M,Oe n q=some M∧∀ b,decide (b≤M)=geB q b:=by
 obtain ⟨M,h1,h2⟩:=zgb n hn q hq (q.n - 1) n 1 (q.at' 0) (by omega) (by omega)
 rw [show ((1:Nat):Int)=1 from rfl] at h1
 refine ⟨M,?_,fun b=>?_⟩
 · unfold Oe kh
   rw [if_neg (by simp;omega),if_pos ⟨by omega,by omega⟩,show Int.toNat (0:Int)=0 from rfl,h1];rfl
 · rw [Bool.eq_iff_iff,decide_eq_true_iff,h2 b]
   unfold geB
   rw [show q.n=(q.n - 1)+1 by omega,Fe,Bool.and_eq_true,decide_eq_true_iff]
   simp
def EV (q:Sq Int):Bool:=btw 1 16 (q.n:Int)&&(geB q 1&&leB q 1099511627776)
theorem heb (q:Sq Int) (hq:q.n≤1000000):zp n q=some (EV q):=by
 unfold zp rt EV btw
 by_cases g1:(q.n:Int)≥1
 · obtain ⟨M,M1,M2⟩:=xgb n hn q hq (by omega)
   obtain ⟨N,N1,N2⟩:=Ojb n hn q hq (by omega)
   rw [if_pos (decide_eq_true g1),decide_eq_true (show 1≤(q.n:Int) from g1),Bool.true_and]
   by_cases g2:(q.n:Int)≤16
   · rw [if_pos (decide_eq_true g2),decide_eq_true g2,Bool.true_and,M1,N1,Option.bind_some]
     have:=N2 1
     rw [show decide (N≥1)=geB q 1 from this]
     cases geB q 1 with
     | false=>rfl
     | true=>
      rw [if_pos rfl,Option.bind_some,M2];rfl
   · rw [if_neg (by simpa using g2),decide_eq_false g2];rfl
 · rw [if_neg (by simpa using g1),decide_eq_false (show ¬(1≤(q.n:Int)) from g1)];rfl
theorem S9 (q:Sq Int) (hq:q.n≤1000000):∀ (d m i:Nat),i+d=q.n→d<m→Wa n m q (i:Int)=some (if okF (fun k=>btw 1 1099511627776 (q.at' k)) d i=true then .out () else .ret false)
 | 0,m,i,hi,hm=>by
  obtain ⟨m,rfl⟩:∃ p,m=p+1:=⟨m - 1,by omega⟩
  rw [Wa,Td,if_neg (by simp;omega)];rfl
 | d+1,m,i,hi,hm=>by
  obtain ⟨m,rfl⟩:∃ p,m=p+1:=⟨m - 1,by omega⟩
  rw [Wa,Td,if_pos (decide_eq_true (by omega)),if_pos ⟨by omega,by omega⟩,Int.toNat_natCast,wr1 (k:=i) (by omega),Fe,show btw 1 1099511627776 (q.at' i)=(decide (1≤q.at' i)&&decide (q.at' i≤1099511627776)) from rfl]
  by_cases g1:q.at' i<1
  · rw [if_neg (by simpa using g1),decide_eq_false (show ¬(1≤q.at' i) by omega)];rfl
  rw [if_pos (by simpa using g1),decide_eq_true (show 1≤q.at' i by omega),Bool.true_and,if_pos ⟨by omega,by omega⟩]
  by_cases g2:q.at' i>1099511627776
  · rw [if_pos (by simpa using g2),decide_eq_false (show ¬(q.at' i≤1099511627776) by omega)];rfl
  rw [if_neg (by simpa using g2),decide_eq_true (show q.at' i≤1099511627776 by omega),Bool.true_and]
  exact S9 q hq d m (i+1) (by omega) (by omega)
omit hn in
theorem ddb {p q:Nat→Bool}:∀ (d i:Nat),okF (fun k=>p k&&q k) d i=(okF p d i&&okF q d i)
 | 0,i=>rfl
 | d+1,i=>by
  rw [Fe,Fe,Fe,ddb d (i+1)]
  cases p i<;>cases q i<;>simp
theorem Seb (q:Sq Int) (hq:q.n≤1000000):vf n q=some (EV q):=by
 have h1:=S9 n hn q hq q.n n 0 (by omega) (by omega)
 rw [show ((0:Nat):Int)=0 from rfl] at h1
 have h2:okF (fun k=>btw 1 1099511627776 (q.at' k)) q.n 0=(geB q 1&&leB q 1099511627776):=by
  unfold geB leB
  exact ddb q.n 0
 rw [h2] at h1
 unfold vf vi EV btw
 by_cases g1:(q.n:Int)<1
 · rw [if_neg (by simpa using g1),decide_eq_false (show ¬(1≤(q.n:Int)) by omega)];rfl
 rw [if_pos (by simpa using g1),decide_eq_true (show 1≤(q.n:Int) by omega),Bool.true_and]
 by_cases g2:(q.n:Int)>16
 · rw [if_pos (by simpa using g2),decide_eq_false (show ¬((q.n:Int)≤16) by omega)];rfl
 rw [if_neg (by simpa using g2),decide_eq_true (show (q.n:Int)≤16 by omega),Bool.true_and,h1]
 cases (geB q 1&&leB q 1099511627776)<;>rfl
def Hcb (l:List Int):Bool:=decide (l.length≤200)&&(DK l&&!decide (l.head?=some 91))
theorem Mbb (s:BA) (hs:s.size≤1000000):Pk n s=some (Hcb (bs s)):=by
 unfold Pk Dn Hcb
 rw [Da,tS n s hs hn,bQ,fS,Option.bind_some,Option.bind_some]
 by_cases g:s.size≤200
 · rw [if_pos (by simp;omega),decide_eq_true g,Bool.true_and]
   cases DK (bs s)<;>rfl
 · rw [if_neg (by simp;omega),decide_eq_false g];rfl
omit hn in
theorem Deb {l:List Int} (h:DK l=true):Ceb l=decide (l.head?=some 91):=by
 by_cases h1:l.head?=some 91
 · rw [decide_eq_true h1]
   have h2:=h
   rw [←fS] at h2
   unfold Egb at h2
   rw [if_pos h1,Bool.and_eq_true,decide_eq_true_iff] at h2
   unfold Ceb
   have hl:2≤l.length:=by
    cases l with
    | nil=>cases h1
    | cons c r=>cases r with
     | nil=>
      have a:=h1
      have b:=h2.1
      simp at a b
      omega
     | cons d r=>simp
   rw [decide_eq_true hl,decide_eq_true h1,decide_eq_true h2.1,h2.2];rfl
 · rw [decide_eq_false h1]
   unfold Ceb
   rw [decide_eq_false h1];simp
theorem Teb (s:BA) (hs:s.size≤1000000):nP n s=some (DK (bs s)&&!decide ((bs s).head?=some 91)):=by
 unfold nP JM
 rw [OX n s hs hn,uU n s hs hn,Option.bind_some,Option.bind_some]
 cases h:DK (bs s) with
 | false=>rfl
 | true=>rw [if_pos rfl,Deb h];rfl
omit hn in
def cfB (c:CfT):Bool:=okF (okT c.1) c.1.n 0&&(btw 1 4 (c.1.n:Int)&&(Hcb (bs c.2.1)&&(EV c.2.2.2.2.1&&(leB c.2.2.2.2.1 1073741824&&(btw 0 1099511627776 c.2.2.1&&(btw 1 1099511627776 c.2.2.2.1&&(btw 1 1048576 c.2.2.2.2.2.1&&btw 0 1073741824 c.2.2.2.2.2.2.1)))))))
theorem vhb (c:CfT) (hs:CfS 100000 c):Qm n c=some (cfB c):=by
 have hL:=gcb n hn c.2.1 c.2.2.1 c.2.2.2.1 c.2.2.2.2.1 c.2.2.2.2.2.1 c.2.2.2.2.2.2.1 c.2.2.2.2.2.2.2.1 c.1 (fun i hi=>by have:=hs.t i hi;omega) (by have:=hs.tn;omega) c.1.n n 0 (⟨0,fun _=>Ba .str⟩:Sq BA) (by omega) (by have:=hs.tn;omega) rfl (fun k h=>by omega)
 rw [show ((0:Nat):Int)=0 from rfl] at hL
 have hH:=Mbb n hn c.2.1 (by have:=hs.host;omega)
 have hB:=heb n hn c.2.2.2.2.1 (by have:=hs.bn;omega)
 unfold Qm Iw cfB
 rw [hL]
 cases okF (okT c.1) c.1.n 0 with
 | false=>rfl
 | true=>
  rw [if_pos rfl,Option.bind_some]
  simp only [onL,mO,hH,hB,Option.bind_some,Bool.true_and]
  cases btw 1 4 (c.1.n:Int) with
  | false=>rfl
  | true=>
   cases Hcb (bs c.2.1) with
   | false=>rfl
   | true=>
    rw [if_pos (by rfl),if_pos (by rfl),Bool.true_and,Bool.true_and]
    cases hb:EV c.2.2.2.2.1 with
    | false=>rfl
    | true=>
     have h0:0<c.2.2.2.2.1.n:=by
      unfold EV btw at hb
      simp only [Bool.and_eq_true,decide_eq_true_eq] at hb
      omega
     obtain ⟨M,M1,M2⟩:=xgb n hn c.2.2.2.2.1 (by have:=hs.bn;omega) h0
     have hM:decide (M>1073741824)=!leB c.2.2.2.2.1 1073741824:=by
      rw [←M2]
      by_cases e:M≤1073741824
      · rw [decide_eq_true e,decide_eq_false (by omega)];rfl
      · rw [decide_eq_false e,decide_eq_true (by omega)];rfl
     rw [if_pos (by rfl),M1,Option.bind_some,hM,Bool.true_and]
     cases leB c.2.2.2.2.1 1073741824 with
     | false=>rfl
     | true=>
      rw [if_neg (by simp),Bool.true_and]
      cases btw 0 1099511627776 c.2.2.1 with
      | false=>rfl
      | true=>
       cases btw 1 1099511627776 c.2.2.2.1 with
       | false=>rfl
       | true=>
        cases btw 1 1048576 c.2.2.2.2.2.1 with
        | false=>rfl
        | true=>rfl
theorem Vgb (c1:Sq TnT) (q:Sq Int) (hq:q.n≤1000000):∀ (d m i:Nat),i+d=q.n→d<m→Ta n m (i:Int) c1 c2 c3 c4 q c6 c7 c8=some (if okF (fun k=>decide (q.at' k≤1073741824)) d i=true then .out (c1,c2,c3,c4,q,c6,c7,c8) else .ret false)
 | 0,m,i,hi,hm=>by
  obtain ⟨m,rfl⟩:∃ p,m=p+1:=⟨m - 1,by omega⟩
  rw [Ta,Pd,if_neg (by simp;omega)];rfl
 | d+1,m,i,hi,hm=>by
  obtain ⟨m,rfl⟩:∃ p,m=p+1:=⟨m - 1,by omega⟩
  rw [Ta,Pd,if_pos (decide_eq_true (by omega)),if_pos ⟨by omega,by omega⟩,Int.toNat_natCast,wr1 (k:=i) (by omega),Fe]
  by_cases g2:q.at' i>1073741824
  · rw [if_pos (by simpa using g2),decide_eq_false (show ¬(q.at' i≤1073741824) by omega)];rfl
  rw [if_neg (by simpa using g2),decide_eq_true (show q.at' i≤1073741824 by omega),Bool.true_and]
  exact Vgb c1 q hq d m (i+1) (by omega) (by omega)
theorem Xgb (i:Nat) (q:Sq TnT) (t:TnT) (hi:i≤q.n) (hq:q.n≤1000000):∀ (d m k:Nat),k+d=i→d<m→
  Va n m (i:Int) (k:Int) q c2 c3 c4 c5 c6 c7 c8 t.1 t.2.1 t.2.2.1 t.2.2.2.1 t.2.2.2.2.1.1 t.2.2.2.2.1.2.1 t.2.2.2.2.1.2.2.1 t.2.2.2.2.1.2.2.2.1 t.2.2.2.2.1.2.2.2.2.1 t.2.2.2.2.2.1=some (if okF (fun k=>!decide (bs (q.at' k).1=bs t.1)) d k=true then .out ((i:Int),q,c2,c3,c4,c5,c6,c7,c8) else .ret false)
 | 0,m,k,hk,hm=>by
  obtain ⟨m,rfl⟩:∃ p,m=p+1:=⟨m - 1,by omega⟩
  rw [Va,Rd,if_neg (by simp;omega)];rfl
 | d+1,m,k,hk,hm=>by
  obtain ⟨m,rfl⟩:∃ p,m=p+1:=⟨m - 1,by omega⟩
  have ih:=Xgb i q t hi hq d m (k+1) (by omega) (by omega)
  rw [Va,Rd,if_pos (decide_eq_true (by omega)),if_pos ⟨by omega,by omega⟩,wr1 (k:=k) (by omega),Fe,Int.toNat_natCast,gw]
  cases decide (bs (q.at' k).1=bs t.1) with
  | true=>rfl
  | false=>rw [if_neg (by simp),ih];rfl
theorem Wgb (q:Sq TnT) (hs:∀ i,i<q.n→(q.at' i).1.size≤1000000) (hq:q.n≤1000000):∀ (d m i:Nat),i+d=q.n→d<m→Ua n m (i:Int) q c2 c3 c4 c5 c6 c7 c8=some (if okF (okT q) d i=true then .out () else .ret false)
 | 0,m,i,hi,hm=>by
  obtain ⟨m,rfl⟩:∃ p,m=p+1:=⟨m - 1,by omega⟩
  rw [Ua,Qd,if_neg (by simp;omega)];rfl
 | d+1,m,i,hi,hm=>by
  obtain ⟨m,rfl⟩:∃ p,m=p+1:=⟨m - 1,by omega⟩
  have e1:=wr1 (k:=i) (by omega)
  have hN:=cfb n (q.at' i).1 (hs i (by omega)) hn
  have h1:=Xgb n hn c2 c3 c4 c5 c6 c7 c8 i q (q.at' i) (by omega) hq i n 0 (by omega) (by omega)
  rw [show ((0:Nat):Int)=0 from rfl] at h1
  have ih:=Wgb q hs hq d m (i+1) (by omega) (by omega)
  rw [Ua,Qd,if_pos (decide_eq_true (by omega)),if_pos ⟨by omega,by omega⟩,Fe,Int.toNat_natCast,hN,Qjb,h1,show okT q i=((A4 (bs (q.at' i).1)&&(btw 0 1073741824 (q.at' i).2.1&&(btw 0 64 (q.at' i).2.2.1&&((decide (1≤(q.at' i).2.2.2.1)&&decide ((q.at' i).2.2.2.1≤16384))&&(Bgb (q.at' i).2.2.2.2.1&&(((q.at' i).2.2.2.2.1.1==(q.at' i).2.2.2.2.1.2.1)&&((q.at' i).2.2.2.2.1.2.2.2.2.1==0)))))))&&okF (fun k=>!decide (bs (q.at' k).1=bs (q.at' i).1)) i 0) from rfl]
  simp only [dY,qbb,Option.bind_some]
  cases A4 (bs (q.at' i).1) with
  | false=>rfl
  | true=>
   rw [if_pos (by rfl),Bool.true_and]
   cases btw 0 1073741824 (q.at' i).2.1 with
   | false=>rfl
   | true=>
    rw [if_pos (by rfl),Bool.true_and]
    cases btw 0 64 (q.at' i).2.2.1 with
    | false=>rfl
    | true=>
     rw [if_pos (by rfl),Bool.true_and]
     by_cases g1:(q.at' i).2.2.2.1<1
     · rw [if_neg (by simpa using g1),decide_eq_false (show ¬(1≤(q.at' i).2.2.2.1) by omega)];rfl
     rw [if_pos (by simpa using g1),decide_eq_true (show 1≤(q.at' i).2.2.2.1 by omega),Bool.true_and]
     by_cases g2:(q.at' i).2.2.2.1>16384
     · rw [if_neg (by simpa using g2),decide_eq_false (show ¬((q.at' i).2.2.2.1≤16384) by omega)];rfl
     rw [if_pos (by simpa using g2),decide_eq_true (show (q.at' i).2.2.2.1≤16384 by omega),Bool.true_and]
     cases Bgb (q.at' i).2.2.2.2.1 with
     | false=>rfl
     | true=>
      rw [if_pos (by rfl),Bool.true_and]
      by_cases g3:(q.at' i).2.2.2.2.1.1=(q.at' i).2.2.2.2.1.2.1
      · rw [if_pos (by simpa using g3),show ((q.at' i).2.2.2.2.1.1==(q.at' i).2.2.2.2.1.2.1)=true by simpa using g3,Bool.true_and]
        by_cases g4:(q.at' i).2.2.2.2.1.2.2.2.2.1=0
        · rw [if_neg (by simpa using g4),show ((q.at' i).2.2.2.2.1.2.2.2.2.1==0)=true by simpa using g4,Bool.true_and]
          cases okF (fun k=>!decide (bs (q.at' k).1=bs (q.at' i).1)) i 0 with
          | false=>rfl
          | true=>
           rw [if_pos rfl,Bool.true_and]
           simp only [onL]
           rw [e1]
           exact ih
        · rw [if_pos (by simpa using g4),show ((q.at' i).2.2.2.2.1.2.2.2.2.1==0)=false by simpa using g4];rfl
      · rw [if_neg (by simpa using g3),show ((q.at' i).2.2.2.2.1.1==(q.at' i).2.2.2.2.1.2.1)=false by simpa using g3];rfl
theorem lkb (c:CfT) (hs:CfS 100000 c):be n c=some (cfB c):=by
 have hL0:=Vgb n hn c.2.1 c.2.2.1 c.2.2.2.1 c.2.2.2.2.2.1 c.2.2.2.2.2.2.1 c.2.2.2.2.2.2.2.1 c.1 c.2.2.2.2.1 (by have:=hs.bn;omega) c.2.2.2.2.1.n n 0 (by omega) (by have:=hs.bn;omega)
 have hL1:=Wgb n hn c.2.1 c.2.2.1 c.2.2.2.1 c.2.2.2.2.1 c.2.2.2.2.2.1 c.2.2.2.2.2.2.1 c.2.2.2.2.2.2.2.1 c.1 (fun i hi=>by have:=hs.t i hi;omega) (by have:=hs.tn;omega) c.1.n n 0 (by omega) (by have:=hs.tn;omega)
 rw [show ((0:Nat):Int)=0 from rfl] at hL0 hL1
 have hH:=Teb n hn c.2.1 (by have:=hs.host;omega)
 have hB:=Seb n hn c.2.2.2.2.1 (by have:=hs.bn;omega)
 have e:cfB c=(decide (1≤(c.1.n:Int))&&(decide ((c.1.n:Int)≤4)&&(decide ((bs c.2.1).length≤200)&&((DK (bs c.2.1)&&!decide ((bs c.2.1).head?=some 91))&&(btw 0 1099511627776 c.2.2.1&&(decide (1≤c.2.2.2.1)&&(decide (c.2.2.2.1≤1099511627776)&&(EV c.2.2.2.2.1&&(decide (1≤c.2.2.2.2.2.1)&&(decide (c.2.2.2.2.2.1≤1048576)&&(btw 0 1073741824 c.2.2.2.2.2.2.1&&(leB c.2.2.2.2.1 1073741824&&okF (okT c.1) c.1.n 0)))))))))))):=by
  rw [Bool.eq_iff_iff]
  unfold cfB Hcb
  rw [show btw 1 4 (c.1.n:Int)=(decide (1≤(c.1.n:Int))&&decide ((c.1.n:Int)≤4)) from rfl,show btw 1 1099511627776 c.2.2.2.1=(decide (1≤c.2.2.2.1)&&decide (c.2.2.2.1≤1099511627776)) from rfl,show btw 1 1048576 c.2.2.2.2.2.1=(decide (1≤c.2.2.2.2.2.1)&&decide (c.2.2.2.2.2.1≤1048576)) from rfl]
  simp only [Bool.and_eq_true]
  constructor
  · rintro ⟨a1,⟨a2,a3⟩,⟨a4,a5⟩,a6,a7,a8,⟨a9,b1⟩,⟨b2,b3⟩,b4⟩
    exact ⟨a2,a3,a4,a5,a8,a9,b1,a6,b2,b3,b4,a7,a1⟩
  · rintro ⟨a2,a3,a4,a5,a8,a9,b1,a6,b2,b3,b4,a7,a1⟩
    exact ⟨a1,⟨a2,a3⟩,⟨a4,a5⟩,a6,a7,a8,⟨a9,b1⟩,⟨b2,b3⟩,b4⟩
 rw [e,Da]
 unfold be li
 simp only [hL0,hH,hB,dY,Option.bind_some]
 by_cases g1:(c.1.n:Int)<1
 · rw [if_neg (by simpa using g1),decide_eq_false (show ¬(1≤(c.1.n:Int)) by omega)];rfl
 rw [if_pos (by simpa using g1),decide_eq_true (show 1≤(c.1.n:Int) by omega),Bool.true_and]
 by_cases g2:(c.1.n:Int)>4
 · rw [if_neg (by simpa using g2),decide_eq_false (show ¬((c.1.n:Int)≤4) by omega)];rfl
 rw [if_pos (by simpa using g2),decide_eq_true (show (c.1.n:Int)≤4 by omega),Bool.true_and]
 by_cases g3:(c.2.1.size:Int)>200
 · rw [if_neg (by simpa using g3),decide_eq_false (show ¬(c.2.1.size≤200) by omega)];rfl
 rw [if_pos (by simpa using g3),decide_eq_true (show c.2.1.size≤200 by omega),Bool.true_and]
 cases (DK (bs c.2.1)&&!decide ((bs c.2.1).head?=some 91)) with
 | false=>rfl
 | true=>
  rw [if_pos (by rfl),Bool.true_and]
  cases btw 0 1099511627776 c.2.2.1 with
  | false=>rfl
  | true=>
   rw [if_pos (by rfl),Bool.true_and]
   by_cases g4:c.2.2.2.1<1
   · rw [if_neg (by simpa using g4),decide_eq_false (show ¬(1≤c.2.2.2.1) by omega)];rfl
   rw [if_pos (by simpa using g4),decide_eq_true (show 1≤c.2.2.2.1 by omega),Bool.true_and]
   by_cases g5:c.2.2.2.1>1099511627776
   · rw [if_neg (by simpa using g5),decide_eq_false (show ¬(c.2.2.2.1≤1099511627776) by omega)];rfl
   rw [if_pos (by simpa using g5),decide_eq_true (show c.2.2.2.1≤1099511627776 by omega),Bool.true_and]
   cases EV c.2.2.2.2.1 with
   | false=>rfl
   | true=>
    rw [if_pos (by rfl),Bool.true_and]
    by_cases g6:c.2.2.2.2.2.1<1
    · rw [if_neg (by simpa using g6),decide_eq_false (show ¬(1≤c.2.2.2.2.2.1) by omega)];rfl
    rw [if_pos (by simpa using g6),decide_eq_true (show 1≤c.2.2.2.2.2.1 by omega),Bool.true_and]
    by_cases g7:c.2.2.2.2.2.1>1048576
    · rw [if_neg (by simpa using g7),decide_eq_false (show ¬(c.2.2.2.2.2.1≤1048576) by omega)];rfl
    rw [if_pos (by simpa using g7),decide_eq_true (show c.2.2.2.2.2.1≤1048576 by omega),Bool.true_and]
    cases btw 0 1073741824 c.2.2.2.2.2.2.1 with
    | false=>rfl
    | true=>
     rw [if_neg (by simp),Bool.true_and,show okF (fun k=>decide (c.2.2.2.2.1.at' k≤1073741824)) c.2.2.2.2.1.n 0=leB c.2.2.2.2.1 1073741824 from rfl]
     cases leB c.2.2.2.2.1 1073741824 with
     | false=>rfl
     | true=>
      rw [if_pos rfl,Bool.true_and]
      simp only [onL]
      rw [hL1]
      cases okF (okT c.1) c.1.n 0<;>rfl
end
open Go Go.RowKit
theorem idb {p q:Sq TnT} {i:Nat} (h:∀ k,k≤i→p.at' k=q.at' k):okT p i=okT q i:=by
 unfold okT
 rw [h i (Nat.le_refl _)]
 congr 1
 exact Rn fun k _ hk=>by rw [h k (by omega)]
theorem kcb {a b:CfT} (h:CE a b):cfB a=cfB b:=by
 unfold cfB EV leB geB
 have e1:okF (okT a.1) b.1.n 0=okF (okT b.1) b.1.n 0:=Rn fun k _ hk=>idb fun j hj=>h.t j (by rw [h.tn];omega)
 have e2:∀ v:Int,okF (fun k=>decide (a.2.2.2.2.1.at' k≤v)) b.2.2.2.2.1.n 0=okF (fun k=>decide (b.2.2.2.2.1.at' k≤v)) b.2.2.2.2.1.n 0:=fun v=>Rn fun k _ hk=>by rw [h.bk k (by rw [h.bn];omega)]
 have e3:∀ v:Int,okF (fun k=>decide (v≤a.2.2.2.2.1.at' k)) b.2.2.2.2.1.n 0=okF (fun k=>decide (v≤b.2.2.2.2.1.at' k)) b.2.2.2.2.1.n 0:=fun v=>Rn fun k _ hk=>by rw [h.bk k (by rw [h.bn];omega)]
 rw [h.tn,h.c2,h.c3,h.c4,h.bn,h.c6,h.c7,e1,e2,e2,e3]
def JZ (s:SpT) (t:TnT) (tn n0:Int):Int:=if n0>8192 then 2 else if (usF tn s.2.1 s.2.1.n 0 0 0).1+1>t.2.2.1∨(usF tn s.2.1 s.2.1.n 0 0 0).2+(n0+1000)>t.2.1∨64≤mV (tJ s.2.1) s.2.1.n 0 then 5 else 0
theorem ghb (n:Nat) (s:SpT) (c:CfT) (k:Nat) (n0:Int) (hs:SpS 100000 s) (hk:k<c.1.n) (h0:0≤n0) (hn:10000000≤n):qn n s c (k:Int) n0=some (JZ s (c.1.at' k) (k:Int) n0):=by
 have hU:=Ubb n s (k:Int) hs hn
 have hL:=EX n s (by have:=hs.n;omega) hn
 have hr:=Ndb (k:Int) s.2.1 hs.m s.2.1.n 0 0 0 (by omega) (by omega) (by omega) (by omega) (by rw [bd0];omega)
 have hb:=bd2 (i:=s.2.1.n) (by have:=hs.n;omega)
 have hsn:=hs.n
 unfold qn Qx JZ
 by_cases g:n0>8192
 · rw [if_pos (decide_eq_true g),if_pos g]
 have w1:IntKind.wrap .i64 ((usF (k:Int) s.2.1 s.2.1.n 0 0 0).1+1)=(usF (k:Int) s.2.1 s.2.1.n 0 0 0).1+1:=wr (by omega) (by omega)
 have w2:IntKind.wrap .i64 (n0+1000)=n0+1000:=wr (by omega) (by omega)
 have w3:IntKind.wrap .i64 ((usF (k:Int) s.2.1 s.2.1.n 0 0 0).2+(n0+1000))=(usF (k:Int) s.2.1 s.2.1.n 0 0 0).2+(n0+1000):=wr (by omega) (by omega)
 rw [if_neg (by simpa using g),if_neg g,if_pos ⟨by omega,by omega⟩,Vdb,hU,Option.bind_some,Int.toNat_natCast]
 simp only [w1,Hp,Kq,w2,w3,hL,Option.bind_some]
 by_cases g1:(usF (k:Int) s.2.1 s.2.1.n 0 0 0).1+1>(c.1.at' k).2.2.1
 · rw [if_neg (by simpa using g1),if_pos (.inl g1)]
 rw [if_pos (by simpa using g1)]
 by_cases g2:(usF (k:Int) s.2.1 s.2.1.n 0 0 0).2+(n0+1000)>(c.1.at' k).2.1
 · rw [if_neg (by simpa using g2),if_pos (.inr (.inl g2))]
 rw [if_pos (by simpa using g2)]
 by_cases g3:64≤mV (tJ s.2.1) s.2.1.n 0
 · rw [if_pos (decide_eq_true (by omega)),if_pos (.inr (.inr g3))]
 · rw [if_neg (by simp;omega),if_neg (by omega)]
theorem IZ (n:Nat) (n01 k0 b s1:Int) (q:Sq sd) (t:BA) (t1 t2 t3 t4 t5 t6 t7 t8:Int) (t9:Bool) (hq:q.n≤1000000):∀ (d m i c:Nat),i+d=q.n→d<m→c≤i→Ab n m n01 k0 b (c:Int) (i:Int) s1 q t t1 t2 t3 t4 t5 t6 t7 t8 t9=some (.out (n01,k0,b,((c+mV (tJ q) d i:Nat):Int),t,t1,t2,t3,t4,t5,t6,t7,t8,t9))
 | 0,m,i,c,hi,hm,hc=>by
  obtain ⟨m,rfl⟩:∃ p,m=p+1:=⟨m - 1,by omega⟩
  rw [Ab,Me,if_neg (by simp;omega)];rfl
 | d+1,m,i,c,hi,hm,hc=>by
  obtain ⟨m,rfl⟩:∃ p,m=p+1:=⟨m - 1,by omega⟩
  have e1:=wr1 (k:=i) (by omega)
  have e2:=wr1 (k:=c) (by omega)
  rw [Ab,Me,if_pos (decide_eq_true (by omega)),if_pos ⟨by omega,by omega⟩,e1,e2,Int.toNat_natCast,O2]
  cases hb:(q.at' i).2.2.1 with
  | true=>
   have:tJ q i=false:=by unfold tJ;rw [hb];rfl
   rw [if_neg (by simp),IZ n n01 k0 b s1 q t t1 t2 t3 t4 t5 t6 t7 t8 t9 hq d m (i+1) c (by omega) (by omega) (by omega),this]
   simp only [cond_false,Nat.zero_add]
  | false=>
   have:tJ q i=true:=by unfold tJ;rw [hb];rfl
   rw [if_pos (by rfl),IZ n n01 k0 b s1 q t t1 t2 t3 t4 t5 t6 t7 t8 t9 hq d m (i+1) (c+1) (by omega) (by omega) (by omega),this]
   simp only [cond_true]
   rw [show c+1+mV (tJ q) d (i+1)=c+(1+mV (tJ q) d (i+1)) by omega]
theorem Web (n:Nat) (s:SpT) (c:CfT) (k:Nat) (n0:Int) (hs:SpS 100000 s) (hk:k<c.1.n) (h0:0≤n0) (hn:10000000≤n):yh n s c (k:Int) n0=some (JZ s (c.1.at' k) (k:Int) n0):=by
 have hU:=V9 n s (k:Int) hs hn
 have hr:=Ndb (k:Int) s.2.1 hs.m s.2.1.n 0 0 0 (by omega) (by omega) (by omega) (by omega) (by rw [bd0];omega)
 have hb:=bd2 (i:=s.2.1.n) (by have:=hs.n;omega)
 have hsn:=hs.n
 have hL:=IZ n n0 (usF (k:Int) s.2.1 s.2.1.n 0 0 0).1 (usF (k:Int) s.2.1 s.2.1.n 0 0 0).2 s.1 s.2.1 (c.1.at' k).1 (c.1.at' k).2.1 (c.1.at' k).2.2.1 (c.1.at' k).2.2.2.1 (c.1.at' k).2.2.2.2.1.1 (c.1.at' k).2.2.2.2.1.2.1 (c.1.at' k).2.2.2.2.1.2.2.1 (c.1.at' k).2.2.2.2.1.2.2.2.1 (c.1.at' k).2.2.2.2.1.2.2.2.2.1 (c.1.at' k).2.2.2.2.2.1 (by omega) s.2.1.n n 0 0 (by omega) (by omega) (Nat.le_refl _)
 rw [show ((0:Nat):Int)=0 from rfl,Nat.zero_add] at hL
 unfold yh dl JZ
 by_cases g:n0>8192
 · rw [if_pos (decide_eq_true g),if_pos g]
 have w1:IntKind.wrap .i64 ((usF (k:Int) s.2.1 s.2.1.n 0 0 0).1+1)=(usF (k:Int) s.2.1 s.2.1.n 0 0 0).1+1:=wr (by omega) (by omega)
 have w2:IntKind.wrap .i64 ((usF (k:Int) s.2.1 s.2.1.n 0 0 0).2+n0)=(usF (k:Int) s.2.1 s.2.1.n 0 0 0).2+n0:=wr (by omega) (by omega)
 have w3:IntKind.wrap .i64 ((usF (k:Int) s.2.1 s.2.1.n 0 0 0).2+n0+1000)=(usF (k:Int) s.2.1 s.2.1.n 0 0 0).2+n0+1000:=wr (by omega) (by omega)
 rw [if_neg (by simpa using g),if_neg g,Vdb,hU,Option.bind_some,if_pos ⟨by omega,by omega⟩,Int.toNat_natCast,hL,Option.bind_some]
 simp only [onL,w1,w2,w3]
 by_cases g1:(usF (k:Int) s.2.1 s.2.1.n 0 0 0).1+1>(c.1.at' k).2.2.1
 · rw [if_neg (by simpa using g1),if_pos (.inl g1)]
 rw [if_pos (by simpa using g1)]
 by_cases g2:(usF (k:Int) s.2.1 s.2.1.n 0 0 0).2+n0+1000>(c.1.at' k).2.1
 · rw [if_neg (by simpa using g2),if_pos (.inr (.inl (by omega)))]
 rw [if_pos (by simpa using g2)]
 by_cases g3:64≤mV (tJ s.2.1) s.2.1.n 0
 · rw [if_pos (decide_eq_true (by omega)),if_pos (.inr (.inr g3))]
 · rw [if_neg (by simp;omega),if_neg (by omega)]
theorem W7 {a b:SpT} (h:SE a b) (t:TnT) (tn n0:Int):JZ a t tn n0=JZ b t tn n0:=by
 unfold JZ
 have e1:usF tn a.2.1 b.2.1.n 0 0 0=usF tn b.2.1 b.2.1.n 0 0 0:=W5 b.2.1.n 0 0 0 fun k _ hk=>h.m k (by rw [h.n];omega)
 have e2:mV (tJ a.2.1) b.2.1.n 0=mV (tJ b.2.1) b.2.1.n 0:=fO fun k _ hk=>DX (h.m k (by rw [h.n];omega))
 rw [h.n,e1,e2]
theorem khb (n:Nat) (s:SpT) (c:CfT) (tn n0:Int) (hs:SpS 100000 s) (hc:CfS 100000 c) (hn:10000000≤n):Nh n s c tn n0=some (if (spB s&&(cfB c&&(btw 0 (c.1.n - 1) tn&&decide (0≤n0))))=true then JZ s (c.1.at' tn.toNat) tn n0 else 1):=by
 unfold Nh Tx
 rw [Vdb,Llb,OZ n s hs hn,vhb n hn c hc,Option.bind_some,Option.bind_some,show btw 0 (c.1.n - 1) tn=(decide (0≤tn)&&decide (tn≤c.1.n - 1)) from rfl]
 cases spB s with
 | false=>rfl
 | true=>
  rw [if_pos (by rfl),Bool.true_and]
  cases cfB c with
  | false=>rfl
  | true=>
   rw [if_pos (by rfl),Bool.true_and]
   by_cases g1:tn<0
   · rw [if_neg (by simpa using g1),decide_eq_false (show ¬(0≤tn) by omega)];rfl
   rw [if_pos (by simpa using g1),decide_eq_true (show 0≤tn by omega),Bool.true_and]
   by_cases g2:tn≥c.1.n
   · rw [if_neg (by simpa using g2),decide_eq_false (show ¬(tn≤(c.1.n:Int) - 1) by omega)];rfl
   rw [if_pos (by simpa using g2),decide_eq_true (show tn≤(c.1.n:Int) - 1 by omega),Bool.true_and]
   by_cases g3:n0<0
   · rw [if_pos (by simpa using g3),decide_eq_false (show ¬(0≤n0) by omega)];rfl
   rw [if_neg (by simpa using g3),decide_eq_true (show 0≤n0 by omega),if_pos rfl]
   obtain ⟨k,rfl⟩:∃ k:Nat,tn=(k:Int):=⟨tn.toNat,by omega⟩
   rw [ghb n s c k n0 hs (by omega) (by omega) hn,Int.toNat_natCast];rfl
section
variable (n:Nat) (hn:10000000≤n) (id2 s5:Int) (s6:Sq sd) (c17:Sq TnT) (c18:BA) (c19 c20:Int) (c21:Sq Int) (c22 c23:Int) (c24:Nat) (a30 a31 a32 a33:Int) (a34:Bool) (a35 a36:BA) (a37:Sq RcT) (a38:BA) (a39:Int) (a40 a41 a42:Bool) (t62 m020 m021:Int) (m022:Bool) (m023 m024:BA) (m025:Sq RcT) (m026:BA) (m027:Int) (m028 m029:Bool) (in0:Int) (in01:Sq sd) (cc:Sq TnT) (cc1:BA) (cc2 cc3:Int) (cc4:Sq Int) (cc5 cc6:Int) (cc7:Nat) (want:Int) (want1:Sq sd) (x:Int)
include hn
theorem Zdb (hs:SpS 30000 (s5,(s6,()))) (he:SE (in0,(in01,())) (s5,(s6,()))) (hc:CfS 30000 (c17,(c18,(c19,(c20,(c21,(c22,(c23,(c24,()))))))))) (hce:CE (cc,(cc1,(cc2,(cc3,(cc4,(cc5,(cc6,(cc7,())))))))) (c17,(c18,(c19,(c20,(c21,(c22,(c23,(c24,()))))))))):∃ e:Int,Oa n (spB (s5,(s6,()))) id2 1 true s5 s6 c17 c18 c19 c20 c21 c22 c23 c24 (1:Int) a30 a31 a32 a33 a34 a35 a36 a37 a38 a39 a40 a41 a42 t62 m020 m021 m022 m023 m024 m025 m026 m027 m028 m029 in0 in01 cc cc1 cc2 cc3 cc4 cc5 cc6 cc7 want want1 x=some (.out (e,e,false,s5,s6,c17,c18,c19,c20,c21,c22,c23,c24,t62,in0,in01,cc,cc1,cc2,cc3,cc4,cc5,cc6,cc7,want,want1,x)):=by
 have hR:=fun t:Int=>khb n (in0,(in01,())) (cc,(cc1,(cc2,(cc3,(cc4,(cc5,(cc6,(cc7,())))))))) t a30 ((hs.of he).mono (by omega)) ((hc.of hce).mono (by omega)) hn
 have hC:=lkb n hn (c17,(c18,(c19,(c20,(c21,(c22,(c23,(c24,())))))))) (hc.mono (by omega))
 have e1:=BU he
 have e2:=kcb hce
 have e3:cc.n=c17.n:=hce.tn
 have hw:∃ v,Xd n a31 5=some v∧0≤v∧v<5:=by
  obtain ⟨v,h1,h2⟩:=XX n a31 5 (by omega) (by omega)
  exact ⟨v,h2,by omega,by omega⟩
 obtain ⟨v,hw,v0,v5⟩:=hw
 have w1:IntKind.wrap .i64 (v - 1)=v - 1:=wr (by omega) (by omega)
 have hcn:c17.n≤30000:=hc.tn
 have w2:IntKind.wrap .i64 ((c17.n:Int) - 1)=(c17.n:Int) - 1:=wr (by omega) (by omega)
 unfold Oa Od
 rw [show Xd n 1 10=some 1 from rfl,Option.bind_some,if_neg (by decide),if_pos (by rfl),hw,Option.bind_some,hC,w1,w2,dY,hR,e1,e2,Option.bind_some,Option.bind_some,Option.bind_some]
 show ∃ e:Int,(if spB (s5,(s6,()))=true then _ else _)=_
 rw [show (((cc,(cc1,(cc2,(cc3,(cc4,(cc5,(cc6,(cc7,())))))))):CfT).1.n:Int)=(c17.n:Int) by rw [←e3]]
 cases spB (s5,(s6,())) with
 | false=>exact ⟨1,rfl⟩
 | true=>
  rw [if_pos rfl]
  cases cfB (c17,(c18,(c19,(c20,(c21,(c22,(c23,(c24,())))))))) with
  | false=>exact ⟨1,rfl⟩
  | true=>
   rw [if_pos rfl]
   cases hb:btw 0 ((c17.n:Int) - 1) (v - 1) with
   | false=>exact ⟨1,rfl⟩
   | true=>
    rw [if_pos rfl]
    unfold btw at hb
    simp only [Bool.and_eq_true,decide_eq_true_eq] at hb
    by_cases g:a30≥0
    · obtain ⟨k,hk⟩:∃ k:Nat,v - 1=(k:Int):=⟨(v - 1).toNat,by omega⟩
      have hRR:=Web n (s5,(s6,())) (c17,(c18,(c19,(c20,(c21,(c22,(c23,(c24,())))))))) k a30 (hs.mono (by omega)) (by show k<c17.n;omega) g hn
      have hrc:=W7 he (c17.at' k) (k:Int) a30
      have ht:cc.at' k=c17.at' k:=hce.t k (by show k<cc.n;omega)
      rw [if_pos (decide_eq_true g),hk,hRR,Option.bind_some,decide_eq_true (show 0≤a30 from g)]
      refine ⟨JZ (s5,(s6,())) (c17.at' k) (k:Int) a30,?_⟩
      rw [←hrc,←ht];rfl
    · rw [if_neg (by simpa using g),decide_eq_false (show ¬(0≤a30) from g)]
      exact ⟨1,rfl⟩
end
theorem plain_SpoolRooms (p:ScT) (h:Fit reachBytes K10 p):∃ n,pouchlaw17_SpoolRooms n p=some true:=⟨10000000,by
 have hn:10000000≤10000000:=Nat.le_refl _
 have:=A7 p (Acb h) 1 fun hs j hj=>o8 10000000 hn 1 ⟨1,rfl,by decide⟩ p.1 p.2.1 _ rfl hs.s hs.c (hs.m j hj) fun id2 a30 a31 a32 a33 a34 a35 a36 a37 a38 a39 a40 a41 a42 t62 m020 m021 m022 m023 m024 m025 m026 m027 m028 m029 i cc hi hc=>Zdb 10000000 hn id2 p.1.1 p.1.2.1 p.2.1.1 p.2.1.2.1 p.2.1.2.2.1 p.2.1.2.2.2.1 p.2.1.2.2.2.2.1 p.2.1.2.2.2.2.2.1 p.2.1.2.2.2.2.2.2.1 p.2.1.2.2.2.2.2.2.2.1 a30 a31 a32 a33 a34 a35 a36 a37 a38 a39 a40 a41 a42 t62 m020 m021 m022 m023 m024 m025 m026 m027 m028 m029 i.1 i.2.1 cc.1 cc.2.1 cc.2.2.1 cc.2.2.2.1 cc.2.2.2.2.1 cc.2.2.2.2.2.1 cc.2.2.2.2.2.2.1 cc.2.2.2.2.2.2.2.1 p.1.1 p.1.2.1 0 hs.s hi hs.c hc
 unfold pouchlaw17_SpoolRooms df
 show (uc 10000000 p 1).bind _=_
 rw [this];rfl⟩
end Go.Proofs.YtdhehcnfkcibiaaGreatDoor.AM
