/- Commands, plainly: letters, words, where a path ends. -/
import Derived.Test.YtdohilmgblkppaaGreatDoorXQ
set_option linter.all false
set_option linter.unusedVariables false
set_option linter.unusedSimpArgs false
namespace Go.Proofs.YtdohilmgblkppaaGreatDoor.AM
open Go
/-! Letters. -/
def up (c:Int):Int:=if 97≤c∧c≤122 then c - 32 else c
def Tjb (w:List Int):Bool:=w.all fun c=>!(decide (97≤c)&&decide (c≤122))
theorem Rkb {c w:Int} (hw:¬(97≤w∧w≤122)):up c=w↔low c=low w:=by
 unfold up low
 split<;>split<;>split<;>constructor<;>intro h<;>omega
theorem Dhb:∀ (s w:List Int),Tjb w=true→(s.map up=w↔s.map low=w.map low)
 | [],[],_=>by simp
 | [],_::_,_=>by simp
 | _::_,[],_=>by simp
 | c::s,d::w,h=>by
  simp only [Tjb,List.all_cons,Bool.and_eq_true] at h
  obtain ⟨h1,h2⟩:=h
  have h1':¬(97≤d∧d≤122):=by simp at h1;omega
  have:=Dhb s w h2
  simp only [List.map_cons,List.cons.injEq,this,Rkb (c:=c) h1']
/-! Words. -/
def pr (c:Int):Bool:=decide (33≤c)&&decide (c≤126)
def wB:Bool→List Int→Bool
 | b,[]=>!b
 | b,c::r=>if c<32∨126<c∨c=32∧b=true then false else wB (decide (c=32)) r
def RO (w:List Int):Bool:=!w.isEmpty&&w.all pr
theorem Vhb:∀ (r cur:List Int),cur.all pr=false→(Oa 32 cur r).all RO=false
 | [],cur,h=>by simp only [Oa,RO,List.all_cons,h];simp
 | c::r,cur,h=>by
  simp only [Oa]
  split
  · rw [List.all_cons,RO,h];simp
  · exact Vhb r (cur++[c]) (by rw [List.all_append,h];rfl)
theorem Jjb:∀ (r cur:List Int),cur.all pr=true→(Oa 32 cur r).all RO=wB cur.isEmpty r
 | [],cur,h=>by
  simp only [Oa,wB,RO,List.all_cons,List.all_nil,h]
  cases cur<;>simp
 | c::r,cur,h=>by
  simp only [Oa,wB]
  by_cases g:c=32
  · subst g
    rw [if_pos rfl,List.all_cons,Jjb r [] rfl,RO,h]
    cases cur with
    | nil=>simp
    | cons a b=>simp
  · rw [if_neg g]
    by_cases hp:pr c=true
    · rw [Jjb r (cur++[c]) (by rw [List.all_append,h];simp [hp])]
      have h':=hp
      simp only [pr,Bool.and_eq_true,decide_eq_true_eq] at h'
      rw [if_neg (by omega),decide_eq_false g]
      congr 1
      simp
    · rw [Vhb r _ (by rw [List.all_append];simp [hp])]
      have h':¬(33≤c∧c≤126):=fun hh=>hp (by simp [pr,hh.1,hh.2])
      rw [if_pos (by omega)]
def KA (l:List Int):Bool:=decide (l.length≤64)&&wB true l
theorem xcb (l:List Int):(decide (l.length≤64)&&(Oa 32 [] l).all RO)=KA l:=by
 rw [Jjb l [] rfl];rfl
/-! Digits behind a path. -/
def gS (l:List Int):Option Int:=if l=[] then some (-1) else
 if (l.take 6).map up=[32,83,73,90,69,61]∧1≤(l.drop 6).length∧(l.drop 6).length≤10∧(l.drop 6).all dig=true∧wG 0 (l.drop 6)≤1073741824 then some (wG 0 (l.drop 6)) else none
theorem Jgb {l:List Int} {z:Int} (h:gS l=some z):62 ∉ l:=by
 unfold gS at h
 by_cases g:l=[]
 · subst g;simp
 · rw [if_neg g] at h
   split at h
   · rename_i hc
     obtain ⟨h1,h2,h3,h4,_⟩:=hc
     rw [←List.take_append_drop 6 l]
     intro hm
     rcases List.mem_append.1 hm with hm | hm
     · have:=List.mem_map_of_mem (f:=up) hm
       rw [h1] at this
       revert this;decide
     · have:=List.all_eq_true.1 h4 _ hm
       revert this;decide
   · cases h
/-! Where a path ends:0:outside quotes;1:inside;2:behind a backslash. -/
def pe:Nat→List Int→Nat
 | _,[]=>0
 | 0,c::r=>if c=34 then 1+pe 1 r else if c=62 then 1 else 1+pe 0 r
 | 1,c::r=>if c=92 then 1+pe 2 r else if c=34 then 1+pe 0 r else 1+pe 1 r
 | _+2,_::r=>1+pe 1 r
theorem P0:∀ (l:List Int) (q:Nat),pe q l≤l.length
 | [],q=>by cases q<;>simp [pe]
 | c::r,0=>by
  have h0:=P0 r 0
  have h1:=P0 r 1
  simp only [pe,List.length_cons]
  split
  · omega
  · split<;>omega
 | c::r,1=>by
  have h0:=P0 r 0
  have h1:=P0 r 1
  have h2:=P0 r 2
  simp only [pe,List.length_cons]
  split
  · omega
  · split<;>omega
 | c::r,q+2=>by
  have h1:=P0 r 1
  simp only [pe,List.length_cons];omega
theorem iX:∀ (l r:List Int),34 ∉ l→62 ∉ l→pe 0 (l++r)=l.length+pe 0 r
 | [],r,_,_=>by simp
 | c::l,r,h1,h2=>by
  simp only [List.mem_cons,not_or] at h1 h2
  rw [List.cons_append]
  simp only [pe]
  rw [if_neg (fun hh=>h1.1 hh.symm),if_neg (fun hh=>h2.1 hh.symm),iX l r h1.2 h2.2,List.length_cons]
  omega
theorem Zib:∀ (N:Nat) (l r:List Int) (x:List Int×List Int),l.length≤N→qd l=some x→∃ p,l=p++x.2∧pe 1 (l++r)=p.length+pe 0 (x.2++r)
 | _,[],_,_,_,h=>by cases h
 | 0,c::l,r,x,h,_=>by simp at h
 | N+1,c::l,r,x,hN,h=>by
  rw [Oe] at h
  have hN':l.length≤N:=by simpa using hN
  by_cases c1:c=34
  · rw [if_pos c1] at h
    cases h
    subst c1
    refine ⟨[34],rfl,?_⟩
    simp [pe]
  · rw [if_neg c1] at h
    by_cases c2:c=92
    · rw [if_pos c2] at h
      subst c2
      cases l with
      | nil=>cases h
      | cons d l=>
       simp only at h
       split at h
       · obtain ⟨y,hy,rfl⟩:=Option.map_eq_some_iff.1 h
         obtain ⟨p,i1,i2⟩:=Zib N l r y (by simp at hN';omega) hy
         refine ⟨92::d::p,by rw [i1];rfl,?_⟩
         have e92:pe 1 (92::(d::(l++r)))=1+(1+pe 1 (l++r)):=by simp [pe]
         show _=_+pe 0 (y.2++r)
         rw [List.cons_append,List.cons_append,e92,i2,List.length_cons,List.length_cons]
         omega
       · cases h
    · rw [if_neg c2] at h
      split at h
      · obtain ⟨y,hy,rfl⟩:=Option.map_eq_some_iff.1 h
        obtain ⟨p,i1,i2⟩:=Zib N l r y hN' hy
        refine ⟨c::p,by rw [i1];rfl,?_⟩
        simp only [List.cons_append,pe,List.length_cons]
        rw [if_neg c2,if_neg c1,i2]
        omega
      · cases h
/-! Paths. -/
def VT (l:List Int):Option (Bool×List Int×List Int):=if l=[60,62] then some (true,[],[]) else
 if 2≤l.length∧l.head?=some 60∧l.getLast?=some 62 then (ceb (Ep l)).map fun x=>(false,x.1,x.2) else none
theorem ngb {x:Int} (hx:dV x=false) (h46:x≠46):∀ (l:List Int) (w:Nat),pl w l=true→x ∉ l
 | [],_,_=>by simp
 | c::r,w,h=>by
  simp only [pl] at h
  intro hm
  rcases List.mem_cons.mp hm with e | hm
  · subst e
    rw [if_neg h46,hx] at h;cases h
  · by_cases c1:c=46
    · rw [if_pos c1] at h
      by_cases c2:w=0
      · rw [if_pos c2] at h;cases h
      · rw [if_neg c2] at h;exact ngb hx h46 r 0 h hm
    · rw [if_neg c1] at h
      by_cases c2:dV c=true
      · rw [if_pos c2] at h;exact ngb hx h46 r (w+1) h hm
      · rw [if_neg c2] at h;cases h
theorem mV {l:List Int} (h:lk l=true):∀ c∈l,c=91∨c=93∨45≤c∧c≤57∨97≤c∧c≤122:=by
 unfold lk at h
 rw [Bool.and_eq_true,Bool.or_eq_true] at h
 rcases h.2 with h | h
 · unfold Mib at h
   simp only [Bool.and_eq_true,decide_eq_true_eq] at h
   obtain ⟨⟨⟨h1,h2⟩,h3⟩,h4⟩:=h
   unfold yfb at h4
   rw [Bool.and_eq_true] at h4
   have h5:(Oa 46 [] (Ep l)).all (fun w=>w.all dig)=true:=by
    rw [List.all_eq_true]
    intro w hw
    have:=List.all_eq_true.mp h4.1 w hw
    unfold okR at this
    simp only [Bool.and_eq_true] at this
    exact this.1.2
   have h6:=(In 46 dig _ _ h5).2
   intro c hc
   rcases B0 h1 h2 h3 c hc with rfl | rfl | hm
   · exact .inl rfl
   · exact .inr (.inl rfl)
   · rcases h6 c hm with h7 | rfl
     · unfold dig at h7
       simp only [Bool.and_eq_true,decide_eq_true_eq] at h7
       omega
     · omega
 · have h5:(Oa 46 [] l).all (fun w=>w.all lch)=true:=by
    rw [List.all_eq_true]
    intro w hw
    have:=List.all_eq_true.mp h w hw
    unfold H0 at this
    simp only [Bool.and_eq_true] at this
    exact this.2
   have h6:=(In 46 lch _ _ h5).2
   intro c hc
   rcases h6 c hc with h7 | rfl
   · unfold lch sgn at h7
     simp only [Bool.and_eq_true,Bool.or_eq_true,decide_eq_true_eq] at h7
     omega
   · omega
theorem Ndb {x:Int} (hx:x<65):∀ {c:Int},c=x→low c=x:=fun h=>by
 subst h;unfold low;rw [if_neg (by omega)]
theorem qlb {d:List Int} (h:lk (d.map low)=true):34 ∉ d∧62 ∉ d:=by
 constructor<;>intro hm
 · have:=mV h _ (List.mem_map_of_mem (f:=low) hm)
   rw [Ndb (x:=34) (by omega) rfl] at this
   omega
 · have:=mV h _ (List.mem_map_of_mem (f:=low) hm)
   rw [Ndb (x:=62) (by omega) rfl] at this
   omega
theorem mt {z:List Int} {c:Int} (h:z.head?=some c):z=c::z.drop 1:=by
 cases z with
 | nil=>cases h
 | cons a r=>cases h;rfl
theorem ycb {t:List Int} (h:2≤t.length) (h1:t.head?=some 60) (h2:t.getLast?=some 62):t=60::(Ep t++[62]):=by
 have ht:=mt h1
 generalize hx:t.drop 1=x at ht
 subst ht
 have hx0:x≠[]:=by intro e;subst e;simp at h
 have hi:Ep (60::x)=x.dropLast:=by
  obtain ⟨k,hk⟩:∃ k,x.length=k+1:=⟨x.length - 1,by have:=List.length_pos_iff.mpr hx0;omega⟩
  unfold Ep
  rw [List.length_cons,Nat.add_sub_cancel,hk,List.take_succ_cons,List.drop_one,List.tail_cons,List.dropLast_eq_take,hk];rfl
 have hg:x.getLast hx0=62:=by
  rw [List.getLast?_cons,List.getLast?_eq_some_getLast hx0] at h2
  simpa using h2
 rw [hi]
 conv=>lhs;rw [←List.dropLast_concat_getLast hx0,hg]
theorem Xib {x:List Int} {y:List Int×List Int} (h:ceb x=some y) (r:List Int):pe 0 (x++62::r)=x.length+1:=by
 unfold ceb at h
 obtain ⟨w,h1,h2⟩:=Option.bind_eq_some_iff.1 h
 have hc:w.1.length≤64∧w.2.head?=some 64∧agb ((w.2.drop 1).map low)=true:=by
  by_cases c:w.1.length≤64∧w.2.head?=some 64∧agb ((w.2.drop 1).map low)=true
  · exact c
  · rw [if_neg c] at h2;cases h2
 obtain ⟨_,hz,hd⟩:=hc
 rw [YA] at hd
 obtain ⟨n1,n2⟩:=qlb hd
 have hz':=mt hz
 have tail:pe 0 (w.2++62::r)=w.2.length+1:=by
  rw [iX w.2 _ (by rw [hz'];simp only [List.mem_cons,not_or];exact ⟨by omega,n1⟩) (by rw [hz'];simp only [List.mem_cons,not_or];exact ⟨by omega,n2⟩)]
  simp [pe]
 unfold loc at h1
 by_cases g:x.head?=some 34
 · rw [if_pos g] at h1
   obtain ⟨v,e1,e2⟩:=Option.map_eq_some_iff.1 h1
   have hv:v.2=w.2:=by rw [←e2]
   obtain ⟨p,i1,i2⟩:=Zib _ _ (62::r) v (Nat.le_refl _) e1
   have hx:=mt g
   rw [hx,List.cons_append]
   show (if (34:Int)=34 then _ else _)=_
   rw [if_pos rfl,i2,hv,tail,List.length_cons,i1,List.length_append,hv]
   omega
 · rw [if_neg g] at h1
   split at h1
   · cases h1
   · split at h1
     · rename_i hp
       cases h1
       simp only at tail
       have a1:dV 34=false:=by decide
       have a2:dV 62=false:=by decide
       conv=>lhs;rw [←List.take_append_drop (idx 64 x).toNat x]
       rw [List.append_assoc,iX _ _ (ngb a1 (by omega) _ _ hp) (ngb a2 (by omega) _ _ hp),tail,←Nat.add_assoc,←List.length_append,List.take_append_drop]
     · cases h1
theorem L6 {t:List Int} {v:Bool×List Int×List Int} (h:VT t=some v) (r:List Int):pe 0 (t++r)=t.length∧t.getLast?=some 62∧t≠[]:=by
 unfold VT at h
 by_cases c:t=[60,62]
 · subst c;exact ⟨by simp [pe],rfl,by simp⟩
 · rw [if_neg c] at h
   by_cases c2:2≤t.length∧t.head?=some 60∧t.getLast?=some 62
   · rw [if_pos c2] at h
     obtain ⟨y,hy,_⟩:=Option.map_eq_some_iff.1 h
     have ht:=ycb c2.1 c2.2.1 c2.2.2
     have hpe:=Xib hy r
     generalize Ep t=x at ht hpe
     refine ⟨?_,c2.2.2,by intro e;rw [e] at c2;simp at c2⟩
     rw [ht,List.cons_append]
     show (if (60:Int)=34 then _ else if (60:Int)=62 then _ else _)=_
     rw [if_neg (by omega),if_neg (by omega),List.append_assoc,List.singleton_append,hpe]
     simp;omega
   · rw [if_neg c2] at h;cases h
def Zkb (l:List Int) (i:Int):Prop:=i= -1∧62 ∉ l∨∃ k:Nat,i=k∧k<l.length∧l[k]?=some 62∧62 ∉ l.drop (k+1)
theorem vQ {l:List Int} {i:Int} (h:Zkb l i) {v:Bool×List Int×List Int} {z:Int}:
  (0≤i∧VT (l.take (i.toNat+1))=some v∧gS (l.drop (i.toNat+1))=some z)↔(VT (l.take (pe 0 l))=some v∧gS (l.drop (pe 0 l))=some z):=by
 constructor
 · rintro ⟨h0,h1,h2⟩
   have:=(L6 h1 (l.drop (i.toNat+1))).1
   rw [List.take_append_drop] at this
   rcases h with ⟨h3,_⟩ | ⟨k,rfl,h3,h4,h5⟩
   · omega
   · rw [List.length_take] at this
     have e:min ((k:Int).toNat+1) l.length=(k:Int).toNat+1:=by simp;omega
     rw [this,e]
     exact ⟨h1,h2⟩
 · rintro ⟨h1,h2⟩
   obtain ⟨_,hl,hne⟩:=L6 h1 []
   have hle:=P0 l 0
   have hp:0<pe 0 l:=by
    rcases Nat.eq_zero_or_pos (pe 0 l) with e | e
    · rw [e] at hne;simp at hne
    · exact e
   have h62:l[pe 0 l - 1]?=some 62:=by
    rw [List.getLast?_eq_getElem?,List.length_take,Nat.min_eq_left hle,List.getElem?_take] at hl
    rw [if_pos (by omega)] at hl;exact hl
   have hno:=Jgb h2
   have hi:i=((pe 0 l - 1:Nat):Int):=by
    rcases h with ⟨_,h3⟩ | ⟨k,rfl,h3,h4,h5⟩
    · exact absurd (List.mem_of_getElem? h62) h3
    · rcases Nat.lt_trichotomy k (pe 0 l - 1) with g | g | g
      · exfalso
        apply h5
        have:(l.drop (k+1))[pe 0 l - 1 - (k+1)]?=some 62:=by
         rw [List.getElem?_drop,show k+1+(pe 0 l - 1 - (k+1))=pe 0 l - 1 by omega];exact h62
        exact List.mem_of_getElem? this
      · rw [g]
      · exfalso
        apply hno
        have:(l.drop (pe 0 l))[k - pe 0 l]?=some 62:=by
         rw [List.getElem?_drop,show pe 0 l+(k - pe 0 l)=k by omega];exact h4
        exact List.mem_of_getElem? this
   have e:i.toNat+1=pe 0 l:=by rw [hi];simp;omega
   rw [e]
   exact ⟨by omega,h1,h2⟩
open Go Go.RowKit
/-! words. -/
def wX (s:BA):Bool→List Int→Lx (BA×Bool) Bool
 | b,[]=>.out (s,b)
 | b,c::r=>if c<32∨126<c∨c=32∧b=true then .ret false else wX s (decide (c=32)) r
theorem uab (n:Nat) (s:BA) (hs:s.size≤1000000):∀ (r:List Int) (b:Bool) (k m:Nat),(bs s).drop k=r→k≤s.size→r.length<m→we n m s b s.size k=some (wX s b r)
 | [],b,k,m,h,hk,hm=>by
  obtain ⟨m,rfl⟩:∃ q,m=q+1:=⟨m - 1,by omega⟩
  have:=Wf h
  simp [we,Jn,this,wX]
 | c::r,b,k,m,h,hk,hm=>by
  obtain ⟨m,rfl⟩:∃ q,m=q+1:=⟨m - 1,by omega⟩
  obtain ⟨h1,h2,h3,h4,h5⟩:=rc h
  have e1:=wr1 (k:=k) (by omega)
  have a3:(0:Int)≤(k:Int):=by omega
  have ih:=uab n s hs r (decide (c=32)) (k+1) m h3 (by omega) (by simpa using hm)
  simp only [we,Jn,h1,h2,a3,e1,wX]
  by_cases g1:c<32
  · simp [g1]
  · by_cases g2:126<c
    · simp [g1,g2]
    · by_cases g3:c=32
      · subst g3
        cases b
        · simpa using ih
        · simp
      · have e:(c==32)=false:=by simpa using g3
        have e':decide (c=32)=false:=by simpa using g3
        rw [e'] at ih
        simpa [g1,g2,g3,e] using ih
theorem mmb (s:BA):∀ (r:List Int) (b:Bool),onL (wX s b r) (fun a=>if (!a.2)=true then some (decide ((a.1.size:Int)≤(64:Int))) else some false) (fun a=>some a) (fun _=>none)=some (decide (s.size≤64)&&wB b r)
 | [],b=>by
  have e:decide ((s.size:Int)≤(64:Int))=decide (s.size≤64):=by rw [decide_eq_decide];omega
  cases b<;>simp [wX,wB,onL,e]
 | c::r,b=>by
  simp only [wX,wB]
  split
  · simp [onL]
  · exact mmb s r _
theorem nfb (n:Nat) (s:BA) (hs:s.size≤1000000) (hn:10000000≤n):kG n s=some (KA (bs s)):=by
 have h:=uab n s hs (bs s) true 0 n (by simp) (by omega) (by rw [ra];omega)
 rw [show ((0:Nat):Int)=0 from rfl] at h
 unfold kG KJ
 rw [h,Option.bind_some,mmb,KA,ra]
theorem J8 (n:Nat) (s:BA) (hs:s.size≤1000000):∀ (r:List Int) (k m:Nat),(bs s).drop k=r→k≤s.size→r.length<m→cd n m s 33 k=some (if r.all pr=true then .out () else .ret false)
 | [],k,m,h,hk,hm=>by
  obtain ⟨m,rfl⟩:∃ q,m=q+1:=⟨m - 1,by omega⟩
  have:=Wf h
  simp [cd,Cj,this]
 | c::r,k,m,h,hk,hm=>by
  obtain ⟨m,rfl⟩:∃ q,m=q+1:=⟨m - 1,by omega⟩
  obtain ⟨h1,h2,h3,h4,h5⟩:=rc h
  have e1:=wr1 (k:=k) (by omega)
  have a3:(0:Int)≤(k:Int):=by omega
  have ih:=J8 n s hs r (k+1) m h3 (by omega) (by simpa using hm)
  simp only [cd,Cj,h1,h2,a3,e1]
  by_cases g1:c<33
  · have:pr c=false:=by simp [pr];omega
    simp [g1,this]
  · by_cases g2:c>126
    · have:pr c=false:=by simp [pr];omega
      simp [g1,g2,this]
    · have:pr c=true:=by simp [pr];omega
      simpa [g1,g2,this] using ih
theorem Ffb (n:Nat) (s:BA) (hs:s.size≤1000000) (hn:10000000≤n):jB n s 33=some ((bs s).all pr):=by
 have h:=J8 n s hs (bs s) 0 n (by simp) (by omega) (by rw [ra];omega)
 rw [show ((0:Nat):Int)=0 from rfl] at h
 unfold jB kB
 rw [h,Option.bind_some]
 cases (bs s).all pr<;>rfl
theorem o3 (n:Nat) (l:Sq BA) (hn:10000000≤n) (hl:l.n≤2000000) (hs:∀ i,i<l.n→(l.at' i).size≤1000000):∀ (W:List (List Int)) (i m:Nat),(sqL bs l).drop i=W→W.length<m→i≤l.n→
  vd n m l i=some (if W.all RO=true then .out () else .ret false)
 | [],i,m,h,hm,hi=>by
  obtain ⟨m,rfl⟩:∃ q,m=q+1:=⟨m - 1,by omega⟩
  have:=Rl h
  have e:¬((i:Int)<(l.n:Int)):=by omega
  simp [vd,Lj,e]
 | w::W,i,m,h,hm,hi=>by
  obtain ⟨m,rfl⟩:∃ q,m=q+1:=⟨m - 1,by omega⟩
  obtain ⟨h1,h2,h3⟩:=Ih h
  have e1:=wr1 (k:=i) (by omega)
  have a3:(0:Int)≤(i:Int):=by omega
  have a4:(i:Int)<(l.n:Int):=by omega
  have ih:=o3 n l hn hl hs W (i+1) m h3 (by simpa using hm) (by omega)
  have hp:=Ffb n (l.at' i) (hs i h1) hn
  simp only [vd,Lj,a3,a4,e1,Int.toNat_natCast,Pa,h2,hp,Option.bind_some]
  have e0:bs (⟨#[]⟩:BA)=[]:=rfl
  rw [e0]
  cases w with
  | nil=>simp [RO]
  | cons c r=>
   by_cases g:(c::r).all pr=true
   · simpa [g,RO] using ih
   · have g':(c::r).all pr=false:=by simpa using g
     simp [g',RO]
theorem Feb (n:Nat) (s:BA) (hs:s.size≤1000000) (hn:10000000≤n):Rv n s=some (KA (bs s)):=by
 rw [←xcb]
 unfold Rv BB
 by_cases g:(s.size:Int)>64
 · have:¬(bs s).length≤64:=by rw [ra];omega
   simp [g,this]
 · obtain ⟨q,h1,h2⟩:=SO n s 32 hs hn
   obtain ⟨h3,h4⟩:=Vo h2
   have h:=o3 n q hn (by omega) (fun i hi=>Nat.le_trans (h4 i hi) hs) _ 0 n rfl (by rw [List.drop_zero,Ub];omega) (by omega)
   rw [show ((0:Nat):Int)=0 from rfl,List.drop_zero,h2] at h
   have:(bs s).length≤64:=by rw [ra];omega
   simp only [g,h1,h,Option.bind_some,this,decide_true,decide_false,Bool.true_and]
   cases (Oa 32 [] (bs s)).all RO<;>rfl
/-! Letters. -/
theorem Jdb (n:Nat) (s w:BA) (hs:s.size≤1000000) (hw:w.size=s.size):∀ (r q:List Int) (k m:Nat),(bs s).drop k=r→(bs w).drop k=q→k≤s.size→r.length<m→
  Cg n m s w s.size k=some (if r.map up=q then .out () else .ret false)
 | [],q,k,m,h,hq,hk,hm=>by
  obtain ⟨m,rfl⟩:∃ q,m=q+1:=⟨m - 1,by omega⟩
  have:=Wf h
  have hq0:q=[]:=by
   have h1:=congrArg List.length h
   have h2:=congrArg List.length hq
   rw [List.length_drop,ra] at h1 h2
   cases q with
   | nil=>rfl
   | cons a b=>simp at h1 h2;omega
  subst hq0
  simp [Cg,tu,this]
 | c::r,[],k,m,h,hq,hk,hm=>by
  have h1:=congrArg List.length h
  have h2:=congrArg List.length hq
  rw [List.length_drop,ra] at h1 h2
  simp at h1 h2;omega
 | c::r,d::q,k,m,h,hq,hk,hm=>by
  obtain ⟨m,rfl⟩:∃ q,m=q+1:=⟨m - 1,by omega⟩
  obtain ⟨h1,h2,h3,h4,h5⟩:=rc h
  obtain ⟨q1,q2,q3,_,_⟩:=rc hq
  have e1:=wr1 (k:=k) (by omega)
  have a3:(0:Int)≤(k:Int):=by omega
  have ih:=Jdb n s w hs hw r q (k+1) m h3 q3 (by omega) (by simpa using hm)
  simp only [Cg,tu,h1,h2,q1,q2,a3,e1,List.map_cons,List.cons.injEq]
  by_cases g1:97≤c
  · by_cases g2:c≤122
    · have eu:up c=c - 32:=by unfold up;rw [if_pos ⟨g1,g2⟩]
      have e8:=wr8 (x:=c - 32) (by omega) (by omega)
      rw [eu,e8]
      by_cases g:c - 32=d
      · subst g;simpa [g1,g2] using ih
      · have:(c - 32 !=d)=true:=by simpa using g
        simp [g1,g2,g,this]
    · have eu:up c=c:=by unfold up;rw [if_neg (by omega)]
      rw [eu]
      by_cases g:c=d
      · subst g;simpa [g1,g2] using ih
      · have:(c !=d)=true:=by simpa using g
        simp [g1,g2,g,this]
  · have eu:up c=c:=by unfold up;rw [if_neg (by omega)]
    rw [eu]
    by_cases g:c=d
    · subst g;simpa [g1] using ih
    · have:(c !=d)=true:=by simpa using g
      simp [g1,g,this]
theorem Kdb (n:Nat) (s w:BA) (hs:s.size≤1000000) (hn:10000000≤n):xS n s w=some (decide ((bs s).map up=bs w)):=by
 unfold xS qP
 by_cases g:s.size=w.size
 · have h:=Jdb n s w hs g.symm (bs s) (bs w) 0 n (by simp) (by simp) (by omega) (by rw [ra];omega)
   rw [show ((0:Nat):Int)=0 from rfl] at h
   have:((s.size:Int) !=(w.size:Int))=false:=by rw [g];simp
   rw [this,h,Option.bind_some]
   by_cases e:(bs s).map up=bs w
   · simp [e,onL]
   · simp [e,onL]
 · have:((s.size:Int) !=(w.size:Int))=true:=by simp only [bne_iff_ne];omega
   rw [if_pos this]
   have:¬(bs s).map up=bs w:=fun e=>by
    have:=congrArg List.length e
    rw [List.length_map,ra,ra] at this
    exact g this
   simp [this]
/-! Names. -/
def vkd (l:List Int):Int:=if l.map up=[72,69,76,79] then 1 else if l.map up=[69,72,76,79] then 2 else if l.map up=[77,65,73,76] then 3 else if l.map up=[82,67,80,84] then 4 else
 if l.map up=[68,65,84,65] then 5 else if l.map up=[82,83,69,84] then 6 else if l.map up=[78,79,79,80] then 7 else if l.map up=[81,85,73,84] then 8 else if l.map up=[86,82,70,89] then 9 else 0
theorem Gi (n m:Nat) (s:BA) (hs:s.size≤1000000) (hn:10000000≤n) (k:Int) (hk:k≤9) (w:BA) (l:List Int) (hl:bs w=l) (hw:CS n k=some w) (k':Int) (hk':IntKind.wrap .i64 (k+1)=k'):
  Jc n (m+1) s k=if (bs s).map up=l then some (.ret k) else Jc n m s k':=by
 subst hl
 simp only [Jc,su,hk,hw,hk',Option.bind_some,Kdb n s w hs hn,decide_true,if_true,decide_eq_true_eq]
theorem Hib (n:Nat) (s:BA) (hs:s.size≤1000000) (hn:10000000≤n):PD n s=some (vkd (bs s)):=by
 have key:∃ x,Jc n n s 1=some x∧onL x (fun _=>some (0:Int)) (fun a=>some a) (fun _=>none)=some (vkd (bs s)):=by
  obtain ⟨m,hm⟩:∃ m,n=m+10:=⟨n - 10,by omega⟩
  have e:Jc n n s 1=Jc n (m+10) s 1:=by rw [←hm]
  rw [e,Gi n _ s hs hn 1 (by omega) (⟨#[72,69,76,79]⟩:BA) [72,69,76,79] rfl rfl 2 (by rfl),Gi n _ s hs hn 2 (by omega) (⟨#[69,72,76,79]⟩:BA) [69,72,76,79] rfl rfl 3 (by rfl),
   Gi n _ s hs hn 3 (by omega) (⟨#[77,65,73,76]⟩:BA) [77,65,73,76] rfl rfl 4 (by rfl),Gi n _ s hs hn 4 (by omega) (⟨#[82,67,80,84]⟩:BA) [82,67,80,84] rfl rfl 5 (by rfl),
   Gi n _ s hs hn 5 (by omega) (⟨#[68,65,84,65]⟩:BA) [68,65,84,65] rfl rfl 6 (by rfl),Gi n _ s hs hn 6 (by omega) (⟨#[82,83,69,84]⟩:BA) [82,83,69,84] rfl rfl 7 (by rfl),
   Gi n _ s hs hn 7 (by omega) (⟨#[78,79,79,80]⟩:BA) [78,79,79,80] rfl rfl 8 (by rfl),Gi n _ s hs hn 8 (by omega) (⟨#[81,85,73,84]⟩:BA) [81,85,73,84] rfl rfl 9 (by rfl),
   Gi n _ s hs hn 9 (by omega) (⟨#[86,82,70,89]⟩:BA) [86,82,70,89] rfl rfl 10 (by rfl)]
  have last:Jc n (m+1) s 10=some (.out ()):=by simp [Jc,su]
  rw [last]
  unfold vkd
  repeat' split
  all_goals exact ⟨_,rfl,rfl⟩
 obtain ⟨x,h1,h2⟩:=key
 unfold PD pP
 rw [h1,Option.bind_some]
 exact h2
/-! What follows a word. -/
theorem zd (n:Nat) (b:Bool) (e:Int):Ia n b e=some (if b=true then .ok () else .error e):=by
 unfold Ia rP
 cases b<;>rfl
theorem rl {l w:List Int} {f:Int→Int} (h:(l.take w.length).map f=w):w.length≤l.length:=by
 have:=congrArg List.length h
 rw [List.length_map,List.length_take] at this
 omega
theorem pK (s:BA) (k:Nat):bs (s.extract 0 k)=(bs s).take k:=by rw [Hf,List.drop_zero]
theorem Qh (s:BA) (k:Nat):bs (s.extract k s.size)=(bs s).drop k:=by rw [Hf,←ra,List.take_length]
theorem nh (s:BA) (i j:Nat):(s.extract i j).size≤s.size:=by
 rw [←ra,Hf,List.length_drop,List.length_take,ra];omega
theorem tW (n:Nat) (s w:BA) (hs:s.size≤1000000) (hn:10000000≤n):vh n s w=some (if ((bs s).take w.size).map up=bs w then .ok (s.extract w.size s.size) else .error 8):=by
 unfold vh HJ
 by_cases g:w.size≤s.size
 · have e1:decide ((s.size:Int)≥(w.size:Int))=true:=decide_eq_true (by omega)
   have e2:0≤(w.size:Int)∧(w.size:Int)≤(s.size:Int):=⟨by omega,by omega⟩
   have hl:=Kdb n (s.extract (Int.toNat 0) (Int.toNat (w.size:Int))) w (by have:=nh s (Int.toNat 0) (Int.toNat (w.size:Int));omega) hn
   have hx:bs (s.extract (Int.toNat 0) (Int.toNat (w.size:Int)))=(bs s).take w.size:=pK s w.size
   rw [hx] at hl
   rw [if_pos e1,if_pos e2,hl,Option.bind_some,zd,Option.bind_some]
   by_cases h:((bs s).take w.size).map up=bs w
   · rw [if_pos h,decide_eq_true h,if_pos rfl]
     simp only [onX,if_pos e2,Int.toNat_natCast]
   · rw [if_neg h,decide_eq_false h]
     rfl
 · have e1:decide ((s.size:Int)≥(w.size:Int))=false:=decide_eq_false (by omega)
   have h:¬((bs s).take w.size).map up=bs w:=fun h=>by
    rw [←ra w] at h
    have:=rl h
    rw [ra,ra] at this;omega
   rw [if_neg h,if_neg (by rw [e1];simp),zd]
   rfl
theorem SP (n:Nat) (s w:BA) (hs:s.size≤1000000) (hw:w.size≤1000000) (hn:10000000≤n) (hc:Tjb (bs w)=true):Vi n s w=some (decide (((bs s).take w.size).map up=bs w)):=by
 unfold Vi Jv
 by_cases g:w.size≤s.size
 · have e1:decide ((s.size:Int)≥(w.size:Int))=true:=decide_eq_true (by omega)
   have e2:0≤(w.size:Int)∧(w.size:Int)≤(s.size:Int):=⟨by omega,by omega⟩
   obtain ⟨t1,h1,h2⟩:=xG n (s.extract (Int.toNat 0) (Int.toNat (w.size:Int))) (by have:=nh s (Int.toNat 0) (Int.toNat (w.size:Int));omega) hn
   obtain ⟨t2,h3,h4⟩:=xG n w hw hn
   have hx:bs (s.extract (Int.toNat 0) (Int.toNat (w.size:Int)))=(bs s).take w.size:=pK s w.size
   rw [hx] at h2
   rw [if_pos e1,if_pos e2,h1,Option.bind_some,h3,Option.bind_some,Pa,h2,h4]
   congr 1
   rw [decide_eq_decide]
   exact (Dhb _ _ hc).symm
 · have e1:decide ((s.size:Int)≥(w.size:Int))=false:=decide_eq_false (by omega)
   have h:¬((bs s).take w.size).map up=bs w:=fun h=>by
    rw [←ra w] at h
    have:=rl h
    rw [ra,ra] at this;omega
   rw [if_neg (by rw [e1];simp),decide_eq_false h]
theorem Teb (n:Nat) (s:BA):Fa n s (⟨#[32]⟩:BA)=some (if (bs s).head?=some 32 then s.extract 1 s.size else s):=by
 have hp:Pc n s (⟨#[32]⟩:BA)=some (decide ((bs s).head?=some 32)):=by
  have:=Ig n s (⟨#[32]⟩:BA) (c:=32) rfl
  unfold Lb Ef at this
  cases h:Pc n s (⟨#[32]⟩:BA) with
  | none=>rw [h] at this;cases this
  | some b=>rw [h] at this;exact this
 have h1:(⟨#[32]⟩:BA).size=1:=rfl
 unfold Fa zg Lg ig
 rw [hp,Option.bind_some]
 by_cases g:(bs s).head?=some 32
 · have hz:1≤s.size:=by
    rw [←ra]
    cases hb:bs s with
    | nil=>rw [hb] at g;cases g
    | cons a b=>simp
   have e2:0≤((⟨#[32]⟩:BA).size:Int)∧((⟨#[32]⟩:BA).size:Int)≤(s.size:Int):=⟨by omega,by omega⟩
   rw [decide_eq_true g,if_pos rfl,if_pos e2,if_pos g]
   rfl
 · rw [decide_eq_false g,if_neg (by simp),if_neg g]
   rfl
def Kd (l:List Int):List Int:=if l.head?=some 32 then l.drop 1 else l
theorem uY (s:BA):bs (if (bs s).head?=some 32 then s.extract 1 s.size else s)=Kd (bs s):=by
 unfold Kd
 split
 · exact Qh s 1
 · rfl
open Go Go.RowKit
theorem Fdb (n:Nat) (s:BA) (hs:s.size≤1000000) (c:Int):∀ (j m:Nat),j≤s.size→j<m→c ∉ (bs s).drop j→
  ∃ x,Ba n m s c ((j:Int) - 1)=some x∧(x=.out ()∧c ∉ bs s∨∃ k:Nat,x=.ret (k:Int)∧k<(bs s).length∧(bs s)[k]?=some c∧c ∉ (bs s).drop (k+1))
 | 0,m,hj,hm,hc=>by
  obtain ⟨m,rfl⟩:∃ q,m=q+1:=⟨m - 1,by omega⟩
  exact ⟨.out (),by simp [Ba,Ta],.inl ⟨rfl,by simpa using hc⟩⟩
 | j+1,m,hj,hm,hc=>by
  obtain ⟨m,rfl⟩:∃ q,m=q+1:=⟨m - 1,by omega⟩
  have hlt:j<(bs s).length:=by rw [ra];omega
  obtain ⟨d,hd⟩:∃ d,(bs s)[j]?=some d:=⟨(bs s)[j],by simp [hlt]⟩
  have hb:=oT hd
  have e0:((j+1:Nat):Int) - 1=(j:Int):=by omega
  have a1:(0:Int)≤(j:Int):=by omega
  have a2:(j:Int)<(s.size:Int):=by omega
  have w1:IntKind.wrap .i64 ((j:Int) - 1)=(j:Int) - 1:=wr (by omega) (by omega)
  rw [e0]
  by_cases g:d=c
  · subst g
    exact ⟨.ret (j:Int),by simp [Ba,Ta,a1,a2,hb],.inr ⟨j,rfl,hlt,hd,hc⟩⟩
  · have hdr:(bs s).drop j=d::(bs s).drop (j+1):=by
     rw [List.drop_eq_getElem_cons hlt]
     have:(bs s)[j]=d:=by
      have:=List.getElem?_eq_getElem hlt
      rw [hd] at this;exact (Option.some.inj this).symm
     rw [this]
    obtain ⟨x,h1,h2⟩:=Fdb n s hs c j m (by omega) (by omega) (by rw [hdr];simp only [List.mem_cons,not_or];exact ⟨fun e=>g e.symm,hc⟩)
    have hdc:(d==c)=false:=by simpa using g
    exact ⟨x,by simpa [Ba,Ta,a1,a2,hb,hdc,w1] using h1,h2⟩
theorem Jib (n:Nat) (s:BA) (hs:s.size≤1000000) (hn:10000000≤n):∃ i,Dd n s 62=some i∧Zkb (bs s) i:=by
 have w1:IntKind.wrap .i64 ((s.size:Int) - 1)=(s.size:Int) - 1:=wr (by omega) (by omega)
 obtain ⟨x,h1,h2⟩:=Fdb n s hs 62 s.size n (Nat.le_refl _) (by omega) (by rw [←ra,List.drop_length];simp)
 unfold Dd Lf cc Cc
 rw [w1,h1]
 rcases h2 with ⟨rfl,h3⟩ | ⟨k,rfl,h3⟩
 · exact ⟨-1,rfl,.inl ⟨rfl,h3⟩⟩
 · exact ⟨k,rfl,.inr ⟨k,rfl,h3⟩⟩
/-! Paths. -/
theorem Y4 (n:Nat) (s:BA) (hs:s.size≤400000) (hn:10000000≤n):match VT (bs s) with
  | none=>Kz n s=some (E6,false,false,())∧VD n s=some (E6,false,8,())
  | some v=>∃ p1 p2,Kz n s=some ((p1,(p2,())),v.1,true,())∧VD n s=some ((p1,(p2,())),v.1,0,())∧bs p1=v.2.1∧bs p2=v.2.2:=by
 have hz:bs (⟨#[60,62]⟩:BA)=[60,62]:=rfl
 unfold Kz FI VD yG VT
 by_cases c1:bs s=[60,62]
 · have c1':(s.toList==(⟨#[60,62]⟩:BA).toList)=true:=by rw [Pa,hz,decide_eq_true c1]
   rw [if_pos c1',if_pos c1',if_pos c1]
   exact ⟨_,_,rfl,rfl,rfl,rfl⟩
 have c1':¬(s.toList==(⟨#[60,62]⟩:BA).toList)=true:=by rw [Pa,hz,decide_eq_false c1];simp
 rw [if_neg c1',if_neg c1',if_neg c1]
 by_cases c2:decide ((s.size:Int)<(2:Int))=false
 · rw [if_pos c2,if_pos c2]
   have hz:¬((s.size:Int)<2):=of_decide_eq_false c2
   have w:IntKind.wrap .i64 ((s.size:Int) - 1)=(s.size:Int) - 1:=wr (by omega) (by omega)
   have c3:0≤(0:Int)∧(0:Int)<(s.size:Int):=⟨by omega,by omega⟩
   obtain ⟨d,hd1,hd2⟩:=dy (s:=s) (by omega)
   obtain ⟨e,he1,he2⟩:=uW (s:=s) (by omega)
   have he2':bt s ((s.size:Int) - 1)=e:=by rw [←he2];congr 1;omega
   rw [w,if_pos c3,if_pos c3]
   by_cases c4:d=60
   · have c4':((bt s (0:Int)) !=(60:Int))=false:=by rw [hd2,c4];rfl
     rw [if_pos c4',if_pos c4']
     have c5:0≤(s.size:Int) - 1∧(s.size:Int) - 1<(s.size:Int):=⟨by omega,by omega⟩
     rw [if_pos c5,if_pos c5]
     by_cases c6:e=62
     · have c6':¬((bt s ((s.size:Int) - 1)) !=(62:Int))=true:=by rw [he2',c6];simp
       rw [if_neg c6',if_neg c6',if_pos ⟨by rw [ra];omega,by rw [hd1,c4],by rw [he1,c6]⟩]
       have c7:0≤(s.size:Int) - 1∧(s.size:Int) - 1≤(s.size:Int):=⟨by omega,by omega⟩
       have c8:0≤(1:Int)∧(1:Int)≤(s.size:Int) - 1:=⟨by omega,by omega⟩
       rw [if_pos c7,if_pos c8,if_pos c7,if_pos c8]
       have hi:bs (s.extract (Int.toNat (1:Int)) (Int.toNat ((s.size:Int) - 1)))=Ep (bs s):=by
        rw [←WO]
        congr 2
        omega
       have ht:(s.extract (Int.toNat (1:Int)) (Int.toNat ((s.size:Int) - 1))).size≤400000:=by
        have:=nh s (Int.toNat (1:Int)) (Int.toNat ((s.size:Int) - 1));omega
       have hP:=I8 n _ ht hn
       have hR:=veb n _ ht hn
       rw [←I9] at hR
       rw [hi] at hP hR
       cases hv:ceb (Ep (bs s)) with
       | none=>
        rw [hv] at hP hR
        simp only [Z4] at hP hR
        rw [hP,hR]
        exact ⟨rfl,rfl⟩
       | some y=>
        rw [hv] at hP hR
        obtain ⟨t1,t2,j1,j2,j3⟩:=hP
        obtain ⟨u1,u2,k1,k2,k3⟩:=hR
        have x1:u1=t1:=eV (k2.trans j2.symm)
        have x2:u2=t2:=eV (k3.trans j3.symm)
        subst x1 x2
        rw [j1,k1]
        exact ⟨u1,u2,rfl,rfl,k2,k3⟩
     · have c6':((bt s ((s.size:Int) - 1)) !=(62:Int))=true:=by rw [he2'];simpa using c6
       rw [if_pos c6',if_pos c6',if_neg (fun hh=>c6 (by rw [he1] at hh;exact Option.some.inj hh.2.2))]
       exact ⟨rfl,rfl⟩
   · have c4':¬((bt s (0:Int)) !=(60:Int))=false:=by rw [hd2];simpa using c4
     rw [if_neg c4',if_neg c4',if_neg (fun hh=>c4 (by rw [hd1] at hh;exact Option.some.inj hh.2.1))]
     exact ⟨rfl,rfl⟩
 · rw [if_neg c2,if_neg c2,if_neg (fun hh=>by
    rw [ra] at hh
    have:((s.size:Int)<2):=by simpa using c2
    omega)]
   exact ⟨rfl,rfl⟩
/-! Digits. -/
theorem rab (n:Nat) (s:BA) (hs:s.size≤10):∀ (r:List Int) (k m:Nat) (v:Int),(bs s).drop k=r→k≤s.size→r.length<m→0≤v→v<10^k→ve n m s v s.size k=some (if r.all dig=true then .out (wG v r) else .pan 8)
 | [],k,m,v,h,hk,hm,h0,hv=>by
  obtain ⟨m,rfl⟩:∃ q,m=q+1:=⟨m - 1,by simp at hm;omega⟩
  have:=Wf h
  simp [ve,ep,this,wG]
 | c::r,k,m,v,h,hk,hm,h0,hv=>by
  obtain ⟨m,rfl⟩:∃ q,m=q+1:=⟨m - 1,by simp at hm;omega⟩
  obtain ⟨h1,h2,h3,h4,h5⟩:=rc h
  have e1:=wr1 (k:=k) (by omega)
  have a3:(0:Int)≤(k:Int):=by omega
  have hp:(10:Int)^k≤10^16:=by
   have:(10:Nat)^k≤10^16:=Nat.pow_le_pow_right (by decide) (by omega)
   exact_mod_cast this
  have hp2:(10:Int)^16=10000000000000000:=by decide
  by_cases hd:dig c=true
  · have hc:48≤c∧c≤57:=by simpa [dig] using hd
    have ih:=rab n s hs r (k+1) m (10*v+(c - 48)) h3 (by omega) (by simpa using hm) (by omega) (by rw [Int.pow_succ];omega)
    have b1:c≥48:=by omega
    have w1:=wr8 (x:=c - 48) (by omega) (by omega)
    have w2:=wr (x:=c - 48) (by omega) (by omega)
    have w3:=wr (x:=10*v) (by omega) (by omega)
    have w4:=wr (x:=10*v+(c - 48)) (by omega) (by omega)
    simp only [ve,ep,h1,h2,a3,e1,b1,hc.2,w1,w2,w3,w4,zd,List.all_cons,hd,Bool.true_and,wG,decide_true]
    simpa [onX] using ih
  · have hd':dig c=false:=by simpa using hd
    simp only [ve,ep,h1,h2,a3,e1,zd,List.all_cons,hd',Bool.false_and]
    by_cases b1:c≥48
    · have b2:¬c≤57:=by simp [dig] at hd';omega
      simp [b1,b2,onX]
    · simp [b1,onX]
theorem X9 (n:Nat) (s:BA) (hs:s.size≤10):∀ (r:List Int) (k m:Nat) (v:Int),(bs s).drop k=r→k≤s.size→r.length<m→0≤v→v<10^k→Cd n m s v k=some (if r.all dig=true then .out (wG v r) else .ret (0,false))
 | [],k,m,v,h,hk,hm,h0,hv=>by
  obtain ⟨m,rfl⟩:∃ q,m=q+1:=⟨m - 1,by simp at hm;omega⟩
  have:=Wf h
  simp [Cd,Kj,this,wG]
 | c::r,k,m,v,h,hk,hm,h0,hv=>by
  obtain ⟨m,rfl⟩:∃ q,m=q+1:=⟨m - 1,by simp at hm;omega⟩
  obtain ⟨h1,h2,h3,h4,h5⟩:=rc h
  have e1:=wr1 (k:=k) (by omega)
  have a3:(0:Int)≤(k:Int):=by omega
  have hp:(10:Int)^k≤10^16:=by
   have:(10:Nat)^k≤10^16:=Nat.pow_le_pow_right (by decide) (by omega)
   exact_mod_cast this
  have hp2:(10:Int)^16=10000000000000000:=by decide
  have hdg:Jk n c=some (dig c):=RW n c
  by_cases hd:dig c=true
  · have hc:48≤c∧c≤57:=by simpa [dig] using hd
    have ih:=X9 n s hs r (k+1) m (10*v+(c - 48)) h3 (by omega) (by simpa using hm) (by omega) (by rw [Int.pow_succ];omega)
    have w1:=wr8 (x:=c - 48) (by omega) (by omega)
    have w2:=wr (x:=c - 48) (by omega) (by omega)
    have w3:=wr (x:=10*v) (by omega) (by omega)
    have w4:=wr (x:=10*v+(c - 48)) (by omega) (by omega)
    simp only [Cd,Kj,h1,h2,a3,e1,w1,w2,w3,w4,hdg,hd,List.all_cons,Bool.true_and,wG,Option.bind_some]
    simpa using ih
  · have hd':dig c=false:=by simpa using hd
    simp [Cd,Kj,h1,h2,a3,e1,hdg,List.all_cons,hd']
def H7 (w:List Int):Bool:=decide (1≤w.length)&&decide (w.length≤10)&&w.all dig&&decide (wG 0 w≤1073741824)
theorem Leb (l:List Int):gS l=if l=[] then some (-1) else if (l.take 6).map up=[32,83,73,90,69,61]∧H7 (l.drop 6)=true then some (wG 0 (l.drop 6)) else none:=by
 unfold gS H7
 by_cases h0:l=[]
 · rw [if_pos h0,if_pos h0]
 · rw [if_neg h0,if_neg h0]
   simp only [Bool.and_eq_true,decide_eq_true_eq,and_assoc]
theorem Bgb (n:Nat) (s:BA) (hn:10000000≤n):∃ z,PF n s=some (z,H7 (bs s),())∧(H7 (bs s)=true→z=wG 0 (bs s)):=by
 unfold PF fJ H7
 rw [ra]
 by_cases c1:1≤s.size
 · have e1:decide ((s.size:Int)<(1:Int))=false:=decide_eq_false (by omega)
   rw [if_pos e1]
   by_cases c2:s.size≤10
   · have e2:¬decide ((s.size:Int)>(10:Int))=true:=by simp;omega
     have h:=X9 n s c2 (bs s) 0 n 0 (by simp) (by omega) (by rw [ra];omega) (by omega) (by decide)
     rw [show ((0:Nat):Int)=0 from rfl] at h
     rw [if_neg e2,h,Option.bind_some]
     by_cases g:(bs s).all dig=true
     · rw [if_pos g]
       exact ⟨wG 0 (bs s),by simp [onL,c1,c2,g],fun _=>rfl⟩
     · rw [if_neg g]
       have g':(bs s).all dig=false:=by simpa using g
       exact ⟨0,by simp only [onL,g'];simp,fun hh=>by rw [g'] at hh;simp at hh⟩
   · have e2:decide ((s.size:Int)>(10:Int))=true:=decide_eq_true (by omega)
     rw [if_pos e2]
     exact ⟨0,by simp [c2],fun hh=>by simp [c2] at hh⟩
 · have e1:¬decide ((s.size:Int)<(1:Int))=false:=by simp;omega
   rw [if_neg e1]
   exact ⟨0,by simp [c1],fun hh=>by simp [c1] at hh⟩
theorem jhb (n:Nat) (s:BA) (hs:s.size≤1000000) (hn:10000000≤n):QD n s=some (match gS (bs s) with
  | some z=>.ok z
  | none=>.error 8):=by
 rw [Leb]
 unfold QD vP
 have e0:bs (⟨#[]⟩:BA)=[]:=rfl
 have e6:bs (⟨#[32,83,73,90,69,61]⟩:BA)=[32,83,73,90,69,61]:=rfl
 have z6:(⟨#[32,83,73,90,69,61]⟩:BA).size=6:=rfl
 rw [Pa,e0]
 by_cases h0:bs s=[]
 · rw [if_pos h0,if_pos (decide_eq_true h0)]
 · rw [if_neg h0,if_neg (by simpa using h0),tW n s _ hs hn,e6,z6]
   by_cases h1:((bs s).take 6).map up=[32,83,73,90,69,61]
   · rw [if_pos h1,Option.bind_some]
     simp only [onX,true_and,h1]
     have ht:bs (s.extract 6 s.size)=(bs s).drop 6:=Qh s 6
     generalize s.extract 6 s.size=t at ht
     rw [←ht]
     unfold H7
     rw [ra]
     by_cases c1:1≤t.size
     · have e1:decide ((t.size:Int)≥(1:Int))=true:=decide_eq_true (by omega)
       rw [if_pos e1,zd]
       by_cases c2:t.size≤10
       · have e2:decide ((t.size:Int)≤(10:Int))=true:=decide_eq_true (by omega)
         have h:=rab n t c2 (bs t) 0 n 0 (by simp) (by omega) (by rw [ra];omega) (by omega) (by decide)
         rw [show ((0:Nat):Int)=0 from rfl] at h
         rw [e2]
         simp only [if_true,Option.bind_some,h]
         by_cases g:(bs t).all dig=true
         · rw [if_pos g]
           by_cases g2:wG 0 (bs t)≤1073741824
           · simp [onL,zd,c1,c2,g,g2]
           · simp [onL,zd,c1,c2,g,g2]
         · have g':(bs t).all dig=false:=by simpa using g
           simp [onL,g']
       · have e2:decide ((t.size:Int)≤(10:Int))=false:=decide_eq_false (by omega)
         rw [e2]
         simp [c2]
     · have e1:¬decide ((t.size:Int)≥(1:Int))=true:=by simp;omega
       rw [if_neg e1,zd]
       simp [c1]
   · rw [if_neg h1,Option.bind_some,if_neg (fun hh=>h1 hh.1)]
     rfl
/-! Where a path ends. -/
theorem Dn (n:Nat) (s:BA) (hs:s.size≤1000000):∀ (N:Nat) (r:List Int) (b:Bool) (k m:Nat),r.length≤N→(bs s).drop k=r→k≤s.size→r.length+1<m→
  ∃ x,Sa n m s b k=some x∧onL x (fun a=>some (a.size:Int)) (fun a=>some a) (fun _=>none)=some ((k:Int)+pe (if b=true then 1 else 0) r)
 | N,[],b,k,m,hN,h,hk,hm=>by
  obtain ⟨m,rfl⟩:∃ q,m=q+1:=⟨m - 1,by omega⟩
  have:=Wf h
  refine ⟨.out s,by simp [Sa,Bb,this],?_⟩
  have e:s.size=k:=by have:=UW h hk;simpa using this
  cases b<;>simp [onL,pe,e]
 | 0,c::r,b,k,m,hN,h,hk,hm=>by simp at hN
 | N+1,c::r,b,k,m,hN,h,hk,hm=>by
  obtain ⟨m,rfl⟩:∃ q,m=q+1:=⟨m - 1,by omega⟩
  obtain ⟨h1,h2,h3,h4,h5⟩:=rc h
  have hN':r.length≤N:=by simpa using hN
  have e1:=wr1 (k:=k) (by omega)
  have e2:=wr1 (k:=k+1) (by omega)
  have a3:(0:Int)≤(k:Int):=by omega
  cases b with
  | true=>
   by_cases g1:c=92
   · subst g1
     cases r with
     | nil=>
      have hz:s.size=k+1:=by have:=UW h hk;simpa using this
      obtain ⟨m,rfl⟩:∃ q,m=q+1:=⟨m - 1,by simp at hm;omega⟩
      have hlt:¬(((k+1+1:Nat):Int)<(s.size:Int)):=by omega
      refine ⟨.out s,?_,by simp [onL,pe,hz]⟩
      simp only [Sa,Bb,h1,h2,a3,e1,e2,hlt]
      simp
     | cons d r=>
      obtain ⟨_,_,q3,_,_⟩:=rc h3
      obtain ⟨x,i1,i2⟩:=Dn n s hs N r true (k+1+1) m (by simp at hN';omega) q3 (by have:=UW h hk;simp at this;omega) (by simp at hm;omega)
      refine ⟨x,?_,?_⟩
      · rw [←i1]
        simp only [Sa,Bb,h1,h2,a3,e1,e2]
        simp
      · rw [i2]
        simp only [if_true,pe]
        congr 1
        omega
   · have g1':(c==92)=false:=by simpa using g1
     by_cases g2:c=34
     · subst g2
       obtain ⟨x,i1,i2⟩:=Dn n s hs N r false (k+1) m hN' h3 (by omega) (by simpa using hm)
       refine ⟨x,?_,?_⟩
       · rw [←i1]
         simp only [Sa,Bb,h1,h2,a3,e1]
         simp
       · rw [i2]
         simp [pe]
         omega
     · have g2':(c==34)=false:=by simpa using g2
       obtain ⟨x,i1,i2⟩:=Dn n s hs N r true (k+1) m hN' h3 (by omega) (by simpa using hm)
       refine ⟨x,?_,?_⟩
       · rw [←i1]
         simp only [Sa,Bb,h1,h2,a3,e1,g1',g2']
         simp
       · rw [i2]
         simp [pe,g1,g2]
         omega
  | false=>
   by_cases g2:c=34
   · subst g2
     obtain ⟨x,i1,i2⟩:=Dn n s hs N r true (k+1) m hN' h3 (by omega) (by simpa using hm)
     refine ⟨x,?_,?_⟩
     · rw [←i1]
       simp only [Sa,Bb,h1,h2,a3,e1]
       simp
     · rw [i2]
       simp [pe]
       omega
   · have g2':(c==34)=false:=by simpa using g2
     by_cases g3:c=62
     · subst g3
       refine ⟨.ret ((k+1:Nat):Int),?_,by simp [onL,pe]⟩
       simp only [Sa,Bb,h1,h2,a3,e1]
       simp
     · have g3':(c==62)=false:=by simpa using g3
       obtain ⟨x,i1,i2⟩:=Dn n s hs N r false (k+1) m hN' h3 (by omega) (by simpa using hm)
       refine ⟨x,?_,?_⟩
       · rw [←i1]
         simp only [Sa,Bb,h1,h2,a3,e1,g2',g3']
         simp
       · rw [i2]
         simp [pe,g2,g3]
         omega
theorem pbb (n:Nat) (s:BA) (hs:s.size≤1000000) (hn:10000000≤n):Gn n s=some ((pe 0 (bs s):Nat):Int):=by
 obtain ⟨x,h1,h2⟩:=Dn n s hs _ (bs s) false 0 n (Nat.le_refl _) (by simp) (by omega) (by rw [ra];omega)
 rw [show ((0:Nat):Int)=0 from rfl] at h1
 unfold Gn zq
 rw [h1,Option.bind_some]
 rw [h2]
 simp
open Go Go.RowKit
abbrev Vb:=Int×(BA×(Bool×((BA×(BA×Unit))×(Int×Unit))))
def vL (k:Int) (w:List Int) (nl:Bool) (a b:List Int) (z:Int):Bool:=
 if k=1 then (!nl&&(decide (a=[])&&(decide (b=[])&&decide (z=0))))&&lk w
 else if k=2 then (!nl&&(decide (a=[])&&(decide (b=[])&&decide (z=0))))&&lk w
 else if k=3 then decide (w=[])&&((if nl=true then decide (a=[])&&decide (b=[]) else Xp a&&lk b)&&(decide (-1≤z)&&decide (z≤1073741824)))
 else if k=4 then (decide (w=[])&&(decide (z=0)&&!nl))&&(Xp a&&lk b)
 else if k=7 then (!nl&&(decide (a=[])&&(decide (b=[])&&decide (z=0))))&&(KA w || decide (w=[]))
 else if k=9 then (!nl&&(decide (a=[])&&(decide (b=[])&&decide (z=0))))&&KA w
 else if k=5 then decide (w=[])&&(!nl&&(decide (a=[])&&(decide (b=[])&&decide (z=0))))
 else if k=6 then decide (w=[])&&(!nl&&(decide (a=[])&&(decide (b=[])&&decide (z=0))))
 else if k=8 then decide (w=[])&&(!nl&&(decide (a=[])&&(decide (b=[])&&decide (z=0))))
 else false
theorem e0s:bs (⟨#[]⟩:BA)=[]:=rfl
theorem uc (l:List Int):decide ([]=l)=decide (l=[]):=by rw [decide_eq_decide];exact eq_comm
theorem tb (z:Int):((0:Int)==z)=decide (z=0):=by
 by_cases h:z=0
 · subst h;rfl
 · rw [decide_eq_false h];simpa using fun e=>h e.symm
theorem Za (z:Int):(z==(0:Int))=decide (z=0):=by
 by_cases h:z=0
 · subst h;rfl
 · rw [decide_eq_false h];simpa using h
theorem Web (n:Nat) (k:Int) (w a b:BA) (nl:Bool) (z:Int) (hw:w.size≤1000000) (ha:a.size≤100000) (hb:b.size≤100000) (hn:10000000≤n):
  uh n (k,(w,(nl,((a,(b,())),(z,())))))=some (vL k (bs w) nl (bs a) (bs b) z):=by
 have hd:=Gu n w hw hn
 rw [YA] at hd
 have hm:=m5 n a b ha hb hn
 have hwd:=nfb n w hw hn
 have g1:decide (z≥ -1)=decide (-1≤z):=rfl
 unfold uh vY u4 sP vL
 simp only [ja,aa]
 by_cases k1:k=1
 · subst k1
   simp only [hd,Option.bind_some,Pa,e0s,uc,tb,Bool.and_assoc]
   cases lk (bs w)<;>cases nl<;>simp [e0s,uc,tb,Bool.and_assoc]
 by_cases k2:k=2
 · subst k2
   simp only [hd,Option.bind_some,Pa,e0s,uc,tb,Bool.and_assoc]
   cases lk (bs w)<;>cases nl<;>simp [e0s,uc,tb,Bool.and_assoc]
 by_cases k3:k=3
 · subst k3
   simp only [hm,Option.bind_some,Pa,e0s,uc,tb,g1]
   cases nl
   · by_cases q:(Xp (bs a)&&lk (bs b))=true
     · by_cases z1: -1≤z<;>by_cases z2:z≤1073741824<;>simp [q,z1,z2,e0s,uc,tb,Bool.and_assoc]
     · have q':(Xp (bs a)&&lk (bs b))=false:=by simpa using q
       simp [q',e0s,uc,tb,Bool.and_assoc]
   · by_cases z1: -1≤z<;>by_cases z2:z≤1073741824<;>simp [z1,z2,e0s,uc,tb,Bool.and_assoc]
 by_cases k4:k=4
 · subst k4
   simp only [hm,Option.bind_some,Pa,e0s,uc,tb,Bool.and_assoc]
   by_cases q:(Xp (bs a)&&lk (bs b))=true
   · cases nl<;>simp [q,e0s,uc,tb,Bool.and_assoc]
   · have q':(Xp (bs a)&&lk (bs b))=false:=by simpa using q
     simp [q',e0s,uc,tb,Bool.and_assoc]
 by_cases k7:k=7
 · subst k7
   simp only [hwd,Option.bind_some,Pa,e0s,uc,tb,Bool.and_assoc]
   by_cases q:KA (bs w)=true
   · cases nl<;>simp [q,e0s,uc,tb,Bool.and_assoc]
   · have q':KA (bs w)=false:=by simpa using q
     by_cases ew:bs w=[]
     · cases nl<;>simp [q',ew,e0s,uc,tb,Bool.and_assoc]
     · simp [q',ew,e0s,uc,tb,Bool.and_assoc]
 by_cases k9:k=9
 · subst k9
   simp only [hwd,Option.bind_some,Pa,e0s,uc,tb,Bool.and_assoc]
   by_cases q:KA (bs w)=true
   · cases nl<;>simp [q,e0s,uc,tb,Bool.and_assoc]
   · have q':KA (bs w)=false:=by simpa using q
     by_cases ew:bs w=[]
     · have q2:KA []=false:=by rw [←ew];exact q'
       simp [q2,q',ew,e0s,uc,tb,Bool.and_assoc]
     · simp [q',ew,e0s,uc,tb,Bool.and_assoc]
 by_cases k5:k=5
 · subst k5
   simp only [Option.bind_some,Pa,e0s,uc,tb,Bool.and_assoc]
   cases nl<;>simp [e0s,uc,tb,Bool.and_assoc]
 by_cases k6:k=6
 · subst k6
   simp only [Option.bind_some,Pa,e0s,uc,tb,Bool.and_assoc]
   cases nl<;>simp [e0s,uc,tb,Bool.and_assoc]
 by_cases k8:k=8
 · subst k8
   simp only [Option.bind_some,Pa,e0s,uc,tb,Bool.and_assoc]
   cases nl<;>simp [e0s,uc,tb,Bool.and_assoc]
 have c:∀ q:Int,k≠q→(k==q)=false:=fun q h=>by simpa using h
 simp [c 1 k1,c 2 k2,c 3 k3,c 4 k4,c 5 k5,c 6 k6,c 7 k7,c 8 k8,c 9 k9,k1,k2,k3,k4,k5,k6,k7,k8,k9,e0s,uc,tb,Bool.and_assoc]
theorem Q9 (n:Nat) (k:Int) (w a b:BA) (nl:Bool) (z:Int) (hw:w.size≤1000000) (ha:a.size≤100000) (hb:b.size≤100000) (hn:10000000≤n):
  NF n (k,(w,(nl,((a,(b,())),(z,())))))=some (vL k (bs w) nl (bs a) (bs b) z):=by
 have hd:=qL n w hw hn
 have hm:ne n (a,(b,()))=some (Xp (bs a)&&lk (bs b)):=H8 n a b (by omega) (by omega) hn
 have hwd:=Feb n w hw hn
 have g1:decide (z≥ -1)=decide (-1≤z):=rfl
 unfold NF HI vL
 simp only [ja,aa]
 by_cases k1:k=1
 · subst k1
   simp only [hd,Option.bind_some,Pa,e0s,Za,Bool.and_assoc]
   cases nl
   · by_cases ea:bs a=[]<;>by_cases eb:bs b=[]<;>by_cases ez:z=0<;>simp [ea,eb,ez,e0s,Za,Bool.and_assoc]
   · simp [e0s,Za,Bool.and_assoc]
 by_cases k2:k=2
 · subst k2
   simp only [hd,Option.bind_some,Pa,e0s,Za,Bool.and_assoc]
   cases nl
   · by_cases ea:bs a=[]<;>by_cases eb:bs b=[]<;>by_cases ez:z=0<;>simp [ea,eb,ez,e0s,Za,Bool.and_assoc]
   · simp [e0s,Za,Bool.and_assoc]
 by_cases k3:k=3
 · subst k3
   simp only [hm,Option.bind_some,Pa,e0s,Za,g1]
   by_cases ew:bs w=[]
   · cases nl
     · by_cases q:(Xp (bs a)&&lk (bs b))=true
       · by_cases z1: -1≤z<;>simp [q,z1,ew,e0s,Za,Bool.and_assoc]
       · have q':(Xp (bs a)&&lk (bs b))=false:=by simpa using q
         simp [q',ew,e0s,Za,Bool.and_assoc]
     · by_cases ea:bs a=[]<;>by_cases eb:bs b=[]<;>by_cases z1: -1≤z<;>simp [z1,ea,eb,ew,e0s,Za,Bool.and_assoc]
   · cases nl
     · simp [ew,e0s,Za,Bool.and_assoc]
     · by_cases ea:bs a=[]<;>by_cases eb:bs b=[]<;>simp [ew,ea,eb,e0s,Za,Bool.and_assoc]
 by_cases k4:k=4
 · subst k4
   simp only [hm,Option.bind_some,Pa,e0s,Za,Bool.and_assoc]
   cases nl
   · by_cases ew:bs w=[]<;>by_cases ez:z=0<;>simp [ew,ez,e0s,Za,Bool.and_assoc]
   · simp [e0s,Za,Bool.and_assoc]
 by_cases k7:k=7
 · subst k7
   simp only [hwd,Option.bind_some,Pa,e0s,Za,Bool.and_assoc]
   cases nl
   · by_cases ea:bs a=[]<;>by_cases eb:bs b=[]<;>by_cases ez:z=0<;>by_cases ew:bs w=[]<;>simp [ea,eb,ez,ew,e0s,Za,Bool.and_assoc]
   · simp [e0s,Za,Bool.and_assoc]
 by_cases k9:k=9
 · subst k9
   simp only [hwd,Option.bind_some,Pa,e0s,Za,Bool.and_assoc]
   cases nl
   · by_cases ea:bs a=[]<;>by_cases eb:bs b=[]<;>by_cases ez:z=0<;>simp [ea,eb,ez,e0s,Za,Bool.and_assoc]
   · simp [e0s,Za,Bool.and_assoc]
 by_cases k5:k=5
 · subst k5
   simp only [Option.bind_some,Pa,e0s,Za]
   cases nl
   · by_cases ew:bs w=[]<;>by_cases ea:bs a=[]<;>by_cases eb:bs b=[]<;>by_cases ez:z=0<;>simp [ew,ea,eb,ez,e0s,Za]
   · simp [e0s,Za]
 by_cases k6:k=6
 · subst k6
   simp only [Option.bind_some,Pa,e0s,Za]
   cases nl
   · by_cases ew:bs w=[]<;>by_cases ea:bs a=[]<;>by_cases eb:bs b=[]<;>by_cases ez:z=0<;>simp [ew,ea,eb,ez,e0s,Za]
   · simp [e0s,Za]
 by_cases k8:k=8
 · subst k8
   simp only [Option.bind_some,Pa,e0s,Za]
   cases nl
   · by_cases ew:bs w=[]<;>by_cases ea:bs a=[]<;>by_cases eb:bs b=[]<;>by_cases ez:z=0<;>simp [ew,ea,eb,ez,e0s,Za]
   · simp [e0s,Za]
 have c:∀ q:Int,k≠q→(k==q)=false:=fun q h=>by simpa using h
 simp [c 1 k1,c 2 k2,c 3 k3,c 4 k4,c 5 k5,c 6 k6,c 7 k7,c 8 k8,c 9 k9,k1,k2,k3,k4,k5,k6,k7,k8,k9,e0s,Za,Bool.and_assoc]
open Go Go.RowKit
/-! Numbers as texts. -/
open Go Go.RowKit
noncomputable def rdM (n:Nat) (v2:Int) (t:BA):Option (Except Int Vb):=
 if (v2==(3:Int))=true then
  (vh n t (⟨#[32,70,82,79,77,58]⟩:BA)).bind fun x_2=>onX x_2 (fun p1=>
  some (Except.error p1)) (fun v3=>
  (gm n v3).bind fun x_3=>onX x_3 (fun p2=>
  some (Except.error p2)) (fun v4=>
  (QD n v4.2.2.1).bind fun x_4=>onX x_4 (fun p3=>
  some (Except.error p3)) (fun v5=>
  (uh n (v2,((⟨#[]⟩:BA),(v4.2.1,((v4.1.1,(v4.1.2.1,())),(v5,())))))).bind fun v6=>
  (Ia n v6 (8:Int)).bind fun x_5=>onX x_5 (fun p4=>
  some (Except.error p4)) (fun v7=>
  some (Except.ok (v2,((⟨#[]⟩:BA),(v4.2.1,((v4.1.1,(v4.1.2.1,())),(v5,()))))))))))
 else
  if (v2==(4:Int))=true then
  (vh n t (⟨#[32,84,79,58]⟩:BA)).bind fun x_6=>onX x_6 (fun p5=>
   some (Except.error p5)) (fun v8=>
  (gm n v8).bind fun x_7=>onX x_7 (fun p6=>
   some (Except.error p6)) (fun v9=>
  (Ia n (v9.2.2.1.toList==(⟨#[]⟩:BA).toList) (8:Int)).bind fun x_8=>onX x_8 (fun p7=>
   some (Except.error p7)) (fun v10=>
  (uh n (v2,((⟨#[]⟩:BA),(v9.2.1,((v9.1.1,(v9.1.2.1,())),((0:Int),())))))).bind fun v11=>
  (Ia n v11 (8:Int)).bind fun x_9=>onX x_9 (fun p8=>
   some (Except.error p8)) (fun v12=>
  some (Except.ok (v2,((⟨#[]⟩:BA),(v9.2.1,((v9.1.1,(v9.1.2.1,())),((0:Int),()))))))))))
  else
  if (v2==(1:Int))=true then
   (Fa n t (⟨#[32]⟩:BA)).bind fun v13=>
   (Ic n v13).bind fun v14=>
   (Ia n (v14.2.1==(0:Int)) (8:Int)).bind fun x_10=>onX x_10 (fun p9=>
   some (Except.error p9)) (fun v15=>
   (uh n (v2,(v14.1,(false,(((⟨#[]⟩:BA),((⟨#[]⟩:BA),())),((0:Int),())))))).bind fun v16=>
   (Ia n v16 (8:Int)).bind fun x_11=>onX x_11 (fun p10=>
   some (Except.error p10)) (fun v17=>
   some (Except.ok (v2,(v14.1,(false,(((⟨#[]⟩:BA),((⟨#[]⟩:BA),())),((0:Int),()))))))))
  else
   if (v2==(2:Int))=true then
   (Fa n t (⟨#[32]⟩:BA)).bind fun v18=>
   (Ic n v18).bind fun v19=>
   (Ia n (v19.2.1==(0:Int)) (8:Int)).bind fun x_12=>onX x_12 (fun p11=>
    some (Except.error p11)) (fun v20=>
   (uh n (v2,(v19.1,(false,(((⟨#[]⟩:BA),((⟨#[]⟩:BA),())),((0:Int),())))))).bind fun v21=>
   (Ia n v21 (8:Int)).bind fun x_13=>onX x_13 (fun p12=>
    some (Except.error p12)) (fun v22=>
   some (Except.ok (v2,(v19.1,(false,(((⟨#[]⟩:BA),((⟨#[]⟩:BA),())),((0:Int),()))))))))
   else
   (Ia n (!(t.toList==(⟨#[32]⟩:BA).toList)) (8:Int)).bind fun x_14=>onX x_14 (fun p13=>
    some (Except.error p13)) (fun v23=>
   (Fa n t (⟨#[32]⟩:BA)).bind fun v24=>
   (uh n (v2,(v24,(false,(((⟨#[]⟩:BA),((⟨#[]⟩:BA),())),((0:Int),())))))).bind fun v25=>
   (Ia n v25 (8:Int)).bind fun x_15=>onX x_15 (fun p14=>
    some (Except.error p14)) (fun v26=>
   some (Except.ok (v2,(v24,(false,(((⟨#[]⟩:BA),((⟨#[]⟩:BA),())),((0:Int),()))))))))
abbrev Cnd:=List Int×(Bool×(List Int×(List Int×Int)))
def dX (t:List Int):Option Cnd:=match VT (t.take (pe 0 t)),gS (t.drop (pe 0 t)) with
 | some v,some z=>some ([],(v.1,(v.2.1,(v.2.2,z))))
 | _,_=>none
def GN (k:Int) (r:List Int):Option Cnd:=
 if k=3 then (if (r.take 6).map up=[32,70,82,79,77,58] then dX (Kd (r.drop 6)) else none)
 else if k=4 then (if (r.take 4).map up=[32,84,79,58] then (VT (Kd (r.drop 4))).map fun v=>([],(v.1,(v.2.1,(v.2.2,0)))) else none)
 else if k=1 then some ((Kd r).map low,(false,([],([],0))))
 else if k=2 then some ((Kd r).map low,(false,([],([],0))))
 else if r=[32] then none else some (Kd r,(false,([],([],0))))
def okC (k:Int) (c:Option Cnd):Option Cnd:=c.bind fun x=>if vL k x.1 x.2.1 x.2.2.1 x.2.2.2.1 x.2.2.2.2=true then some x else none
def jlb (k:Int) (e:Option (Except Int Vb)) (c:Option Cnd):Prop:=match c with
 | none=>e=some (.error 8)
 | some x=>∃ w a b:BA,e=some (.ok (k,(w,(x.2.1,((a,(b,())),(x.2.2.2.2,()))))))∧bs w=x.1∧bs a=x.2.2.1∧bs b=x.2.2.2.1
theorem Q3 (l:List Int):(Kd l).length≤l.length:=by
 unfold Kd;split
 · simp
 · exact Nat.le_refl _
theorem lX {t:List Int} {v:Bool×List Int×List Int} (h:VT t=some v):v.2.1.length≤2*t.length+2∧v.2.2.length≤t.length:=by
 unfold VT at h
 split at h
 · cases h;simp
 · split at h
   · obtain ⟨y,hy,rfl⟩:=Option.map_eq_some_iff.1 h
     unfold ceb at hy
     obtain ⟨x,h1,h2⟩:=Option.bind_eq_some_iff.1 hy
     have hi:(Ep t).length≤t.length:=by unfold Ep;rw [List.length_drop,List.length_take];omega
     obtain ⟨l1,l2⟩:=Ldb h1
     split at h2
     · cases h2
       simp only [List.length_map,List.length_drop]
       omega
     · cases h2
   · cases h
theorem qab (n:Nat) (u:BA) (hs:u.size≤20000) (hn:10000000≤n):∃ i,Zkb (Kd (bs u)) i∧
  ((0≤i∧∃ v p1 p2 r,VT ((Kd (bs u)).take (i.toNat+1))=some v∧gm n u=some (.ok ((p1,(p2,())),(v.1,(r,()))))∧bs p1=v.2.1∧bs p2=v.2.2∧bs r=(Kd (bs u)).drop (i.toNat+1))∨
   (¬(0≤i∧∃ v,VT ((Kd (bs u)).take (i.toNat+1))=some v)∧gm n u=some (.error 8))):=by
 have ht:=uY u
 have hz:(if (bs u).head?=some 32 then u.extract 1 u.size else u).size≤20000:=by
  split
  · have:=nh u 1 u.size;omega
  · exact hs
 have htr:=Teb n u
 generalize (if (bs u).head?=some 32 then u.extract 1 u.size else u)=t at ht hz htr
 rw [←ht]
 obtain ⟨i,h1,h2⟩:=Jib n t (by omega) hn
 refine ⟨i,h2,?_⟩
 unfold gm tP
 rw [htr,Option.bind_some,h1,Option.bind_some,zd,Option.bind_some]
 rcases h2 with ⟨rfl,_⟩ | ⟨k,rfl,h3,_,_⟩
 · exact .inr ⟨fun hh=>by omega,rfl⟩
 · have hk:(k:Int)≥0:=by omega
   rw [ra] at h3
   have e1:=wr1 (k:=k) (by omega)
   have e2:0≤((k+1:Nat):Int)∧((k+1:Nat):Int)≤(t.size:Int):=⟨by omega,by omega⟩
   have hx:bs (t.extract (Int.toNat 0) (Int.toNat ((k+1:Nat):Int)))=(bs t).take ((k:Int).toNat+1):=pK t (k+1)
   have hP:=Y4 n (t.extract (Int.toNat 0) (Int.toNat ((k+1:Nat):Int))) (by have:=nh t (Int.toNat 0) (Int.toNat ((k+1:Nat):Int));omega) hn
   rw [hx] at hP
   rw [decide_eq_true hk,if_pos rfl]
   simp only [onX,e1,if_pos e2]
   cases hv:VT ((bs t).take ((k:Int).toNat+1)) with
   | none=>
    rw [hv] at hP
    refine .inr ⟨fun ⟨_,v,hv'⟩=>(by cases hv'),?_⟩
    rw [hP.2,Option.bind_some,zd]
    rfl
   | some v=>
    rw [hv] at hP
    obtain ⟨p1,p2,_,q1,q2,q3⟩:=hP
    refine .inl ⟨hk,v,p1,p2,t.extract (k+1) t.size,rfl,?_,q2,q3,Qh t (k+1)⟩
    rw [q1,Option.bind_some,zd]
    rfl
theorem NM {k:Int} {w:List Int} {nl:Bool} {a b:List Int} {z:Int} (h:vL k w nl a b z=false):okC k (some (w,(nl,(a,(b,z)))))=none:=by
 simp [okC,h]
theorem Xdb {k:Int} {w:List Int} {nl:Bool} {a b:List Int} {z:Int} (h:vL k w nl a b z=true):okC k (some (w,(nl,(a,(b,z)))))=some (w,(nl,(a,(b,z)))):=by
 simp [okC,h]
theorem vkb (n:Nat) (k:Int) (t:BA) (hs:t.size≤20000) (hn:10000000≤n):jlb k (rdM n k t) (okC k (GN k (bs t))):=by
 have fin:∀ (w a b:BA) (nl:Bool) (z:Int),w.size≤1000000→a.size≤100000→b.size≤100000→jlb k ((uh n (k,(w,(nl,((a,(b,())),(z,())))))).bind fun v6=>(Ia n v6 (8:Int)).bind fun x=>onX x (fun p=>some (Except.error p)) (fun _=>some (Except.ok (k,(w,(nl,((a,(b,())),(z,())))))))) (okC k (some (bs w,(nl,(bs a,(bs b,z)))))):=fun w a b nl z h1 h2 h3=>by
  rw [Web n k w a b nl z h1 h2 h3 hn,Option.bind_some,zd,Option.bind_some]
  cases hv:vL k (bs w) nl (bs a) (bs b) z with
  | true=>rw [Xdb hv];exact ⟨w,a,b,rfl,rfl,rfl,rfl⟩
  | false=>rw [NM hv];rfl
 have z0:(⟨#[]⟩:BA).size=0:=rfl
 unfold rdM GN
 by_cases k3:k=3
 · subst k3
   have e6:bs (⟨#[32,70,82,79,77,58]⟩:BA)=[32,70,82,79,77,58]:=rfl
   have z6:(⟨#[32,70,82,79,77,58]⟩:BA).size=6:=rfl
   rw [if_pos (show ((3:Int)==3)=true from rfl),if_pos (rfl:(3:Int)=3),tW n t _ (by omega) hn,e6,z6,Option.bind_some]
   by_cases h1:((bs t).take 6).map up=[32,70,82,79,77,58]
   · rw [if_pos h1,if_pos h1]
     simp only [onX]
     have hu:bs (t.extract 6 t.size)=(bs t).drop 6:=Qh t 6
     have huz:(t.extract 6 t.size).size≤20000:=by have:=nh t 6 t.size;omega
     generalize t.extract 6 t.size=u at hu huz
     rw [←hu]
     have hlen:(Kd (bs u)).length≤20000:=by have:=Q3 (bs u);rw [ra] at this;omega
     obtain ⟨i,hi,⟨h0,v,p1,p2,r,g1,g2,g3,g4,g5⟩ | ⟨hno,g2⟩⟩:=qab n u huz hn
     · obtain ⟨l1,l2⟩:=lX g1
       rw [List.length_take] at l1 l2
       have hrz:r.size≤1000000:=by rw [←ra,g5,List.length_drop];omega
       rw [g2,Option.bind_some]
       simp only
       rw [jhb n r hrz hn,Option.bind_some,g5]
       cases hz:gS ((Kd (bs u)).drop (i.toNat+1)) with
       | none=>
        have:dX (Kd (bs u))=none:=by
         unfold dX
         cases q1:VT ((Kd (bs u)).take (pe 0 (Kd (bs u)))) with
         | none=>rfl
         | some v'=>
          cases q2:gS ((Kd (bs u)).drop (pe 0 (Kd (bs u)))) with
          | none=>rfl
          | some z'=>
           have:=(vQ hi (v:=v') (z:=z')).2 ⟨q1,q2⟩
           rw [hz] at this
           exact absurd this.2.2 (by simp)
        rw [this]
        rfl
       | some z=>
        obtain ⟨q1,q2⟩:=(vQ hi (v:=v) (z:=z)).1 ⟨h0,g1,hz⟩
        have:dX (Kd (bs u))=some ([],(v.1,(v.2.1,(v.2.2,z)))):=by unfold dX;rw [q1,q2]
        rw [this]
        have f:=fin (⟨#[]⟩:BA) p1 p2 v.1 z (by omega) (by rw [←ra,g3];omega) (by rw [←ra,g4];omega)
        rw [g3,g4,e0s] at f
        exact f
     · rw [g2,Option.bind_some]
       have:dX (Kd (bs u))=none:=by
        unfold dX
        cases q1:VT ((Kd (bs u)).take (pe 0 (Kd (bs u)))) with
        | none=>rfl
        | some v'=>
         cases q2:gS ((Kd (bs u)).drop (pe 0 (Kd (bs u)))) with
         | none=>rfl
         | some z'=>
          have:=(vQ hi (v:=v') (z:=z')).2 ⟨q1,q2⟩
          exact absurd ⟨this.1,v',this.2.1⟩ hno
       rw [this]
       rfl
   · rw [if_neg h1,if_neg h1]
     rfl
 have c3:(k==3)=false:=by simpa using k3
 rw [if_neg (by rw [c3];simp),if_neg k3]
 by_cases k4:k=4
 · subst k4
   have e4:bs (⟨#[32,84,79,58]⟩:BA)=[32,84,79,58]:=rfl
   have z4:(⟨#[32,84,79,58]⟩:BA).size=4:=rfl
   rw [if_pos (show ((4:Int)==4)=true from rfl),if_pos (rfl:(4:Int)=4),tW n t _ (by omega) hn,e4,z4,Option.bind_some]
   by_cases h1:((bs t).take 4).map up=[32,84,79,58]
   · rw [if_pos h1,if_pos h1]
     simp only [onX]
     have hu:bs (t.extract 4 t.size)=(bs t).drop 4:=Qh t 4
     have huz:(t.extract 4 t.size).size≤20000:=by have:=nh t 4 t.size;omega
     generalize t.extract 4 t.size=u at hu huz
     rw [←hu]
     have hlen:(Kd (bs u)).length≤20000:=by have:=Q3 (bs u);rw [ra] at this;omega
     have whole:∀ v i,Zkb (Kd (bs u)) i→VT (Kd (bs u))=some v→0≤i∧(Kd (bs u)).drop (i.toNat+1)=[]∧(Kd (bs u)).take (i.toNat+1)=Kd (bs u):=fun v i hi hv=>by
      obtain ⟨_,hl,hne⟩:=L6 hv []
      generalize Kd (bs u)=l at hi hl hne
      have hpos:0<l.length:=List.length_pos_iff.2 hne
      rw [List.getLast?_eq_getElem?] at hl
      rcases hi with ⟨_,h⟩ | ⟨q,rfl,hq1,hq2,hq3⟩
      · exact absurd (List.mem_of_getElem? hl) h
      · have:q=l.length - 1:=by
         rcases Nat.lt_or_ge q (l.length - 1) with g | g
         · exfalso
           apply hq3
           have:(l.drop (q+1))[l.length - 1 - (q+1)]?=some 62:=by
            rw [List.getElem?_drop,show q+1+(l.length - 1 - (q+1))=l.length - 1 by omega];exact hl
           exact List.mem_of_getElem? this
         · omega
        refine ⟨by omega,List.drop_eq_nil_of_le (by omega),List.take_of_length_le (by omega)⟩
     obtain ⟨i,hi,⟨h0,v,p1,p2,r,g1,g2,g3,g4,g5⟩ | ⟨hno,g2⟩⟩:=qab n u huz hn
     · obtain ⟨l1,l2⟩:=lX g1
       rw [List.length_take] at l1 l2
       rw [g2,Option.bind_some]
       simp only
       rw [zd,Pa,g5,e0s,Option.bind_some]
       by_cases hd:(Kd (bs u)).drop (i.toNat+1)=[]
       · have htk:(Kd (bs u)).take (i.toNat+1)=Kd (bs u):=by
          have:=List.take_append_drop (i.toNat+1) (Kd (bs u))
          rw [hd,List.append_nil] at this;exact this
         rw [htk] at g1
         rw [g1,decide_eq_true hd,if_pos rfl]
         have f:=fin (⟨#[]⟩:BA) p1 p2 v.1 0 (by omega) (by rw [←ra,g3];omega) (by rw [←ra,g4];omega)
         rw [g3,g4,e0s] at f
         exact f
       · cases hv:VT (Kd (bs u)) with
         | none=>rw [decide_eq_false hd];rfl
         | some v'=>exact absurd (whole v' i hi hv).2.1 hd
     · rw [g2,Option.bind_some]
       cases hv:VT (Kd (bs u)) with
       | none=>rfl
       | some v'=>
        obtain ⟨w1,w2,w3⟩:=whole v' i hi hv
        exact absurd ⟨w1,v',by rw [w3];exact hv⟩ hno
   · rw [if_neg h1,if_neg h1]
     rfl
 have c4:(k==4)=false:=by simpa using k4
 rw [if_neg (by rw [c4];simp),if_neg k4]
 have ht:=uY t
 have hz:(if (bs t).head?=some 32 then t.extract 1 t.size else t).size≤20000:=by
  split
  · have:=nh t 1 t.size;omega
  · exact hs
 have htr:=Teb n t
 generalize (if (bs t).head?=some 32 then t.extract 1 t.size else t)=u at ht hz htr
 have dom:(k=1∨k=2)→jlb k ((Ic n u).bind fun v14=>(Ia n (v14.2.1==(0:Int)) (8:Int)).bind fun x_10=>onX x_10 (fun p9=>some (Except.error p9)) (fun v15=>
   (uh n (k,(v14.1,(false,(((⟨#[]⟩:BA),((⟨#[]⟩:BA),())),((0:Int),())))))).bind fun v16=>(Ia n v16 (8:Int)).bind fun x_11=>onX x_11 (fun p10=>some (Except.error p10)) (fun v17=>
   some (Except.ok (k,(v14.1,(false,(((⟨#[]⟩:BA),((⟨#[]⟩:BA),())),((0:Int),()))))))))) (okC k (some ((Kd (bs t)).map low,(false,([],([],0)))))):=fun hk=>by
  obtain ⟨q,q1,q2⟩:=Dcb n u (by omega) hn
  rw [←ht]
  have hqz:q.size≤20000:=by rw [←ra,q1,List.length_map,ra];exact hz
  rw [q2,Option.bind_some,zd]
  by_cases hd:lk ((bs u).map low)=true
  · rw [if_pos hd]
    have f:=fin q (⟨#[]⟩:BA) (⟨#[]⟩:BA) false 0 (by omega) (by omega) (by omega)
    rw [q1,e0s] at f
    exact f
  · rw [if_neg hd]
    have hd':lk ((bs u).map low)=false:=by simpa using hd
    have:vL k ((bs u).map low) false [] [] 0=false:=by
     rcases hk with rfl | rfl<;>simp [vL,hd']
    rw [NM this]
    rfl
 by_cases k1:k=1
 · subst k1
   rw [if_pos (show ((1:Int)==1)=true from rfl),if_pos (rfl:(1:Int)=1),htr,Option.bind_some]
   exact dom (.inl rfl)
 have c1:(k==1)=false:=by simpa using k1
 rw [if_neg (by rw [c1];simp),if_neg k1]
 by_cases k2:k=2
 · subst k2
   rw [if_pos (show ((2:Int)==2)=true from rfl),if_pos (rfl:(2:Int)=2),htr,Option.bind_some]
   exact dom (.inr rfl)
 have c2:(k==2)=false:=by simpa using k2
 rw [if_neg (by rw [c2];simp),if_neg k2,zd,Pa]
 have e32:bs (⟨#[32]⟩:BA)=[32]:=rfl
 rw [e32]
 by_cases hsp:bs t=[32]
 · rw [if_pos hsp,decide_eq_true hsp]
   rfl
 · rw [if_neg hsp,decide_eq_false hsp]
   simp only [Bool.not_false,if_true,Option.bind_some,onX,htr]
   have f:=fin u (⟨#[]⟩:BA) (⟨#[]⟩:BA) false 0 (by omega) (by omega) (by omega)
   rw [ht,e0s] at f
   exact f
open Go Go.RowKit
theorem mfb (n:Nat) (e:Int):Ia n false e=some (.error e):=by rw [zd];rfl
theorem Hjb (n:Nat) (e:Int):Ia n true e=some (.ok ()):=by rw [zd];rfl
def Vkb:Vb:=((0:Int),((⟨#[]⟩:BA),(false,(((⟨#[]⟩:BA),((⟨#[]⟩:BA),())),((0:Int),())))))
def PV (l:List Int):Except Int (Int×Cnd):=
 if vkd (l.take 4)=0∨(4<l.length∧l[4]?≠some 32) then .error 3
 else match okC (vkd (l.take 4)) (GN (vkd (l.take 4)) (l.drop 4)) with
  | none=>.error 8
  | some x=>.ok (vkd (l.take 4),x)
def Res (e:Option (Vb×Int×Unit)) (p:Except Int (Int×Cnd)):Prop:=match p with
 | .error c=>e=some (Vkb,(c,()))
 | .ok y=>∃ w a b:BA,e=some ((y.1,(w,(y.2.2.1,((a,(b,())),(y.2.2.2.2.2,()))))),(0,()))∧bs w=y.2.1∧bs a=y.2.2.2.1∧bs b=y.2.2.2.2.1
theorem j8 (l:List Int):vkd l=0∨1≤vkd l∧vkd l≤9∧l.length=4:=by
 have hl:∀ w:List Int,w.length=4→l.map up=w→l.length=4:=fun w h1 h2=>by rw [←h1,←h2,List.length_map]
 unfold vkd
 repeat' split
 all_goals first
  | exact .inl rfl
  | (rename_i h;exact .inr ⟨by omega,by omega,hl _ rfl h⟩)
def Zhb (e:Option (Except Int Vb)) (p:Except Int (Int×Cnd)):Prop:=match p with
 | .error c=>e=some (.error c)
 | .ok y=>∃ w a b:BA,e=some (.ok (y.1,(w,(y.2.2.1,((a,(b,())),(y.2.2.2.2.2,()))))))∧bs w=y.2.1∧bs a=y.2.2.2.1∧bs b=y.2.2.2.2.1
theorem hhb (n:Nat) (s:BA) (hs:s.size≤20000) (hn:10000000≤n):Zhb (RV n s) (PV (bs s)):=by
 have hkd:=Hib n (s.extract (Int.toNat (0:Int)) (Int.toNat (4:Int))) (by have:=nh s (Int.toNat (0:Int)) (Int.toNat (4:Int));omega) hn
 have hx:bs (s.extract (Int.toNat (0:Int)) (Int.toNat (4:Int)))=(bs s).take 4:=pK s 4
 rw [hx] at hkd
 have main:vkd ((bs s).take 4)≠0→Zhb (rdM n (vkd ((bs s).take 4)) (s.extract (Int.toNat (4:Int)) (Int.toNat (s.size:Int)))) (match okC (vkd ((bs s).take 4)) (GN (vkd ((bs s).take 4)) ((bs s).drop 4)) with
  | none=>.error 8
  | some x=>.ok (vkd ((bs s).take 4),x)):=fun _=>by
  have h:=vkb n (vkd ((bs s).take 4)) (s.extract (Int.toNat (4:Int)) (Int.toNat (s.size:Int))) (by have:=nh s (Int.toNat (4:Int)) (Int.toNat (s.size:Int));omega) hn
  have hx:bs (s.extract (Int.toNat (4:Int)) (Int.toNat (s.size:Int)))=(bs s).drop 4:=Qh s 4
  rw [hx] at h
  cases hc:okC (vkd ((bs s).take 4)) (GN (vkd ((bs s).take 4)) ((bs s).drop 4)) with
  | none=>rw [hc] at h;exact h
  | some x=>rw [hc] at h;exact h
 generalize hk:vkd ((bs s).take 4)=q at hkd main
 unfold PV
 rw [hk]
 unfold RV uP
 by_cases h4:4≤s.size
 · have c1:decide ((s.size:Int)≥(4:Int))=true:=decide_eq_true (by omega)
   have c2:0≤(4:Int)∧(4:Int)≤(s.size:Int):=⟨by omega,by omega⟩
   rw [if_pos c1,if_pos c2,hkd,Option.bind_some]
   rcases j8 ((bs s).take 4) with h0 | ⟨h1,h2,_⟩
   · rw [hk] at h0
     subst h0
     rw [if_neg (by simp),mfb,Option.bind_some,if_pos (Or.inl rfl)]
     rfl
   · rw [hk] at h1 h2
     have hq:decide (q>(0:Int))=true:=decide_eq_true (by omega)
     rw [if_pos hq]
     by_cases h5:s.size=4
     · have c5:¬((s.size:Int)==(4:Int))=false:=by rw [h5];decide
       have np:¬(q=0∨(4<(bs s).length∧(bs s)[4]?≠some 32)):=by rw [ra];omega
       rw [if_neg np,if_neg c5,Hjb,Option.bind_some]
       simp only [onX]
       rw [if_pos c2,Option.bind_some,if_pos c2]
       exact main (by omega)
     · have c5:((s.size:Int)==(4:Int))=false:=by simp only [beq_eq_false_iff_ne];omega
       have c6:0≤(4:Int)∧(4:Int)<(s.size:Int):=⟨by omega,by omega⟩
       have hlt:4<(bs s).length:=by rw [ra];omega
       obtain ⟨c,hc⟩:∃ c,(bs s)[4]?=some c:=⟨(bs s)[4],by simp [hlt]⟩
       have hb:bt s (4:Int)=c:=oT (k:=4) hc
       rw [if_pos c5,if_pos c6,zd,hb,Option.bind_some,hc]
       by_cases h32:c=32
       · subst h32
         have np:¬(q=0∨(4<(bs s).length∧(some 32:Option Int)≠some 32)):=fun hh=>hh.elim (fun h=>by omega) (fun h=>h.2 rfl)
         rw [if_neg np,if_pos (show ((32:Int)==32)=true from rfl)]
         simp only [onX]
         rw [if_pos c2,Option.bind_some,if_pos c2]
         exact main (by omega)
       · have e:¬(c==(32:Int))=true:=by simpa using h32
         have np:q=0∨(4<(bs s).length∧some c≠some 32):=.inr ⟨hlt,by simpa using h32⟩
         rw [if_neg e,if_pos np]
         rfl
 · have c1:¬decide ((s.size:Int)≥(4:Int))=true:=by simp;omega
   have h0:q=0:=by
    rcases j8 ((bs s).take 4) with h0 | ⟨_,_,h2⟩
    · rw [hk] at h0;exact h0
    · rw [List.length_take,ra] at h2;omega
   rw [if_neg c1,mfb,Option.bind_some,if_pos (Or.inl h0)]
   rfl
theorem R3 (n:Nat) (s:BA) (hs:s.size≤20000) (hn:10000000≤n):Res (lA n s) (PV (bs s)):=by
 have h:=hhb n s hs hn
 unfold lA mA
 cases hp:PV (bs s) with
 | error c=>rw [hp] at h;simp only [Zhb] at h;rw [h];rfl
 | ok y=>
  rw [hp] at h
  obtain ⟨w,a,b,h1,h2,h3,h4⟩:=h
  rw [h1]
  exact ⟨w,a,b,rfl,h2,h3,h4⟩
open Go Go.RowKit
abbrev zs:BA:=(⟨#[]⟩:BA)
theorem sv (n m:Nat) (s:BA) (hs:s.size≤1000000) (hn:10000000≤n) (kd k:Int) (hk:k≤9) (w:BA) (l:List Int) (hl:bs w=l) (hw:JR n k=some w) (h4:w.size=4) (hc:Tjb l=true) (k':Int) (hk':IntKind.wrap .i64 (k+1)=k'):
  La n (m+1) s kd k 0 zs false zs zs 0=La n m s (if ((bs s).take 4).map up=l then k else kd) k' 0 zs false zs zs 0:=by
 subst hl
 have hb:=SP n s w hs (by omega) hn hc
 rw [h4] at hb
 simp only [La,oe,qg,Qg,hk,hw,hb,Option.bind_some,decide_true,if_true,decide_eq_true_eq]
 by_cases h:((bs s).take 4).map up=bs w
 · simp only [h,if_true,Option.bind_some,onL,hk']
 · simp only [h,if_false,Option.bind_some,onL,hk']
theorem Kib (u:List Int):(if u.map up=[86,82,70,89] then (9:Int) else if u.map up=[81,85,73,84] then 8 else if u.map up=[78,79,79,80] then 7 else if u.map up=[82,83,69,84] then 6 else if u.map up=[68,65,84,65] then 5 else
  if u.map up=[82,67,80,84] then 4 else if u.map up=[77,65,73,76] then 3 else if u.map up=[69,72,76,79] then 2 else if u.map up=[72,69,76,79] then 1 else 0)=vkd u:=by
 unfold vkd
 generalize u.map up=x
 by_cases h1:x=[72,69,76,79]
 · subst h1;rfl
 by_cases h2:x=[69,72,76,79]
 · subst h2;rfl
 by_cases h3:x=[77,65,73,76]
 · subst h3;rfl
 by_cases h4:x=[82,67,80,84]
 · subst h4;rfl
 by_cases h5:x=[68,65,84,65]
 · subst h5;rfl
 by_cases h6:x=[82,83,69,84]
 · subst h6;rfl
 by_cases h7:x=[78,79,79,80]
 · subst h7;rfl
 by_cases h8:x=[81,85,73,84]
 · subst h8;rfl
 simp only [h1,h2,h3,h4,h5,h6,h7,h8,if_false]
theorem Dlb (n:Nat) (s:BA) (hs:s.size≤1000000) (hn:10000000≤n):La n n s 0 1 0 zs false zs zs 0=some (.out (s,vkd ((bs s).take 4),0,zs,false,zs,zs,0)):=by
 obtain ⟨m,hm⟩:∃ m,n=m+10:=⟨n - 10,by omega⟩
 have e:La n n s 0 1 0 zs false zs zs 0=La n (m+10) s 0 1 0 zs false zs zs 0:=by rw [←hm]
 rw [e,sv n _ s hs hn _ 1 (by omega) (⟨#[72,69,76,79]⟩:BA) [72,69,76,79] rfl rfl rfl rfl 2 rfl,sv n _ s hs hn _ 2 (by omega) (⟨#[69,72,76,79]⟩:BA) [69,72,76,79] rfl rfl rfl rfl 3 rfl,
  sv n _ s hs hn _ 3 (by omega) (⟨#[77,65,73,76]⟩:BA) [77,65,73,76] rfl rfl rfl rfl 4 rfl,sv n _ s hs hn _ 4 (by omega) (⟨#[82,67,80,84]⟩:BA) [82,67,80,84] rfl rfl rfl rfl 5 rfl,
  sv n _ s hs hn _ 5 (by omega) (⟨#[68,65,84,65]⟩:BA) [68,65,84,65] rfl rfl rfl rfl 6 rfl,sv n _ s hs hn _ 6 (by omega) (⟨#[82,83,69,84]⟩:BA) [82,83,69,84] rfl rfl rfl rfl 7 rfl,
  sv n _ s hs hn _ 7 (by omega) (⟨#[78,79,79,80]⟩:BA) [78,79,79,80] rfl rfl rfl rfl 8 rfl,sv n _ s hs hn _ 8 (by omega) (⟨#[81,85,73,84]⟩:BA) [81,85,73,84] rfl rfl rfl rfl 9 rfl,
  sv n _ s hs hn _ 9 (by omega) (⟨#[86,82,70,89]⟩:BA) [86,82,70,89] rfl rfl rfl rfl 10 rfl,Kib]
 simp [La,oe]
theorem Blb (n:Nat) (s:BA) (k:Int):qe n s k 0 zs false zs zs 0=some (if k=0∨(4<(bs s).length∧(bs s)[4]?≠some 32) then .ret (3,0,zs,false,zs,zs,0) else .out (s,k,0,zs,false,zs,zs,0)):=by
 unfold qe Rg
 rw [ra]
 by_cases h0:k=0
 · subst h0
   rw [if_pos (Or.inl rfl)]
   rfl
 · have e0:(k==(0:Int))=false:=by simpa using h0
   rw [if_pos e0]
   by_cases h5:4<s.size
   · have c1:decide ((s.size:Int)>(4:Int))=true:=decide_eq_true (by omega)
     have c2:0≤(4:Int)∧(4:Int)<(s.size:Int):=⟨by omega,by omega⟩
     have hlt:4<(bs s).length:=by rw [ra];omega
     obtain ⟨c,hc⟩:∃ c,(bs s)[4]?=some c:=⟨(bs s)[4],by simp [hlt]⟩
     have hb:bt s (4:Int)=c:=oT (k:=4) hc
     rw [if_pos c1,if_pos c2,hb,hc]
     by_cases h32:c=32
     · subst h32
       have np:¬(k=0∨(4<s.size∧(some 32:Option Int)≠some 32)):=fun hh=>hh.elim h0 (fun h=>h.2 rfl)
       rw [if_neg np]
       rfl
     · have e:(c !=(32:Int))=true:=by simpa using h32
       have np:k=0∨(4<s.size∧some c≠some 32):=.inr ⟨h5,by simpa using h32⟩
       rw [if_pos e,if_pos np]
   · have c1:¬decide ((s.size:Int)>(4:Int))=true:=by simp;omega
     have np:¬(k=0∨(4<s.size∧(bs s)[4]?≠some 32)):=fun hh=>hh.elim h0 (fun h=>h5 h.1)
     rw [if_neg c1,if_neg np]
theorem Clb (n:Nat) (ok:Bool) (k:Int) (w:BA) (nl:Bool) (a b:BA) (z:Int) (hw:w.size≤1000000) (ha:a.size≤100000) (hb:b.size≤100000) (hn:10000000≤n):
  rd n ok 0 zs false zs zs 0 k w nl a b z=some (if (ok&&vL k (bs w) nl (bs a) (bs b) z)=true then .out (0,zs,false,zs,zs,0,k,w,nl,a,b,z) else .ret (8,0,zs,false,zs,zs,0)):=by
 unfold rd Vg
 rw [Q9 n k w a b nl z hw ha hb hn]
 cases ok
 · rfl
 · cases vL k (bs w) nl (bs a) (bs b) z<;>rfl
theorem okb (n:Nat) (k:Int) (r:BA) (v9:Int) (v10:BA) (v11:Bool) (v12 v13:BA) (v14:Int):pd n k r 0 zs false zs zs 0 v9 v10 v11 v12 v13 v14=
  some (.out (k,(if (bs r).head?=some 32 then r.extract 1 r.size else r),0,zs,false,zs,zs,0,v9,v10,v11,v12,v13,v14)):=by
 unfold pd Tg
 rw [Pa,e0s]
 by_cases h0:bs r=[]
 · rw [decide_eq_true h0,if_neg (by simp),h0,if_neg (by simp)]
 · have hz:0<r.size:=by rw [←ra];exact List.length_pos_iff.2 h0
   have c1:0≤(0:Int)∧(0:Int)<(r.size:Int):=⟨by omega,by omega⟩
   have c2:0≤(1:Int)∧(1:Int)≤(r.size:Int):=⟨by omega,by omega⟩
   obtain ⟨d,hd1,hd2⟩:=dy hz
   rw [decide_eq_false h0,if_pos (by simp),if_pos c1,hd2,hd1]
   by_cases h32:d=32
   · subst h32
     rw [if_pos (show ((32:Int)==32)=true from rfl),if_pos c2,if_pos rfl]
     rfl
   · have e:¬(d==(32:Int))=true:=by simpa using h32
     have e':¬some d=some (32:Int):=by simpa using h32
     rw [if_neg e,if_neg e']
noncomputable def B7 (n:Nat) (k:Int) (r:BA):Option (Vb×Int×Unit):=
 (sa n k r 0 zs false zs zs 0 k zs false zs zs 0).bind fun x_5=>onL x_5
  (fun a_6=>
   (rd n a_6.1 a_6.2.1 a_6.2.2.1 a_6.2.2.2.1 a_6.2.2.2.2.1 a_6.2.2.2.2.2.1 a_6.2.2.2.2.2.2.1 a_6.2.2.2.2.2.2.2.1 a_6.2.2.2.2.2.2.2.2.1 a_6.2.2.2.2.2.2.2.2.2.1 a_6.2.2.2.2.2.2.2.2.2.2.1 a_6.2.2.2.2.2.2.2.2.2.2.2.1 a_6.2.2.2.2.2.2.2.2.2.2.2.2).bind fun x_7=>onL x_7
    (fun a_8=>some ((a_8.2.2.2.2.2.2.1,(a_8.2.2.2.2.2.2.2.1,(a_8.2.2.2.2.2.2.2.2.1,((a_8.2.2.2.2.2.2.2.2.2.1,(a_8.2.2.2.2.2.2.2.2.2.2.1,())),(a_8.2.2.2.2.2.2.2.2.2.2.2,()))))),((0:Int),())))
    (fun a_9=>some ((a_9.2.1,(a_9.2.2.1,(a_9.2.2.2.1,((a_9.2.2.2.2.1,(a_9.2.2.2.2.2.1,())),(a_9.2.2.2.2.2.2,()))))),(a_9.1,())))
    (fun _=>none))
  (fun a_10=>some ((a_10.2.1,(a_10.2.2.1,(a_10.2.2.2.1,((a_10.2.2.2.2.1,(a_10.2.2.2.2.2.1,())),(a_10.2.2.2.2.2.2,()))))),(a_10.1,())))
  (fun _=>none)
def L8 (k:Int) (e:Option (Vb×Int×Unit)) (c:Option Cnd):Prop:=match c with
 | none=>e=some (Vkb,(8,()))
 | some x=>∃ w a b:BA,e=some ((k,(w,(x.2.1,((a,(b,())),(x.2.2.2.2,()))))),(0,()))∧bs w=x.1∧bs a=x.2.2.1∧bs b=x.2.2.2.1
theorem Yg (n:Nat) (k:Int) (r:BA) (ok:Bool) (w:BA) (nl:Bool) (a b:BA) (z:Int) (hw:w.size≤1000000) (ha:a.size≤100000) (hb:b.size≤100000) (hn:10000000≤n)
  (h:sa n k r 0 zs false zs zs 0 k zs false zs zs 0=some (.out (ok,0,zs,false,zs,zs,0,k,w,nl,a,b,z))):
  L8 k (B7 n k r) (if ok=true then okC k (some (bs w,(nl,(bs a,(bs b,z))))) else none):=by
 unfold B7
 rw [h,Option.bind_some]
 simp only [onL]
 rw [Clb n ok k w nl a b z hw ha hb hn,Option.bind_some]
 cases ok
 · rfl
 · cases hv:vL k (bs w) nl (bs a) (bs b) z with
   | true=>rw [if_pos rfl,Xdb hv];exact ⟨w,a,b,rfl,rfl,rfl,rfl⟩
   | false=>rw [if_pos rfl,NM hv];rfl
open Go Go.RowKit
theorem nkb (n:Nat) (k:Int) (r lead:BA) (hs:r.size≤1000000) (hw:lead.size≤1000000) (hn:10000000≤n) (hc:Tjb (bs lead)=true) (v9:Int) (v10:BA) (v11:Bool) (v12 v13:BA) (v14:Int):
  od n k r lead 0 zs false zs zs 0 v9 v10 v11 v12 v13 v14=some (if ((bs r).take lead.size).map up=bs lead then .out (k,r,lead,0,zs,false,zs,zs,0,v9,v10,v11,v12,v13,v14) else .ret (8,0,zs,false,zs,zs,0)):=by
 unfold od Sg
 rw [SP n r lead hs hw hn hc,Option.bind_some]
 by_cases h:((bs r).take lead.size).map up=bs lead
 · rw [decide_eq_true h,if_pos h];rfl
 · rw [decide_eq_false h,if_neg h];rfl
theorem R9 (n:Nat) (k:Int) (r:BA) (h:sa n k r 0 zs false zs zs 0 k zs false zs zs 0=some (.ret (8,0,zs,false,zs,zs,0))):L8 k (B7 n k r) none:=by
 unfold B7
 rw [h,Option.bind_some]
 rfl
theorem ygb (n:Nat) (r:BA) (hs:r.size≤20000) (hn:10000000≤n):L8 3 (B7 n 3 r) (okC 3 (GN 3 (bs r))):=by
 have e6:bs (⟨#[32,70,82,79,77,58]⟩:BA)=[32,70,82,79,77,58]:=rfl
 have z6:(⟨#[32,70,82,79,77,58]⟩:BA).size=6:=rfl
 have eS:bs (⟨#[32,83,73,90,69,61]⟩:BA)=[32,83,73,90,69,61]:=rfl
 have zS:(⟨#[32,83,73,90,69,61]⟩:BA).size=6:=rfl
 have hJ3:nd n 3 r (⟨#[32,70,82,79,77,58]⟩:BA) 0 zs false zs zs 0 3 zs false zs zs 0=some (.out (3,r,(⟨#[32,70,82,79,77,58]⟩:BA),0,zs,false,zs,zs,0,3,zs,false,zs,zs,0)):=rfl
 have hJ4:=nkb n 3 r (⟨#[32,70,82,79,77,58]⟩:BA) (by omega) (by omega) hn rfl 3 zs false zs zs 0
 rw [e6,z6] at hJ4
 have n1:¬((3:Int)==1)=true:=by decide
 have n2:¬((3:Int)==2)=true:=by decide
 have n7:¬((3:Int)==7)=true:=by decide
 have n9:¬((3:Int)==9)=true:=by decide
 have n3:((3:Int)==3)=true:=rfl
 unfold GN
 rw [if_pos rfl]
 by_cases h1:((bs r).take 6).map up=[32,70,82,79,77,58]
 · rw [if_pos h1] at hJ4 ⊢
   have h6:6≤r.size:=by
    have:=rl (l:=bs r) (w:=[32,70,82,79,77,58]) (f:=up) h1
    rw [ra] at this;exact this
   have c6:0≤(((⟨#[32,70,82,79,77,58]⟩:BA).size:Nat):Int)∧(((⟨#[32,70,82,79,77,58]⟩:BA).size:Nat):Int)≤(r.size:Int):=⟨by omega,by omega⟩
   have hu:bs (r.extract (Int.toNat (((⟨#[32,70,82,79,77,58]⟩:BA).size:Nat):Int)) (Int.toNat (r.size:Int)))=(bs r).drop 6:=Qh r 6
   have huz:(r.extract (Int.toNat (((⟨#[32,70,82,79,77,58]⟩:BA).size:Nat):Int)) (Int.toNat (r.size:Int))).size≤20000:=by
    have:=nh r (Int.toNat (((⟨#[32,70,82,79,77,58]⟩:BA).size:Nat):Int)) (Int.toNat (r.size:Int));omega
   have key:∃ ok nl p1 p2 z,sa n 3 r 0 zs false zs zs 0 3 zs false zs zs 0=some (.out (ok,0,zs,false,zs,zs,0,3,zs,nl,p1,p2,z))∧p1.size≤100000∧p2.size≤100000∧
     (if ok=true then okC 3 (some ([],(nl,(bs p1,(bs p2,z))))) else none)=okC 3 (dX (Kd ((bs r).drop 6))):=by
    unfold sa Ca
    rw [if_neg n1,if_neg n2,if_neg n7,if_neg n9,if_pos n3,hJ3,Option.bind_some]
    simp only [onL]
    rw [hJ4,Option.bind_some]
    simp only [onL]
    rw [if_pos c6]
    generalize r.extract (Int.toNat (((⟨#[32,70,82,79,77,58]⟩:BA).size:Nat):Int)) (Int.toNat (r.size:Int))=u at hu huz
    rw [okb,Option.bind_some]
    simp only [onL]
    have ht:=uY u
    have hz:(if (bs u).head?=some 32 then u.extract 1 u.size else u).size≤20000:=by
     split
     · have:=nh u 1 u.size;omega
     · exact huz
    generalize (if (bs u).head?=some 32 then u.extract 1 u.size else u)=t at ht hz
    rw [←hu,←ht]
    have hJ6:yc n 3 t (t.size:Int) 0 zs false zs zs 0 3 zs false zs zs 0=some (.out (t,((pe 0 (bs t):Nat):Int),0,zs,false,zs,zs,0,3,zs,false,zs,zs, -1)):=by
     unfold yc Ug
     rw [if_pos n3,pbb n t (by omega) hn]
     rfl
    rw [hJ6,Option.bind_some]
    simp only [onL]
    have hle:pe 0 (bs t)≤t.size:=by have:=P0 (bs t) 0;rwa [ra] at this
    have hle':=hle
    generalize hpe:pe 0 (bs t)=p at hle'
    have c1:0≤((p:Nat):Int)∧((p:Nat):Int)≤(t.size:Int):=⟨by omega,by omega⟩
    have hx:bs (t.extract (Int.toNat (0:Int)) (Int.toNat ((p:Nat):Int)))=(bs t).take p:=pK t p
    have hP:=Y4 n (t.extract (Int.toNat (0:Int)) (Int.toNat ((p:Nat):Int))) (by have:=nh t (Int.toNat (0:Int)) (Int.toNat ((p:Nat):Int));omega) hn
    rw [hx] at hP
    rw [if_pos c1]
    unfold dX
    rw [hpe]
    cases hv:VT ((bs t).take p) with
    | none=>
     rw [hv] at hP
     refine ⟨false,false,zs,zs, -1,?_,by decide,by decide,rfl⟩
     rw [hP.1,Option.bind_some]
     rfl
    | some v=>
     rw [hv] at hP
     obtain ⟨p1,p2,q1,_,q2,q3⟩:=hP
     obtain ⟨l1,l2⟩:=lX hv
     rw [List.length_take,ra] at l1 l2
     have z1:p1.size≤100000:=by rw [←ra,q2];omega
     have z2:p2.size≤100000:=by rw [←ra,q3];omega
     rw [q1,Option.bind_some]
     simp only
     rw [if_pos trivial,Leb]
     by_cases hlt:p<t.size
     · have c2:decide (((p:Nat):Int)<(t.size:Int))=true:=decide_eq_true (by omega)
       have hne:(bs t).drop p≠[]:=fun e=>by
        have:=congrArg List.length e
        rw [List.length_drop,ra] at this
        simp at this;omega
       have hy:bs (t.extract (Int.toNat ((p:Nat):Int)) (Int.toNat (t.size:Int)))=(bs t).drop p:=Qh t p
       have hB:=SP n (t.extract (Int.toNat ((p:Nat):Int)) (Int.toNat (t.size:Int))) (⟨#[32,83,73,90,69,61]⟩:BA) (by have:=nh t (Int.toNat ((p:Nat):Int)) (Int.toNat (t.size:Int));omega) (by omega) hn rfl
       rw [hy,eS,zS] at hB
       rw [if_pos c2,if_pos c1,hB,Option.bind_some,if_neg hne]
       by_cases h2:(((bs t).drop p).take 6).map up=[32,83,73,90,69,61]
       · have hl6:=rl (l:=(bs t).drop p) (w:=[32,83,73,90,69,61]) (f:=up) h2
         rw [List.length_drop,ra] at hl6
         have hl6':6≤t.size - p:=hl6
         have w6:IntKind.wrap .i64 (((p:Nat):Int)+6)=((p+6:Nat):Int):=by rw [wr (by omega) (by omega)];omega
         have c3:0≤((p+6:Nat):Int)∧((p+6:Nat):Int)≤(t.size:Int):=⟨by omega,by omega⟩
         have hw:bs (t.extract (Int.toNat ((p+6:Nat):Int)) (Int.toNat (t.size:Int)))=((bs t).drop p).drop 6:=by rw [List.drop_drop];exact Qh t (p+6)
         obtain ⟨z,s1,s2⟩:=Bgb n (t.extract (Int.toNat ((p+6:Nat):Int)) (Int.toNat (t.size:Int))) hn
         rw [hw] at s1 s2
         rw [decide_eq_true h2,if_pos rfl,w6,if_pos c3,s1,Option.bind_some]
         refine ⟨_,v.1,p1,p2,z,rfl,z1,z2,?_⟩
         cases hW:H7 (((bs t).drop p).drop 6) with
         | true=>
          rw [if_pos rfl,if_pos ⟨h2,rfl⟩,q2,q3,s2 hW]
         | false=>
          rw [if_neg (by simp),if_neg (fun hh=>by cases hh.2)]
          rfl
       · rw [decide_eq_false h2,if_neg (by simp),if_neg (fun hh=>h2 hh.1)]
         exact ⟨false,v.1,p1,p2, -1,rfl,z1,z2,rfl⟩
     · have c2:¬decide (((p:Nat):Int)<(t.size:Int))=true:=by simp;omega
       have hnil:(bs t).drop p=[]:=List.drop_eq_nil_of_le (by rw [ra];omega)
       rw [if_neg c2,if_pos hnil]
       refine ⟨true,v.1,p1,p2, -1,rfl,z1,z2,?_⟩
       rw [if_pos rfl,q2,q3]
   obtain ⟨ok,nl,p1,p2,z,k1,k2,k3,k4⟩:=key
   have:=Yg n 3 r ok zs nl p1 p2 z (by decide) k2 k3 hn k1
   rw [e0s,k4] at this
   exact this
 · rw [if_neg h1] at hJ4 ⊢
   refine R9 n 3 r ?_
   unfold sa Ca
   rw [if_neg n1,if_neg n2,if_neg n7,if_neg n9,if_pos n3,hJ3,Option.bind_some]
   simp only [onL]
   rw [hJ4,Option.bind_some]
theorem zgb (n:Nat) (r:BA) (hs:r.size≤20000) (hn:10000000≤n):L8 4 (B7 n 4 r) (okC 4 (GN 4 (bs r))):=by
 have e4:bs (⟨#[32,84,79,58]⟩:BA)=[32,84,79,58]:=rfl
 have z4:(⟨#[32,84,79,58]⟩:BA).size=4:=rfl
 have hJ3:nd n 4 r (⟨#[32,70,82,79,77,58]⟩:BA) 0 zs false zs zs 0 4 zs false zs zs 0=some (.out (4,r,(⟨#[32,84,79,58]⟩:BA),0,zs,false,zs,zs,0,4,zs,false,zs,zs,0)):=rfl
 have hJ4:=nkb n 4 r (⟨#[32,84,79,58]⟩:BA) (by omega) (by omega) hn rfl 4 zs false zs zs 0
 rw [e4,z4] at hJ4
 have n1:¬((4:Int)==1)=true:=by decide
 have n2:¬((4:Int)==2)=true:=by decide
 have n7:¬((4:Int)==7)=true:=by decide
 have n9:¬((4:Int)==9)=true:=by decide
 have n3:¬((4:Int)==3)=true:=by decide
 have n4:((4:Int)==4)=true:=rfl
 unfold GN
 rw [if_neg (by decide),if_pos rfl]
 by_cases h1:((bs r).take 4).map up=[32,84,79,58]
 · rw [if_pos h1] at hJ4 ⊢
   have h6:4≤r.size:=by
    have:=rl (l:=bs r) (w:=[32,84,79,58]) (f:=up) h1
    rw [ra] at this;exact this
   have c6:0≤(((⟨#[32,84,79,58]⟩:BA).size:Nat):Int)∧(((⟨#[32,84,79,58]⟩:BA).size:Nat):Int)≤(r.size:Int):=⟨by omega,by omega⟩
   have hu:bs (r.extract (Int.toNat (((⟨#[32,84,79,58]⟩:BA).size:Nat):Int)) (Int.toNat (r.size:Int)))=(bs r).drop 4:=Qh r 4
   have huz:(r.extract (Int.toNat (((⟨#[32,84,79,58]⟩:BA).size:Nat):Int)) (Int.toNat (r.size:Int))).size≤20000:=by
    have:=nh r (Int.toNat (((⟨#[32,84,79,58]⟩:BA).size:Nat):Int)) (Int.toNat (r.size:Int));omega
   have key:∃ ok nl p1 p2 z,sa n 4 r 0 zs false zs zs 0 4 zs false zs zs 0=some (.out (ok,0,zs,false,zs,zs,0,4,zs,nl,p1,p2,z))∧p1.size≤100000∧p2.size≤100000∧
     (if ok=true then okC 4 (some ([],(nl,(bs p1,(bs p2,z))))) else none)=okC 4 ((VT (Kd ((bs r).drop 4))).map fun v=>([],(v.1,(v.2.1,(v.2.2,0))))):=by
    unfold sa Ca
    rw [if_neg n1,if_neg n2,if_neg n7,if_neg n9,if_neg n3,if_pos n4,hJ3,Option.bind_some]
    simp only [onL]
    rw [hJ4,Option.bind_some]
    simp only [onL]
    rw [if_pos c6]
    generalize r.extract (Int.toNat (((⟨#[32,84,79,58]⟩:BA).size:Nat):Int)) (Int.toNat (r.size:Int))=u at hu huz
    rw [okb,Option.bind_some]
    simp only [onL]
    have ht:=uY u
    have hz:(if (bs u).head?=some 32 then u.extract 1 u.size else u).size≤20000:=by
     split
     · have:=nh u 1 u.size;omega
     · exact huz
    generalize (if (bs u).head?=some 32 then u.extract 1 u.size else u)=t at ht hz
    rw [←hu,←ht]
    have hJ6:yc n 4 t (t.size:Int) 0 zs false zs zs 0 4 zs false zs zs 0=some (.out (t,(t.size:Int),0,zs,false,zs,zs,0,4,zs,false,zs,zs,0)):=rfl
    rw [hJ6,Option.bind_some]
    simp only [onL]
    have c1:0≤(t.size:Int)∧(t.size:Int)≤(t.size:Int):=⟨by omega,by omega⟩
    have hx:bs (t.extract (Int.toNat (0:Int)) (Int.toNat (t.size:Int)))=bs t:=by
     have:=pK t t.size
     rw [←ra,List.take_length] at this
     rw [ra] at this;exact this
    have hP:=Y4 n (t.extract (Int.toNat (0:Int)) (Int.toNat (t.size:Int))) (by have:=nh t (Int.toNat (0:Int)) (Int.toNat (t.size:Int));omega) hn
    rw [hx] at hP
    rw [if_pos c1]
    cases hv:VT (bs t) with
    | none=>
     rw [hv] at hP
     refine ⟨false,false,zs,zs,0,?_,by decide,by decide,rfl⟩
     rw [hP.1,Option.bind_some]
     rfl
    | some v=>
     rw [hv] at hP
     obtain ⟨p1,p2,q1,_,q2,q3⟩:=hP
     obtain ⟨l1,l2⟩:=lX hv
     rw [ra] at l1 l2
     have z1:p1.size≤100000:=by rw [←ra,q2];omega
     have z2:p2.size≤100000:=by rw [←ra,q3];omega
     have c2:¬decide ((t.size:Int)<(t.size:Int))=true:=by simp
     rw [q1,Option.bind_some]
     simp only
     rw [if_pos trivial,if_neg c2]
     refine ⟨true,v.1,p1,p2,0,rfl,z1,z2,?_⟩
     rw [if_pos rfl,q2,q3]
     rfl
   obtain ⟨ok,nl,p1,p2,z,k1,k2,k3,k4⟩:=key
   have:=Yg n 4 r ok zs nl p1 p2 z (by decide) k2 k3 hn k1
   rw [e0s,k4] at this
   exact this
 · rw [if_neg h1] at hJ4 ⊢
   refine R9 n 4 r ?_
   unfold sa Ca
   rw [if_neg n1,if_neg n2,if_neg n7,if_neg n9,if_neg n3,if_pos n4,hJ3,Option.bind_some]
   simp only [onL]
   rw [hJ4,Option.bind_some]
open Go Go.RowKit
theorem Xv {l:List Int} (h:l=[]∨l.head?=some 32):Kd l=l.drop 1:=by
 rcases h with rfl | h
 · rfl
 · unfold Kd;rw [if_pos h]
theorem Veb (k:Int) (hk:k=1∨k=2):vL k [] false [] [] 0=false:=by
 rcases hk with rfl | rfl<;>decide
theorem Q7 (k:Int) (hk:k=5∨k=6∨k=8) {w:List Int} (hw:w≠[]) (nl:Bool) (a b:List Int) (z:Int):vL k w nl a b z=false:=by
 rcases hk with rfl | rfl | rfl<;>simp [vL,hw]
theorem wgb (n:Nat) (r:BA) (hs:r.size≤20000) (hn:10000000≤n) (hsp:bs r=[]∨(bs r).head?=some 32):L8 1 (B7 n 1 r) (okC 1 (GN 1 (bs r))):=by
 unfold GN
 rw [if_neg (by decide),if_neg (by decide),if_pos rfl,Xv hsp]
 by_cases h0:bs r=[]
 · have hJ:sa n 1 r 0 zs false zs zs 0 1 zs false zs zs 0=some (.out (false,0,zs,false,zs,zs,0,1,zs,false,zs,zs,0)):=by
    unfold sa Ca
    rw [if_pos (show ((1:Int)==1)=true from rfl),Pa,e0s,decide_eq_true h0,if_neg (by decide)]
    rfl
   have:=Yg n 1 r false zs false zs zs 0 (by decide) (by decide) (by decide) hn hJ
   rw [h0]
   show L8 1 _ (okC 1 (some ([],(false,([],([],0))))))
   rw [NM (Veb 1 (by decide))]
   exact this
 · have hz:0<r.size:=by rw [←ra];exact List.length_pos_iff.2 h0
   have c1:0≤(1:Int)∧(1:Int)≤(r.size:Int):=⟨by omega,by omega⟩
   obtain ⟨t,h1,h2⟩:=xG n (r.extract (Int.toNat (1:Int)) (Int.toNat (r.size:Int))) (by have:=nh r (Int.toNat (1:Int)) (Int.toNat (r.size:Int));omega) hn
   have hx:bs (r.extract (Int.toNat (1:Int)) (Int.toNat (r.size:Int)))=(bs r).drop 1:=Qh r 1
   rw [hx] at h2
   have htz:t.size≤20000:=by rw [←ra,h2,List.length_map,List.length_drop,ra];omega
   have hJ:sa n 1 r 0 zs false zs zs 0 1 zs false zs zs 0=some (.out (true,0,zs,false,zs,zs,0,1,t,false,zs,zs,0)):=by
    unfold sa Ca
    rw [if_pos (show ((1:Int)==1)=true from rfl),Pa,e0s,decide_eq_false h0,if_pos (by decide),if_pos c1,h1]
    rfl
   have:=Yg n 1 r true t false zs zs 0 (by omega) (by decide) (by decide) hn hJ
   rw [h2,e0s] at this
   exact this
theorem xgb (n:Nat) (r:BA) (hs:r.size≤20000) (hn:10000000≤n) (hsp:bs r=[]∨(bs r).head?=some 32):L8 2 (B7 n 2 r) (okC 2 (GN 2 (bs r))):=by
 have n1:¬((2:Int)==1)=true:=by decide
 unfold GN
 rw [if_neg (by decide),if_neg (by decide),if_neg (by decide),if_pos rfl,Xv hsp]
 by_cases h0:bs r=[]
 · have hJ:sa n 2 r 0 zs false zs zs 0 2 zs false zs zs 0=some (.out (false,0,zs,false,zs,zs,0,2,zs,false,zs,zs,0)):=by
    unfold sa Ca
    rw [if_neg n1,if_pos (show ((2:Int)==2)=true from rfl),Pa,e0s,decide_eq_true h0,if_neg (by decide)]
    rfl
   have:=Yg n 2 r false zs false zs zs 0 (by decide) (by decide) (by decide) hn hJ
   rw [h0]
   show L8 2 _ (okC 2 (some ([],(false,([],([],0))))))
   rw [NM (Veb 2 (by decide))]
   exact this
 · have hz:0<r.size:=by rw [←ra];exact List.length_pos_iff.2 h0
   have c1:0≤(1:Int)∧(1:Int)≤(r.size:Int):=⟨by omega,by omega⟩
   obtain ⟨t,h1,h2⟩:=xG n (r.extract (Int.toNat (1:Int)) (Int.toNat (r.size:Int))) (by have:=nh r (Int.toNat (1:Int)) (Int.toNat (r.size:Int));omega) hn
   have hx:bs (r.extract (Int.toNat (1:Int)) (Int.toNat (r.size:Int)))=(bs r).drop 1:=Qh r 1
   rw [hx] at h2
   have htz:t.size≤20000:=by rw [←ra,h2,List.length_map,List.length_drop,ra];omega
   have hJ:sa n 2 r 0 zs false zs zs 0 2 zs false zs zs 0=some (.out (true,0,zs,false,zs,zs,0,2,t,false,zs,zs,0)):=by
    unfold sa Ca
    rw [if_neg n1,if_pos (show ((2:Int)==2)=true from rfl),Pa,e0s,decide_eq_false h0,if_pos (by decide),if_pos c1,h1]
    rfl
   have:=Yg n 2 r true t false zs zs 0 (by omega) (by decide) (by decide) hn hJ
   rw [h2,e0s] at this
   exact this
theorem Aeb (n:Nat) (r:BA) (hs:r.size≤20000) (hn:10000000≤n) (hsp:bs r=[]∨(bs r).head?=some 32):L8 7 (B7 n 7 r) (okC 7 (GN 7 (bs r))):=by
 have n1:¬((7:Int)==1)=true:=by decide
 have n2:¬((7:Int)==2)=true:=by decide
 have e32:bs (⟨#[32]⟩:BA)=[32]:=rfl
 unfold GN
 rw [if_neg (by decide),if_neg (by decide),if_neg (by decide),if_neg (by decide),Xv hsp]
 by_cases h0:bs r=[]
 · have hJ:sa n 7 r 0 zs false zs zs 0 7 zs false zs zs 0=some (.out (true,0,zs,false,zs,zs,0,7,zs,false,zs,zs,0)):=by
    unfold sa Ca
    rw [if_neg n1,if_neg n2,if_pos (show ((7:Int)==7)=true from rfl),Pa,e0s,decide_eq_true h0,if_neg (by decide),Pa,h0,e32]
    rfl
   have:=Yg n 7 r true zs false zs zs 0 (by decide) (by decide) (by decide) hn hJ
   rw [h0,if_neg (by decide)]
   exact this
 · have hz:0<r.size:=by rw [←ra];exact List.length_pos_iff.2 h0
   have c1:0≤(1:Int)∧(1:Int)≤(r.size:Int):=⟨by omega,by omega⟩
   have hx:bs (r.extract (Int.toNat (1:Int)) (Int.toNat (r.size:Int)))=(bs r).drop 1:=Qh r 1
   have htz:(r.extract (Int.toNat (1:Int)) (Int.toNat (r.size:Int))).size≤20000:=by have:=nh r (Int.toNat (1:Int)) (Int.toNat (r.size:Int));omega
   have hJ:sa n 7 r 0 zs false zs zs 0 7 zs false zs zs 0=some (.out (!decide (bs r=[32]),0,zs,false,zs,zs,0,7,r.extract (Int.toNat (1:Int)) (Int.toNat (r.size:Int)),false,zs,zs,0)):=by
    unfold sa Ca
    rw [if_neg n1,if_neg n2,if_pos (show ((7:Int)==7)=true from rfl),Pa,e0s,decide_eq_false h0,if_pos (by decide),if_pos c1,Pa,e32]
   have:=Yg n 7 r _ (r.extract (Int.toNat (1:Int)) (Int.toNat (r.size:Int))) false zs zs 0 (by omega) (by decide) (by decide) hn hJ
   rw [hx,e0s] at this
   by_cases h32:bs r=[32]
   · rw [decide_eq_true h32,if_neg (by decide)] at this
     rw [if_pos h32];exact this
   · rw [decide_eq_false h32,if_pos (by decide)] at this
     rw [if_neg h32];exact this
theorem Beb (n:Nat) (r:BA) (hs:r.size≤20000) (hn:10000000≤n) (hsp:bs r=[]∨(bs r).head?=some 32):L8 9 (B7 n 9 r) (okC 9 (GN 9 (bs r))):=by
 have n1:¬((9:Int)==1)=true:=by decide
 have n2:¬((9:Int)==2)=true:=by decide
 have n7:¬((9:Int)==7)=true:=by decide
 have e32:bs (⟨#[32]⟩:BA)=[32]:=rfl
 unfold GN
 rw [if_neg (by decide),if_neg (by decide),if_neg (by decide),if_neg (by decide),Xv hsp]
 by_cases h0:bs r=[]
 · have hJ:sa n 9 r 0 zs false zs zs 0 9 zs false zs zs 0=some (.out (true,0,zs,false,zs,zs,0,9,zs,false,zs,zs,0)):=by
    unfold sa Ca
    rw [if_neg n1,if_neg n2,if_neg n7,if_pos (show ((9:Int)==9)=true from rfl),Pa,e0s,decide_eq_true h0,if_neg (by decide),Pa,h0,e32]
    rfl
   have:=Yg n 9 r true zs false zs zs 0 (by decide) (by decide) (by decide) hn hJ
   rw [h0,if_neg (by decide)]
   exact this
 · have hz:0<r.size:=by rw [←ra];exact List.length_pos_iff.2 h0
   have c1:0≤(1:Int)∧(1:Int)≤(r.size:Int):=⟨by omega,by omega⟩
   have hx:bs (r.extract (Int.toNat (1:Int)) (Int.toNat (r.size:Int)))=(bs r).drop 1:=Qh r 1
   have htz:(r.extract (Int.toNat (1:Int)) (Int.toNat (r.size:Int))).size≤20000:=by have:=nh r (Int.toNat (1:Int)) (Int.toNat (r.size:Int));omega
   have hJ:sa n 9 r 0 zs false zs zs 0 9 zs false zs zs 0=some (.out (!decide (bs r=[32]),0,zs,false,zs,zs,0,9,r.extract (Int.toNat (1:Int)) (Int.toNat (r.size:Int)),false,zs,zs,0)):=by
    unfold sa Ca
    rw [if_neg n1,if_neg n2,if_neg n7,if_pos (show ((9:Int)==9)=true from rfl),Pa,e0s,decide_eq_false h0,if_pos (by decide),if_pos c1,Pa,e32]
   have:=Yg n 9 r _ (r.extract (Int.toNat (1:Int)) (Int.toNat (r.size:Int))) false zs zs 0 (by omega) (by decide) (by decide) hn hJ
   rw [hx,e0s] at this
   by_cases h32:bs r=[32]
   · rw [decide_eq_true h32,if_neg (by decide)] at this
     rw [if_pos h32];exact this
   · rw [decide_eq_false h32,if_pos (by decide)] at this
     rw [if_neg h32];exact this
theorem xeb (n:Nat) (r:BA) (hs:r.size≤20000) (hn:10000000≤n) (hsp:bs r=[]∨(bs r).head?=some 32):L8 5 (B7 n 5 r) (okC 5 (GN 5 (bs r))):=by
 have n1:¬((5:Int)==1)=true:=by decide
 have n2:¬((5:Int)==2)=true:=by decide
 have n7:¬((5:Int)==7)=true:=by decide
 have n9:¬((5:Int)==9)=true:=by decide
 have n3:¬((5:Int)==3)=true:=by decide
 have n4:¬((5:Int)==4)=true:=by decide
 have hJ:sa n 5 r 0 zs false zs zs 0 5 zs false zs zs 0=some (.out (decide (bs r=[]),0,zs,false,zs,zs,0,5,zs,false,zs,zs,0)):=by
  unfold sa Ca
  rw [if_neg n1,if_neg n2,if_neg n7,if_neg n9,if_neg n3,if_neg n4,Pa,e0s]
 have:=Yg n 5 r _ zs false zs zs 0 (by decide) (by decide) (by decide) hn hJ
 rw [e0s] at this
 unfold GN
 rw [if_neg (by decide),if_neg (by decide),if_neg (by decide),if_neg (by decide),Xv hsp]
 by_cases h0:bs r=[]
 · rw [decide_eq_true h0,if_pos rfl] at this
   rw [h0,if_neg (by decide)]
   exact this
 · rw [decide_eq_false h0,if_neg (by decide)] at this
   by_cases h32:bs r=[32]
   · rw [if_pos h32];exact this
   · have hne:(bs r).drop 1≠[]:=fun e=>by
      rcases hsp with h | h
      · exact h0 h
      · have:=mt h
        rw [e] at this
        exact h32 this
     rw [if_neg h32,NM (Q7 5 (by decide) hne _ _ _ _)]
     exact this
theorem yeb (n:Nat) (r:BA) (hs:r.size≤20000) (hn:10000000≤n) (hsp:bs r=[]∨(bs r).head?=some 32):L8 6 (B7 n 6 r) (okC 6 (GN 6 (bs r))):=by
 have n1:¬((6:Int)==1)=true:=by decide
 have n2:¬((6:Int)==2)=true:=by decide
 have n7:¬((6:Int)==7)=true:=by decide
 have n9:¬((6:Int)==9)=true:=by decide
 have n3:¬((6:Int)==3)=true:=by decide
 have n4:¬((6:Int)==4)=true:=by decide
 have hJ:sa n 6 r 0 zs false zs zs 0 6 zs false zs zs 0=some (.out (decide (bs r=[]),0,zs,false,zs,zs,0,6,zs,false,zs,zs,0)):=by
  unfold sa Ca
  rw [if_neg n1,if_neg n2,if_neg n7,if_neg n9,if_neg n3,if_neg n4,Pa,e0s]
 have:=Yg n 6 r _ zs false zs zs 0 (by decide) (by decide) (by decide) hn hJ
 rw [e0s] at this
 unfold GN
 rw [if_neg (by decide),if_neg (by decide),if_neg (by decide),if_neg (by decide),Xv hsp]
 by_cases h0:bs r=[]
 · rw [decide_eq_true h0,if_pos rfl] at this
   rw [h0,if_neg (by decide)]
   exact this
 · rw [decide_eq_false h0,if_neg (by decide)] at this
   by_cases h32:bs r=[32]
   · rw [if_pos h32];exact this
   · have hne:(bs r).drop 1≠[]:=fun e=>by
      rcases hsp with h | h
      · exact h0 h
      · have:=mt h
        rw [e] at this
        exact h32 this
     rw [if_neg h32,NM (Q7 6 (by decide) hne _ _ _ _)]
     exact this
theorem zeb (n:Nat) (r:BA) (hs:r.size≤20000) (hn:10000000≤n) (hsp:bs r=[]∨(bs r).head?=some 32):L8 8 (B7 n 8 r) (okC 8 (GN 8 (bs r))):=by
 have n1:¬((8:Int)==1)=true:=by decide
 have n2:¬((8:Int)==2)=true:=by decide
 have n7:¬((8:Int)==7)=true:=by decide
 have n9:¬((8:Int)==9)=true:=by decide
 have n3:¬((8:Int)==3)=true:=by decide
 have n4:¬((8:Int)==4)=true:=by decide
 have hJ:sa n 8 r 0 zs false zs zs 0 8 zs false zs zs 0=some (.out (decide (bs r=[]),0,zs,false,zs,zs,0,8,zs,false,zs,zs,0)):=by
  unfold sa Ca
  rw [if_neg n1,if_neg n2,if_neg n7,if_neg n9,if_neg n3,if_neg n4,Pa,e0s]
 have:=Yg n 8 r _ zs false zs zs 0 (by decide) (by decide) (by decide) hn hJ
 rw [e0s] at this
 unfold GN
 rw [if_neg (by decide),if_neg (by decide),if_neg (by decide),if_neg (by decide),Xv hsp]
 by_cases h0:bs r=[]
 · rw [decide_eq_true h0,if_pos rfl] at this
   rw [h0,if_neg (by decide)]
   exact this
 · rw [decide_eq_false h0,if_neg (by decide)] at this
   by_cases h32:bs r=[32]
   · rw [if_pos h32];exact this
   · have hne:(bs r).drop 1≠[]:=fun e=>by
      rcases hsp with h | h
      · exact h0 h
      · have:=mt h
        rw [e] at this
        exact h32 this
     rw [if_neg h32,NM (Q7 8 (by decide) hne _ _ _ _)]
     exact this
theorem fjb (n:Nat) (k:Int) (r:BA) (hs:r.size≤20000) (hn:10000000≤n) (hk:1≤k∧k≤9) (hsp:bs r=[]∨(bs r).head?=some 32):L8 k (B7 n k r) (okC k (GN k (bs r))):=by
 have:k=1∨k=2∨k=3∨k=4∨k=5∨k=6∨k=7∨k=8∨k=9:=by omega
 rcases this with rfl | rfl | rfl | rfl | rfl | rfl | rfl | rfl | rfl
 · exact wgb n r hs hn hsp
 · exact xgb n r hs hn hsp
 · exact ygb n r hs hn
 · exact zgb n r hs hn
 · exact xeb n r hs hn hsp
 · exact yeb n r hs hn hsp
 · exact Aeb n r hs hn hsp
 · exact zeb n r hs hn hsp
 · exact Beb n r hs hn hsp
theorem Mbb (n:Nat) (s:BA) (hs:s.size≤20000) (hn:10000000≤n):Res (pg n s) (PV (bs s)):=by
 unfold pg Ik
 rw [Dlb n s (by omega) hn,Option.bind_some]
 simp only [onL]
 rw [Blb,Option.bind_some]
 unfold PV
 by_cases h:vkd ((bs s).take 4)=0∨(4<(bs s).length∧(bs s)[4]?≠some 32)
 · rw [if_pos h,if_pos h]
   rfl
 · rw [if_neg h,if_neg h]
   simp only [onL]
   rcases j8 ((bs s).take 4) with h0 | ⟨h1,h2,h3⟩
   · exact absurd (.inl h0) h
   · rw [List.length_take,ra] at h3
     have c2:0≤(4:Int)∧(4:Int)≤(s.size:Int):=⟨by omega,by omega⟩
     rw [if_pos c2]
     have hx:bs (s.extract (Int.toNat (4:Int)) (Int.toNat (s.size:Int)))=(bs s).drop 4:=Qh s 4
     have hsp:(bs s).drop 4=[]∨((bs s).drop 4).head?=some 32:=by
      by_cases h5:4<(bs s).length
      · right
        have:(bs s)[4]?=some 32:=by
         rcases Classical.em ((bs s)[4]?=some 32) with g | g
         · exact g
         · exact absurd (.inr ⟨h5,g⟩) h
        rw [List.head?_drop];exact this
      · left;exact List.drop_eq_nil_of_le (by omega)
     have hm:=fjb n (vkd ((bs s).take 4)) (s.extract (Int.toNat (4:Int)) (Int.toNat (s.size:Int))) (by have:=nh s (Int.toNat (4:Int)) (Int.toNat (s.size:Int));omega) hn ⟨h1,h2⟩ (by rw [hx];exact hsp)
     rw [hx] at hm
     change Res (B7 n (vkd ((bs s).take 4)) (s.extract (Int.toNat (4:Int)) (Int.toNat (s.size:Int)))) _
     cases hc:okC (vkd ((bs s).take 4)) (GN (vkd ((bs s).take 4)) ((bs s).drop 4)) with
     | none=>rw [hc] at hm;exact hm
     | some x=>rw [hc] at hm;exact hm
end Go.Proofs.YtdohilmgblkppaaGreatDoor.AM
