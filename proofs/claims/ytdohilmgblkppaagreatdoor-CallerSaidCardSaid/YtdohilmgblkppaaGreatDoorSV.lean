/- Commands, plainly: letters, words, where a path ends. -/
import Derived.Test.YtdohilmgblkppaaGreatDoorSQ
set_option linter.all false
set_option linter.unusedVariables false
set_option linter.unusedSimpArgs false
namespace Go.Proofs.YtdohilmgblkppaaGreatDoor.AM
open Go
/-! Letters. -/
def up (c:Int):Int:=if 97≤c∧c≤122 then c - 32 else c
/-! Words. -/
def pr (c:Int):Bool:=decide (33≤c)&&decide (c≤126)
def wB:Bool→List Int→Bool
 | b,[]=>!b
 | b,c::r=>if c<32∨126<c∨c=32∧b=true then false else wB (decide (c=32)) r
def jN (l:List Int):Bool:=decide (l.length≤64)&&wB true l
/-! Digits behind a path. -/
def kW (l:List Int):Option Int:=if l=[] then some (-1) else
 if (l.take 6).map up=[32,83,73,90,69,61]∧1≤(l.drop 6).length∧(l.drop 6).length≤10∧(l.drop 6).all dig=true∧mS 0 (l.drop 6)≤1073741824 then some (mS 0 (l.drop 6)) else none
theorem Qkb {l:List Int} {z:Int} (h:kW l=some z):62 ∉ l:=by
 unfold kW at h
 by_cases g:l=[]
 · subst g;simp
 · rw [if_neg g] at h
   split at h
   · rename_i hc
     obtain ⟨h1,h2,h3,h4,_⟩:=hc
     rw [←List.take_append_drop 6 l]
     intro hm
     rcases List.mem_append.1 hm with hm | hm
     · have:=List.mem_map_of_mem (f:=up) hm
       rw [h1] at this
       revert this;decide
     · have:=List.all_eq_true.1 h4 _ hm
       revert this;decide
   · cases h
/-! Where a path ends:0:outside quotes;1:inside;2:behind a backslash. -/
def pe:Nat→List Int→Nat
 | _,[]=>0
 | 0,c::r=>if c=34 then 1+pe 1 r else if c=62 then 1 else 1+pe 0 r
 | 1,c::r=>if c=92 then 1+pe 2 r else if c=34 then 1+pe 0 r else 1+pe 1 r
 | _+2,_::r=>1+pe 1 r
theorem Zbb:∀ (l:List Int) (q:Nat),pe q l≤l.length
 | [],q=>by cases q<;>simp [pe]
 | c::r,0=>by
  have h0:=Zbb r 0
  have h1:=Zbb r 1
  simp only [pe,List.length_cons]
  split
  · omega
  · split<;>omega
 | c::r,1=>by
  have h0:=Zbb r 0
  have h1:=Zbb r 1
  have h2:=Zbb r 2
  simp only [pe,List.length_cons]
  split
  · omega
  · split<;>omega
 | c::r,q+2=>by
  have h1:=Zbb r 1
  simp only [pe,List.length_cons];omega
theorem V2:∀ (l r:List Int),34 ∉ l→62 ∉ l→pe 0 (l++r)=l.length+pe 0 r
 | [],r,_,_=>by simp
 | c::l,r,h1,h2=>by
  simp only [List.mem_cons,not_or] at h1 h2
  rw [List.cons_append]
  simp only [pe]
  rw [if_neg (fun hh=>h1.1 hh.symm),if_neg (fun hh=>h2.1 hh.symm),V2 l r h1.2 h2.2,List.length_cons]
  omega
theorem Omb:∀ (N:Nat) (l r:List Int) (x:List Int×List Int),l.length≤N→qd l=some x→∃ p,l=p++x.2∧pe 1 (l++r)=p.length+pe 0 (x.2++r)
 | _,[],_,_,_,h=>by cases h
 | 0,c::l,r,x,h,_=>by simp at h
 | N+1,c::l,r,x,hN,h=>by
  rw [Be] at h
  have hN':l.length≤N:=by simpa using hN
  by_cases c1:c=34
  · rw [if_pos c1] at h
    cases h
    subst c1
    refine ⟨[34],rfl,?_⟩
    simp [pe]
  · rw [if_neg c1] at h
    by_cases c2:c=92
    · rw [if_pos c2] at h
      subst c2
      cases l with
      | nil=>cases h
      | cons d l=>
       simp only at h
       split at h
       · obtain ⟨y,hy,rfl⟩:=Option.map_eq_some_iff.1 h
         obtain ⟨p,i1,i2⟩:=Omb N l r y (by simp at hN';omega) hy
         refine ⟨92::d::p,by rw [i1];rfl,?_⟩
         have e92:pe 1 (92::(d::(l++r)))=1+(1+pe 1 (l++r)):=by simp [pe]
         show _=_+pe 0 (y.2++r)
         rw [List.cons_append,List.cons_append,e92,i2,List.length_cons,List.length_cons]
         omega
       · cases h
    · rw [if_neg c2] at h
      split at h
      · obtain ⟨y,hy,rfl⟩:=Option.map_eq_some_iff.1 h
        obtain ⟨p,i1,i2⟩:=Omb N l r y hN' hy
        refine ⟨c::p,by rw [i1];rfl,?_⟩
        simp only [List.cons_append,pe,List.length_cons]
        rw [if_neg c2,if_neg c1,i2]
        omega
      · cases h
/-! Paths. -/
def g6 (l:List Int):Option (Bool×List Int×List Int):=if l=[60,62] then some (true,[],[]) else
 if 2≤l.length∧l.head?=some 60∧l.getLast?=some 62 then (iib (Oq l)).map fun x=>(false,x.1,x.2) else none
theorem vkb {x:Int} (hx:fZ x=false) (h46:x≠46):∀ (l:List Int) (w:Nat),pl w l=true→x ∉ l
 | [],_,_=>by simp
 | c::r,w,h=>by
  simp only [pl] at h
  intro hm
  rcases List.mem_cons.mp hm with e | hm
  · subst e
    rw [if_neg h46,hx] at h;cases h
  · by_cases c1:c=46
    · rw [if_pos c1] at h
      by_cases c2:w=0
      · rw [if_pos c2] at h;cases h
      · rw [if_neg c2] at h;exact vkb hx h46 r 0 h hm
    · rw [if_neg c1] at h
      by_cases c2:fZ c=true
      · rw [if_pos c2] at h;exact vkb hx h46 r (w+1) h hm
      · rw [if_neg c2] at h;cases h
theorem rZ {l:List Int} (h:Hw l=true):∀ c∈l,c=91∨c=93∨45≤c∧c≤57∨97≤c∧c≤122:=by
 unfold Hw at h
 rw [Bool.and_eq_true,Bool.or_eq_true] at h
 rcases h.2 with h | h
 · unfold Fmb at h
   simp only [Bool.and_eq_true,decide_eq_true_eq] at h
   obtain ⟨⟨⟨h1,h2⟩,h3⟩,h4⟩:=h
   unfold Djb at h4
   rw [Bool.and_eq_true] at h4
   have h5:(Qa 46 [] (Oq l)).all (fun w=>w.all dig)=true:=by
    rw [List.all_eq_true]
    intro w hw
    have:=List.all_eq_true.mp h4.1 w hw
    unfold okR at this
    simp only [Bool.and_eq_true] at this
    exact this.1.2
   have h6:=(So 46 dig _ _ h5).2
   intro c hc
   rcases V7 h1 h2 h3 c hc with rfl | rfl | hm
   · exact .inl rfl
   · exact .inr (.inl rfl)
   · rcases h6 c hm with h7 | rfl
     · unfold dig at h7
       simp only [Bool.and_eq_true,decide_eq_true_eq] at h7
       omega
     · omega
 · have h5:(Qa 46 [] l).all (fun w=>w.all lch)=true:=by
    rw [List.all_eq_true]
    intro w hw
    have:=List.all_eq_true.mp h w hw
    unfold b8 at this
    simp only [Bool.and_eq_true] at this
    exact this.2
   have h6:=(So 46 lch _ _ h5).2
   intro c hc
   rcases h6 c hc with h7 | rfl
   · unfold lch sgn at h7
     simp only [Bool.and_eq_true,Bool.or_eq_true,decide_eq_true_eq] at h7
     omega
   · omega
theorem Vhb {x:Int} (hx:x<65):∀ {c:Int},c=x→low c=x:=fun h=>by
 subst h;unfold low;rw [if_neg (by omega)]
theorem bpb {d:List Int} (h:Hw (d.map low)=true):34 ∉ d∧62 ∉ d:=by
 constructor<;>intro hm
 · have:=rZ h _ (List.mem_map_of_mem (f:=low) hm)
   rw [Vhb (x:=34) (by omega) rfl] at this
   omega
 · have:=rZ h _ (List.mem_map_of_mem (f:=low) hm)
   rw [Vhb (x:=62) (by omega) rfl] at this
   omega
theorem nU {z:List Int} {c:Int} (h:z.head?=some c):z=c::z.drop 1:=by
 cases z with
 | nil=>cases h
 | cons a r=>cases h;rfl
theorem Ngb {t:List Int} (h:2≤t.length) (h1:t.head?=some 60) (h2:t.getLast?=some 62):t=60::(Oq t++[62]):=by
 have ht:=nU h1
 generalize hx:t.drop 1=x at ht
 subst ht
 have hx0:x≠[]:=by intro e;subst e;simp at h
 have hi:Oq (60::x)=x.dropLast:=by
  obtain ⟨k,hk⟩:∃ k,x.length=k+1:=⟨x.length - 1,by have:=List.length_pos_iff.mpr hx0;omega⟩
  unfold Oq
  rw [List.length_cons,Nat.add_sub_cancel,hk,List.take_succ_cons,List.drop_one,List.tail_cons,List.dropLast_eq_take,hk];rfl
 have hg:x.getLast hx0=62:=by
  rw [List.getLast?_cons,List.getLast?_eq_some_getLast hx0] at h2
  simpa using h2
 rw [hi]
 conv=>lhs;rw [←List.dropLast_concat_getLast hx0,hg]
theorem Mmb {x:List Int} {y:List Int×List Int} (h:iib x=some y) (r:List Int):pe 0 (x++62::r)=x.length+1:=by
 unfold iib at h
 obtain ⟨w,h1,h2⟩:=Option.bind_eq_some_iff.1 h
 have hc:w.1.length≤64∧w.2.head?=some 64∧ikb ((w.2.drop 1).map low)=true:=by
  by_cases c:w.1.length≤64∧w.2.head?=some 64∧ikb ((w.2.drop 1).map low)=true
  · exact c
  · rw [if_neg c] at h2;cases h2
 obtain ⟨_,hz,hd⟩:=hc
 rw [xD] at hd
 obtain ⟨n1,n2⟩:=bpb hd
 have hz':=nU hz
 have tail:pe 0 (w.2++62::r)=w.2.length+1:=by
  rw [V2 w.2 _ (by rw [hz'];simp only [List.mem_cons,not_or];exact ⟨by omega,n1⟩) (by rw [hz'];simp only [List.mem_cons,not_or];exact ⟨by omega,n2⟩)]
  simp [pe]
 unfold loc at h1
 by_cases g:x.head?=some 34
 · rw [if_pos g] at h1
   obtain ⟨v,e1,e2⟩:=Option.map_eq_some_iff.1 h1
   have hv:v.2=w.2:=by rw [←e2]
   obtain ⟨p,i1,i2⟩:=Omb _ _ (62::r) v (Nat.le_refl _) e1
   have hx:=nU g
   rw [hx,List.cons_append]
   show (if (34:Int)=34 then _ else _)=_
   rw [if_pos rfl,i2,hv,tail,List.length_cons,i1,List.length_append,hv]
   omega
 · rw [if_neg g] at h1
   split at h1
   · cases h1
   · split at h1
     · rename_i hp
       cases h1
       simp only at tail
       have a1:fZ 34=false:=by decide
       have a2:fZ 62=false:=by decide
       conv=>lhs;rw [←List.take_append_drop (idx 64 x).toNat x]
       rw [List.append_assoc,V2 _ _ (vkb a1 (by omega) _ _ hp) (vkb a2 (by omega) _ _ hp),tail,←Nat.add_assoc,←List.length_append,List.take_append_drop]
     · cases h1
theorem acb {t:List Int} {v:Bool×List Int×List Int} (h:g6 t=some v) (r:List Int):pe 0 (t++r)=t.length∧t.getLast?=some 62∧t≠[]:=by
 unfold g6 at h
 by_cases c:t=[60,62]
 · subst c;exact ⟨by simp [pe],rfl,by simp⟩
 · rw [if_neg c] at h
   by_cases c2:2≤t.length∧t.head?=some 60∧t.getLast?=some 62
   · rw [if_pos c2] at h
     obtain ⟨y,hy,_⟩:=Option.map_eq_some_iff.1 h
     have ht:=Ngb c2.1 c2.2.1 c2.2.2
     have hpe:=Mmb hy r
     generalize Oq t=x at ht hpe
     refine ⟨?_,c2.2.2,by intro e;rw [e] at c2;simp at c2⟩
     rw [ht,List.cons_append]
     show (if (60:Int)=34 then _ else if (60:Int)=62 then _ else _)=_
     rw [if_neg (by omega),if_neg (by omega),List.append_assoc,List.singleton_append,hpe]
     simp;omega
   · rw [if_neg c2] at h;cases h
def Oob (l:List Int) (i:Int):Prop:=i= -1∧62 ∉ l∨∃ k:Nat,i=k∧k<l.length∧l[k]?=some 62∧62 ∉ l.drop (k+1)
theorem gU {l:List Int} {i:Int} (h:Oob l i) {v:Bool×List Int×List Int} {z:Int}:
  (0≤i∧g6 (l.take (i.toNat+1))=some v∧kW (l.drop (i.toNat+1))=some z)↔(g6 (l.take (pe 0 l))=some v∧kW (l.drop (pe 0 l))=some z):=by
 constructor
 · rintro ⟨h0,h1,h2⟩
   have:=(acb h1 (l.drop (i.toNat+1))).1
   rw [List.take_append_drop] at this
   rcases h with ⟨h3,_⟩ | ⟨k,rfl,h3,h4,h5⟩
   · omega
   · rw [List.length_take] at this
     have e:min ((k:Int).toNat+1) l.length=(k:Int).toNat+1:=by simp;omega
     rw [this,e]
     exact ⟨h1,h2⟩
 · rintro ⟨h1,h2⟩
   obtain ⟨_,hl,hne⟩:=acb h1 []
   have hle:=Zbb l 0
   have hp:0<pe 0 l:=by
    rcases Nat.eq_zero_or_pos (pe 0 l) with e | e
    · rw [e] at hne;simp at hne
    · exact e
   have h62:l[pe 0 l - 1]?=some 62:=by
    rw [List.getLast?_eq_getElem?,List.length_take,Nat.min_eq_left hle,List.getElem?_take] at hl
    rw [if_pos (by omega)] at hl;exact hl
   have hno:=Qkb h2
   have hi:i=((pe 0 l - 1:Nat):Int):=by
    rcases h with ⟨_,h3⟩ | ⟨k,rfl,h3,h4,h5⟩
    · exact absurd (List.mem_of_getElem? h62) h3
    · rcases Nat.lt_trichotomy k (pe 0 l - 1) with g | g | g
      · exfalso
        apply h5
        have:(l.drop (k+1))[pe 0 l - 1 - (k+1)]?=some 62:=by
         rw [List.getElem?_drop,show k+1+(pe 0 l - 1 - (k+1))=pe 0 l - 1 by omega];exact h62
        exact List.mem_of_getElem? this
      · rw [g]
      · exfalso
        apply hno
        have:(l.drop (pe 0 l))[k - pe 0 l]?=some 62:=by
         rw [List.getElem?_drop,show pe 0 l+(k - pe 0 l)=k by omega];exact h4
        exact List.mem_of_getElem? this
   have e:i.toNat+1=pe 0 l:=by rw [hi];simp;omega
   rw [e]
   exact ⟨by omega,h1,h2⟩
open Go Go.RowKit
/-! words. -/
def wX (s:BA):Bool→List Int→Lx (BA×Bool) Bool
 | b,[]=>.out (s,b)
 | b,c::r=>if c<32∨126<c∨c=32∧b=true then .ret false else wX s (decide (c=32)) r
theorem Meb (n:Nat) (s:BA) (hs:s.size≤1000000):∀ (r:List Int) (b:Bool) (k m:Nat),(bs s).drop k=r→k≤s.size→r.length<m→ke n m s b s.size k=some (wX s b r)
 | [],b,k,m,h,hk,hm=>by
  obtain ⟨m,rfl⟩:∃ q,m=q+1:=⟨m - 1,by omega⟩
  have:=wi h
  simp [ke,Uo,this,wX]
 | c::r,b,k,m,h,hk,hm=>by
  obtain ⟨m,rfl⟩:∃ q,m=q+1:=⟨m - 1,by omega⟩
  obtain ⟨h1,h2,h3,h4,h5⟩:=Zd h
  have e1:=wr1 (k:=k) (by omega)
  have a3:(0:Int)≤(k:Int):=by omega
  have ih:=Meb n s hs r (decide (c=32)) (k+1) m h3 (by omega) (by simpa using hm)
  simp only [ke,Uo,h1,h2,a3,e1,wX]
  by_cases g1:c<32
  · simp [g1]
  · by_cases g2:126<c
    · simp [g1,g2]
    · by_cases g3:c=32
      · subst g3
        cases b
        · simpa using ih
        · simp
      · have e:(c==32)=false:=by simpa using g3
        have e':decide (c=32)=false:=by simpa using g3
        rw [e'] at ih
        simpa [g1,g2,g3,e] using ih
theorem bqb (s:BA):∀ (r:List Int) (b:Bool),onL (wX s b r) (fun a=>if (!a.2)=true then some (decide ((a.1.size:Int)≤(64:Int))) else some false) (fun a=>some a) (fun _=>none)=some (decide (s.size≤64)&&wB b r)
 | [],b=>by
  have e:decide ((s.size:Int)≤(64:Int))=decide (s.size≤64):=by rw [decide_eq_decide];omega
  cases b<;>simp [wX,wB,onL,e]
 | c::r,b=>by
  simp only [wX,wB]
  split
  · simp [onL]
  · exact bqb s r _
theorem tjb (n:Nat) (s:BA) (hs:s.size≤1000000) (hn:10000000≤n):XI n s=some (jN (bs s)):=by
 have h:=Meb n s hs (bs s) true 0 n (by simp) (by omega) (by rw [ua];omega)
 rw [show ((0:Nat):Int)=0 from rfl] at h
 unfold XI JM
 rw [h,Option.bind_some,bqb,jN,ua]
/-! Letters. -/
theorem Rhb (n:Nat) (s w:BA) (hs:s.size≤1000000) (hw:w.size=s.size):∀ (r q:List Int) (k m:Nat),(bs s).drop k=r→(bs w).drop k=q→k≤s.size→r.length<m→
  ng n m s w s.size k=some (if r.map up=q then .out () else .ret false)
 | [],q,k,m,h,hq,hk,hm=>by
  obtain ⟨m,rfl⟩:∃ q,m=q+1:=⟨m - 1,by omega⟩
  have:=wi h
  have hq0:q=[]:=by
   have h1:=congrArg List.length h
   have h2:=congrArg List.length hq
   rw [List.length_drop,ua] at h1 h2
   cases q with
   | nil=>rfl
   | cons a b=>simp at h1 h2;omega
  subst hq0
  simp [ng,qw,this]
 | c::r,[],k,m,h,hq,hk,hm=>by
  have h1:=congrArg List.length h
  have h2:=congrArg List.length hq
  rw [List.length_drop,ua] at h1 h2
  simp at h1 h2;omega
 | c::r,d::q,k,m,h,hq,hk,hm=>by
  obtain ⟨m,rfl⟩:∃ q,m=q+1:=⟨m - 1,by omega⟩
  obtain ⟨h1,h2,h3,h4,h5⟩:=Zd h
  obtain ⟨q1,q2,q3,_,_⟩:=Zd hq
  have e1:=wr1 (k:=k) (by omega)
  have a3:(0:Int)≤(k:Int):=by omega
  have ih:=Rhb n s w hs hw r q (k+1) m h3 q3 (by omega) (by simpa using hm)
  simp only [ng,qw,h1,h2,q1,q2,a3,e1,List.map_cons,List.cons.injEq]
  by_cases g1:97≤c
  · by_cases g2:c≤122
    · have eu:up c=c - 32:=by unfold up;rw [if_pos ⟨g1,g2⟩]
      have e8:=wr8 (x:=c - 32) (by omega) (by omega)
      rw [eu,e8]
      by_cases g:c - 32=d
      · subst g;simpa [g1,g2] using ih
      · have:(c - 32 !=d)=true:=by simpa using g
        simp [g1,g2,g,this]
    · have eu:up c=c:=by unfold up;rw [if_neg (by omega)]
      rw [eu]
      by_cases g:c=d
      · subst g;simpa [g1,g2] using ih
      · have:(c !=d)=true:=by simpa using g
        simp [g1,g2,g,this]
  · have eu:up c=c:=by unfold up;rw [if_neg (by omega)]
    rw [eu]
    by_cases g:c=d
    · subst g;simpa [g1] using ih
    · have:(c !=d)=true:=by simpa using g
      simp [g1,g,this]
theorem Shb (n:Nat) (s w:BA) (hs:s.size≤1000000) (hn:10000000≤n):AW n s w=some (decide ((bs s).map up=bs w)):=by
 unfold AW aT
 by_cases g:s.size=w.size
 · have h:=Rhb n s w hs g.symm (bs s) (bs w) 0 n (by simp) (by simp) (by omega) (by rw [ua];omega)
   rw [show ((0:Nat):Int)=0 from rfl] at h
   have:((s.size:Int) !=(w.size:Int))=false:=by rw [g];simp
   rw [this,h,Option.bind_some]
   by_cases e:(bs s).map up=bs w
   · simp [e,onL]
   · simp [e,onL]
 · have:((s.size:Int) !=(w.size:Int))=true:=by simp only [bne_iff_ne];omega
   rw [if_pos this]
   have:¬(bs s).map up=bs w:=fun e=>by
    have:=congrArg List.length e
    rw [List.length_map,ua,ua] at this
    exact g this
   simp [this]
/-! Names. -/
def vkd (l:List Int):Int:=if l.map up=[72,69,76,79] then 1 else if l.map up=[69,72,76,79] then 2 else if l.map up=[77,65,73,76] then 3 else if l.map up=[82,67,80,84] then 4 else
 if l.map up=[68,65,84,65] then 5 else if l.map up=[82,83,69,84] then 6 else if l.map up=[78,79,79,80] then 7 else if l.map up=[81,85,73,84] then 8 else if l.map up=[86,82,70,89] then 9 else 0
theorem Ci (n m:Nat) (s:BA) (hs:s.size≤1000000) (hn:10000000≤n) (k:Int) (hk:k≤9) (w:BA) (l:List Int) (hl:bs w=l) (hw:EW n k=some w) (k':Int) (hk':IntKind.wrap .i64 (k+1)=k'):
  Fc n (m+1) s k=if (bs s).map up=l then some (.ret k) else Fc n m s k':=by
 subst hl
 simp only [Fc,pw,hk,hw,hk',Option.bind_some,Shb n s w hs hn,decide_true,if_true,decide_eq_true_eq]
theorem Cmb (n:Nat) (s:BA) (hs:s.size≤1000000) (hn:10000000≤n):uG n s=some (vkd (bs s)):=by
 have key:∃ x,Fc n n s 1=some x∧onL x (fun _=>some (0:Int)) (fun a=>some a) (fun _=>none)=some (vkd (bs s)):=by
  obtain ⟨m,hm⟩:∃ m,n=m+10:=⟨n - 10,by omega⟩
  have e:Fc n n s 1=Fc n (m+10) s 1:=by rw [←hm]
  rw [e,Ci n _ s hs hn 1 (by omega) (⟨#[72,69,76,79]⟩:BA) [72,69,76,79] rfl rfl 2 (by rfl),Ci n _ s hs hn 2 (by omega) (⟨#[69,72,76,79]⟩:BA) [69,72,76,79] rfl rfl 3 (by rfl),
   Ci n _ s hs hn 3 (by omega) (⟨#[77,65,73,76]⟩:BA) [77,65,73,76] rfl rfl 4 (by rfl),Ci n _ s hs hn 4 (by omega) (⟨#[82,67,80,84]⟩:BA) [82,67,80,84] rfl rfl 5 (by rfl),
   Ci n _ s hs hn 5 (by omega) (⟨#[68,65,84,65]⟩:BA) [68,65,84,65] rfl rfl 6 (by rfl),Ci n _ s hs hn 6 (by omega) (⟨#[82,83,69,84]⟩:BA) [82,83,69,84] rfl rfl 7 (by rfl),
   Ci n _ s hs hn 7 (by omega) (⟨#[78,79,79,80]⟩:BA) [78,79,79,80] rfl rfl 8 (by rfl),Ci n _ s hs hn 8 (by omega) (⟨#[81,85,73,84]⟩:BA) [81,85,73,84] rfl rfl 9 (by rfl),
   Ci n _ s hs hn 9 (by omega) (⟨#[86,82,70,89]⟩:BA) [86,82,70,89] rfl rfl 10 (by rfl)]
  have last:Fc n (m+1) s 10=some (.out ()):=by simp [Fc,pw]
  rw [last]
  unfold vkd
  repeat' split
  all_goals exact ⟨_,rfl,rfl⟩
 obtain ⟨x,h1,h2⟩:=key
 unfold uG ZS
 rw [h1,Option.bind_some]
 exact h2
/-! What follows a word. -/
theorem od (n:Nat) (b:Bool) (e:Int):Ea n b e=some (if b=true then .ok () else .error e):=by
 unfold Ea bT
 cases b<;>rfl
theorem cab {l w:List Int} {f:Int→Int} (h:(l.take w.length).map f=w):w.length≤l.length:=by
 have:=congrArg List.length h
 rw [List.length_map,List.length_take] at this
 omega
theorem fbb (s:BA) (k:Nat):bs (s.extract 0 k)=(bs s).take k:=by rw [Mg,List.drop_zero]
theorem qN (s:BA) (k:Nat):bs (s.extract k s.size)=(bs s).drop k:=by rw [Mg,←ua,List.take_length]
theorem kK (s:BA) (i j:Nat):(s.extract i j).size≤s.size:=by
 rw [←ua,Mg,List.length_drop,List.length_take,ua];omega
theorem Q0 (n:Nat) (s w:BA) (hs:s.size≤1000000) (hn:10000000≤n):Xg n s w=some (if ((bs s).take w.size).map up=bs w then .ok (s.extract w.size s.size) else .error 8):=by
 unfold Xg GM
 by_cases g:w.size≤s.size
 · have e1:decide ((s.size:Int)≥(w.size:Int))=true:=decide_eq_true (by omega)
   have e2:0≤(w.size:Int)∧(w.size:Int)≤(s.size:Int):=⟨by omega,by omega⟩
   have hl:=Shb n (s.extract (Int.toNat 0) (Int.toNat (w.size:Int))) w (by have:=kK s (Int.toNat 0) (Int.toNat (w.size:Int));omega) hn
   have hx:bs (s.extract (Int.toNat 0) (Int.toNat (w.size:Int)))=(bs s).take w.size:=fbb s w.size
   rw [hx] at hl
   rw [if_pos e1,if_pos e2,hl,Option.bind_some,od,Option.bind_some]
   by_cases h:((bs s).take w.size).map up=bs w
   · rw [if_pos h,decide_eq_true h,if_pos rfl]
     simp only [onX,if_pos e2,Int.toNat_natCast]
   · rw [if_neg h,decide_eq_false h]
     rfl
 · have e1:decide ((s.size:Int)≥(w.size:Int))=false:=decide_eq_false (by omega)
   have h:¬((bs s).take w.size).map up=bs w:=fun h=>by
    rw [←ua w] at h
    have:=cab h
    rw [ua,ua] at this;omega
   rw [if_neg h,if_neg (by rw [e1];simp),od]
   rfl
theorem Zib (n:Nat) (s:BA):Da n s (⟨#[32]⟩:BA)=some (if (bs s).head?=some 32 then s.extract 1 s.size else s):=by
 have hp:ne n s (⟨#[32]⟩:BA)=some (decide ((bs s).head?=some 32)):=by
  have:=si n s (⟨#[32]⟩:BA) (c:=32) rfl
  unfold Lb kh at this
  cases h:ne n s (⟨#[32]⟩:BA) with
  | none=>rw [h] at this;cases this
  | some b=>rw [h] at this;exact this
 have h1:(⟨#[32]⟩:BA).size=1:=rfl
 unfold Da nj Ai Bi
 rw [hp,Option.bind_some]
 by_cases g:(bs s).head?=some 32
 · have hz:1≤s.size:=by
    rw [←ua]
    cases hb:bs s with
    | nil=>rw [hb] at g;cases g
    | cons a b=>simp
   have e2:0≤((⟨#[32]⟩:BA).size:Int)∧((⟨#[32]⟩:BA).size:Int)≤(s.size:Int):=⟨by omega,by omega⟩
   rw [decide_eq_true g,if_pos rfl,if_pos e2,if_pos g]
   rfl
 · rw [decide_eq_false g,if_neg (by simp),if_neg g]
   rfl
def le (l:List Int):List Int:=if l.head?=some 32 then l.drop 1 else l
theorem Yib (s:BA):bs (if (bs s).head?=some 32 then s.extract 1 s.size else s)=le (bs s):=by
 unfold le
 split
 · exact qN s 1
 · rfl
open Go Go.RowKit
theorem Nhb (n:Nat) (s:BA) (hs:s.size≤1000000) (c:Int):∀ (j m:Nat),j≤s.size→j<m→c ∉ (bs s).drop j→
  ∃ x,Ba n m s c ((j:Int) - 1)=some x∧(x=.out ()∧c ∉ bs s∨∃ k:Nat,x=.ret (k:Int)∧k<(bs s).length∧(bs s)[k]?=some c∧c ∉ (bs s).drop (k+1))
 | 0,m,hj,hm,hc=>by
  obtain ⟨m,rfl⟩:∃ q,m=q+1:=⟨m - 1,by omega⟩
  exact ⟨.out (),by simp [Ba,Ka],.inl ⟨rfl,by simpa using hc⟩⟩
 | j+1,m,hj,hm,hc=>by
  obtain ⟨m,rfl⟩:∃ q,m=q+1:=⟨m - 1,by omega⟩
  have hlt:j<(bs s).length:=by rw [ua];omega
  obtain ⟨d,hd⟩:∃ d,(bs s)[j]?=some d:=⟨(bs s)[j],by simp [hlt]⟩
  have hb:=gbb hd
  have e0:((j+1:Nat):Int) - 1=(j:Int):=by omega
  have a1:(0:Int)≤(j:Int):=by omega
  have a2:(j:Int)<(s.size:Int):=by omega
  have w1:IntKind.wrap .i64 ((j:Int) - 1)=(j:Int) - 1:=wr (by omega) (by omega)
  rw [e0]
  by_cases g:d=c
  · subst g
    exact ⟨.ret (j:Int),by simp [Ba,Ka,a1,a2,hb],.inr ⟨j,rfl,hlt,hd,hc⟩⟩
  · have hdr:(bs s).drop j=d::(bs s).drop (j+1):=by
     rw [List.drop_eq_getElem_cons hlt]
     have:(bs s)[j]=d:=by
      have:=List.getElem?_eq_getElem hlt
      rw [hd] at this;exact (Option.some.inj this).symm
     rw [this]
    obtain ⟨x,h1,h2⟩:=Nhb n s hs c j m (by omega) (by omega) (by rw [hdr];simp only [List.mem_cons,not_or];exact ⟨fun e=>g e.symm,hc⟩)
    have hdc:(d==c)=false:=by simpa using g
    exact ⟨x,by simpa [Ba,Ka,a1,a2,hb,hdc,w1] using h1,h2⟩
theorem Emb (n:Nat) (s:BA) (hs:s.size≤1000000) (hn:10000000≤n):∃ i,td n s 62=some i∧Oob (bs s) i:=by
 have w1:IntKind.wrap .i64 ((s.size:Int) - 1)=(s.size:Int) - 1:=wr (by omega) (by omega)
 obtain ⟨x,h1,h2⟩:=Nhb n s hs 62 s.size n (Nat.le_refl _) (by omega) (by rw [←ua,List.drop_length];simp)
 unfold td xf Qb qc
 rw [w1,h1]
 rcases h2 with ⟨rfl,h3⟩ | ⟨k,rfl,h3⟩
 · exact ⟨-1,rfl,.inl ⟨rfl,h3⟩⟩
 · exact ⟨k,rfl,.inr ⟨k,rfl,h3⟩⟩
/-! Paths. -/
theorem Xlb (n:Nat) (s:BA) (hs:s.size≤400000) (hn:10000000≤n):match g6 (bs s) with
  | none=>UB n s=some (Ubb,false,false,())∧BG n s=some (Ubb,false,8,())
  | some v=>∃ p1 p2,UB n s=some ((p1,(p2,())),v.1,true,())∧BG n s=some ((p1,(p2,())),v.1,0,())∧bs p1=v.2.1∧bs p2=v.2.2:=by
 have hz:bs (⟨#[60,62]⟩:BA)=[60,62]:=rfl
 unfold UB EL BG oJ g6
 by_cases c1:bs s=[60,62]
 · have c1':(s.toList==(⟨#[60,62]⟩:BA).toList)=true:=by rw [gd,hz,decide_eq_true c1]
   rw [if_pos c1',if_pos c1',if_pos c1]
   exact ⟨_,_,rfl,rfl,rfl,rfl⟩
 have c1':¬(s.toList==(⟨#[60,62]⟩:BA).toList)=true:=by rw [gd,hz,decide_eq_false c1];simp
 rw [if_neg c1',if_neg c1',if_neg c1]
 by_cases c2:decide ((s.size:Int)<(2:Int))=false
 · rw [if_pos c2,if_pos c2]
   have hz:¬((s.size:Int)<2):=of_decide_eq_false c2
   have w:IntKind.wrap .i64 ((s.size:Int) - 1)=(s.size:Int) - 1:=wr (by omega) (by omega)
   have c3:0≤(0:Int)∧(0:Int)<(s.size:Int):=⟨by omega,by omega⟩
   obtain ⟨d,hd1,hd2⟩:=JG (s:=s) (by omega)
   obtain ⟨e,he1,he2⟩:=R0 (s:=s) (by omega)
   have he2':bt s ((s.size:Int) - 1)=e:=by rw [←he2];congr 1;omega
   rw [w,if_pos c3,if_pos c3]
   by_cases c4:d=60
   · have c4':((bt s (0:Int)) !=(60:Int))=false:=by rw [hd2,c4];rfl
     rw [if_pos c4',if_pos c4']
     have c5:0≤(s.size:Int) - 1∧(s.size:Int) - 1<(s.size:Int):=⟨by omega,by omega⟩
     rw [if_pos c5,if_pos c5]
     by_cases c6:e=62
     · have c6':¬((bt s ((s.size:Int) - 1)) !=(62:Int))=true:=by rw [he2',c6];simp
       rw [if_neg c6',if_neg c6',if_pos ⟨by rw [ua];omega,by rw [hd1,c4],by rw [he1,c6]⟩]
       have c7:0≤(s.size:Int) - 1∧(s.size:Int) - 1≤(s.size:Int):=⟨by omega,by omega⟩
       have c8:0≤(1:Int)∧(1:Int)≤(s.size:Int) - 1:=⟨by omega,by omega⟩
       rw [if_pos c7,if_pos c8,if_pos c7,if_pos c8]
       have hi:bs (s.extract (Int.toNat (1:Int)) (Int.toNat ((s.size:Int) - 1)))=Oq (bs s):=by
        rw [←BS]
        congr 2
        omega
       have ht:(s.extract (Int.toNat (1:Int)) (Int.toNat ((s.size:Int) - 1))).size≤400000:=by
        have:=kK s (Int.toNat (1:Int)) (Int.toNat ((s.size:Int) - 1));omega
       have hP:=zdb n _ ht hn
       have hR:=Fib n _ ht hn
       rw [←ieb] at hR
       rw [hi] at hP hR
       cases hv:iib (Oq (bs s)) with
       | none=>
        rw [hv] at hP hR
        simp only [Mab] at hP hR
        rw [hP,hR]
        exact ⟨rfl,rfl⟩
       | some y=>
        rw [hv] at hP hR
        obtain ⟨t1,t2,j1,j2,j3⟩:=hP
        obtain ⟨u1,u2,k1,k2,k3⟩:=hR
        have x1:u1=t1:=dhb (k2.trans j2.symm)
        have x2:u2=t2:=dhb (k3.trans j3.symm)
        subst x1 x2
        rw [j1,k1]
        exact ⟨u1,u2,rfl,rfl,k2,k3⟩
     · have c6':((bt s ((s.size:Int) - 1)) !=(62:Int))=true:=by rw [he2'];simpa using c6
       rw [if_pos c6',if_pos c6',if_neg (fun hh=>c6 (by rw [he1] at hh;exact Option.some.inj hh.2.2))]
       exact ⟨rfl,rfl⟩
   · have c4':¬((bt s (0:Int)) !=(60:Int))=false:=by rw [hd2];simpa using c4
     rw [if_neg c4',if_neg c4',if_neg (fun hh=>c4 (by rw [hd1] at hh;exact Option.some.inj hh.2.1))]
     exact ⟨rfl,rfl⟩
 · rw [if_neg c2,if_neg c2,if_neg (fun hh=>by
    rw [ua] at hh
    have:((s.size:Int)<2):=by simpa using c2
    omega)]
   exact ⟨rfl,rfl⟩
/-! Digits. -/
theorem Keb (n:Nat) (s:BA) (hs:s.size≤10):∀ (r:List Int) (k m:Nat) (v:Int),(bs s).drop k=r→k≤s.size→r.length<m→0≤v→v<10^k→je n m s v s.size k=some (if r.all dig=true then .out (mS v r) else .pan 8)
 | [],k,m,v,h,hk,hm,h0,hv=>by
  obtain ⟨m,rfl⟩:∃ q,m=q+1:=⟨m - 1,by simp at hm;omega⟩
  have:=wi h
  simp [je,sq,this,mS]
 | c::r,k,m,v,h,hk,hm,h0,hv=>by
  obtain ⟨m,rfl⟩:∃ q,m=q+1:=⟨m - 1,by simp at hm;omega⟩
  obtain ⟨h1,h2,h3,h4,h5⟩:=Zd h
  have e1:=wr1 (k:=k) (by omega)
  have a3:(0:Int)≤(k:Int):=by omega
  have hp:(10:Int)^k≤10^16:=by
   have:(10:Nat)^k≤10^16:=Nat.pow_le_pow_right (by decide) (by omega)
   exact_mod_cast this
  have hp2:(10:Int)^16=10000000000000000:=by decide
  by_cases hd:dig c=true
  · have hc:48≤c∧c≤57:=by simpa [dig] using hd
    have ih:=Keb n s hs r (k+1) m (10*v+(c - 48)) h3 (by omega) (by simpa using hm) (by omega) (by rw [Int.pow_succ];omega)
    have b1:c≥48:=by omega
    have w1:=wr8 (x:=c - 48) (by omega) (by omega)
    have w2:=wr (x:=c - 48) (by omega) (by omega)
    have w3:=wr (x:=10*v) (by omega) (by omega)
    have w4:=wr (x:=10*v+(c - 48)) (by omega) (by omega)
    simp only [je,sq,h1,h2,a3,e1,b1,hc.2,w1,w2,w3,w4,od,List.all_cons,hd,Bool.true_and,mS,decide_true]
    simpa [onX] using ih
  · have hd':dig c=false:=by simpa using hd
    simp only [je,sq,h1,h2,a3,e1,od,List.all_cons,hd',Bool.false_and]
    by_cases b1:c≥48
    · have b2:¬c≤57:=by simp [dig] at hd';omega
      simp [b1,b2,onX]
    · simp [b1,onX]
def dnb (w:List Int):Bool:=decide (1≤w.length)&&decide (w.length≤10)&&w.all dig&&decide (mS 0 w≤1073741824)
theorem cnb (l:List Int):kW l=if l=[] then some (-1) else if (l.take 6).map up=[32,83,73,90,69,61]∧dnb (l.drop 6)=true then some (mS 0 (l.drop 6)) else none:=by
 unfold kW dnb
 by_cases h0:l=[]
 · rw [if_pos h0,if_pos h0]
 · rw [if_neg h0,if_neg h0]
   simp only [Bool.and_eq_true,decide_eq_true_eq,and_assoc]
theorem nlb (n:Nat) (s:BA) (hs:s.size≤1000000) (hn:10000000≤n):vG n s=some (match kW (bs s) with
  | some z=>.ok z
  | none=>.error 8):=by
 rw [cnb]
 unfold vG fT
 have e0:bs (⟨#[]⟩:BA)=[]:=rfl
 have e6:bs (⟨#[32,83,73,90,69,61]⟩:BA)=[32,83,73,90,69,61]:=rfl
 have z6:(⟨#[32,83,73,90,69,61]⟩:BA).size=6:=rfl
 rw [gd,e0]
 by_cases h0:bs s=[]
 · rw [if_pos h0,if_pos (decide_eq_true h0)]
 · rw [if_neg h0,if_neg (by simpa using h0),Q0 n s _ hs hn,e6,z6]
   by_cases h1:((bs s).take 6).map up=[32,83,73,90,69,61]
   · rw [if_pos h1,Option.bind_some]
     simp only [onX,true_and,h1]
     have ht:bs (s.extract 6 s.size)=(bs s).drop 6:=qN s 6
     generalize s.extract 6 s.size=t at ht
     rw [←ht]
     unfold dnb
     rw [ua]
     by_cases c1:1≤t.size
     · have e1:decide ((t.size:Int)≥(1:Int))=true:=decide_eq_true (by omega)
       rw [if_pos e1,od]
       by_cases c2:t.size≤10
       · have e2:decide ((t.size:Int)≤(10:Int))=true:=decide_eq_true (by omega)
         have h:=Keb n t c2 (bs t) 0 n 0 (by simp) (by omega) (by rw [ua];omega) (by omega) (by decide)
         rw [show ((0:Nat):Int)=0 from rfl] at h
         rw [e2]
         simp only [if_true,Option.bind_some,h]
         by_cases g:(bs t).all dig=true
         · rw [if_pos g]
           by_cases g2:mS 0 (bs t)≤1073741824
           · simp [onL,od,c1,c2,g,g2]
           · simp [onL,od,c1,c2,g,g2]
         · have g':(bs t).all dig=false:=by simpa using g
           simp [onL,g']
       · have e2:decide ((t.size:Int)≤(10:Int))=false:=decide_eq_false (by omega)
         rw [e2]
         simp [c2]
     · have e1:¬decide ((t.size:Int)≥(1:Int))=true:=by simp;omega
       rw [if_neg e1,od]
       simp [c1]
   · rw [if_neg h1,Option.bind_some,if_neg (fun hh=>h1 hh.1)]
     rfl
/-! Where a path ends. -/
open Go Go.RowKit
abbrev Vb:=Int×(BA×(Bool×((BA×(BA×Unit))×(Int×Unit))))
def vL (k:Int) (w:List Int) (nl:Bool) (a b:List Int) (z:Int):Bool:=
 if k=1 then (!nl&&(decide (a=[])&&(decide (b=[])&&decide (z=0))))&&Hw w
 else if k=2 then (!nl&&(decide (a=[])&&(decide (b=[])&&decide (z=0))))&&Hw w
 else if k=3 then decide (w=[])&&((if nl=true then decide (a=[])&&decide (b=[]) else CF a&&Hw b)&&(decide (-1≤z)&&decide (z≤1073741824)))
 else if k=4 then (decide (w=[])&&(decide (z=0)&&!nl))&&(CF a&&Hw b)
 else if k=7 then (!nl&&(decide (a=[])&&(decide (b=[])&&decide (z=0))))&&(jN w || decide (w=[]))
 else if k=9 then (!nl&&(decide (a=[])&&(decide (b=[])&&decide (z=0))))&&jN w
 else if k=5 then decide (w=[])&&(!nl&&(decide (a=[])&&(decide (b=[])&&decide (z=0))))
 else if k=6 then decide (w=[])&&(!nl&&(decide (a=[])&&(decide (b=[])&&decide (z=0))))
 else if k=8 then decide (w=[])&&(!nl&&(decide (a=[])&&(decide (b=[])&&decide (z=0))))
 else false
theorem e0s:bs (⟨#[]⟩:BA)=[]:=rfl
theorem dc (l:List Int):decide ([]=l)=decide (l=[]):=by rw [decide_eq_decide];exact eq_comm
theorem eb (z:Int):((0:Int)==z)=decide (z=0):=by
 by_cases h:z=0
 · subst h;rfl
 · rw [decide_eq_false h];simpa using fun e=>h e.symm
theorem znb (n:Nat) (k:Int) (w a b:BA) (nl:Bool) (z:Int) (hw:w.size≤1000000) (ha:a.size≤100000) (hb:b.size≤100000) (hn:10000000≤n):
  Wg n (k,(w,(nl,((a,(b,())),(z,())))))=some (vL k (bs w) nl (bs a) (bs b) z):=by
 have hd:=Iw n w hw hn
 rw [xD] at hd
 have hm:=Oab n a b ha hb hn
 have hwd:=tjb n w hw hn
 have g1:decide (z≥ -1)=decide (-1≤z):=rfl
 unfold Wg J5 nab cT vL
 simp only [ja,fa]
 by_cases k1:k=1
 · subst k1
   simp only [hd,Option.bind_some,gd,e0s,dc,eb,Bool.and_assoc]
   cases Hw (bs w)<;>cases nl<;>simp [e0s,dc,eb,Bool.and_assoc]
 by_cases k2:k=2
 · subst k2
   simp only [hd,Option.bind_some,gd,e0s,dc,eb,Bool.and_assoc]
   cases Hw (bs w)<;>cases nl<;>simp [e0s,dc,eb,Bool.and_assoc]
 by_cases k3:k=3
 · subst k3
   simp only [hm,Option.bind_some,gd,e0s,dc,eb,g1]
   cases nl
   · by_cases q:(CF (bs a)&&Hw (bs b))=true
     · by_cases z1: -1≤z<;>by_cases z2:z≤1073741824<;>simp [q,z1,z2,e0s,dc,eb,Bool.and_assoc]
     · have q':(CF (bs a)&&Hw (bs b))=false:=by simpa using q
       simp [q',e0s,dc,eb,Bool.and_assoc]
   · by_cases z1: -1≤z<;>by_cases z2:z≤1073741824<;>simp [z1,z2,e0s,dc,eb,Bool.and_assoc]
 by_cases k4:k=4
 · subst k4
   simp only [hm,Option.bind_some,gd,e0s,dc,eb,Bool.and_assoc]
   by_cases q:(CF (bs a)&&Hw (bs b))=true
   · cases nl<;>simp [q,e0s,dc,eb,Bool.and_assoc]
   · have q':(CF (bs a)&&Hw (bs b))=false:=by simpa using q
     simp [q',e0s,dc,eb,Bool.and_assoc]
 by_cases k7:k=7
 · subst k7
   simp only [hwd,Option.bind_some,gd,e0s,dc,eb,Bool.and_assoc]
   by_cases q:jN (bs w)=true
   · cases nl<;>simp [q,e0s,dc,eb,Bool.and_assoc]
   · have q':jN (bs w)=false:=by simpa using q
     by_cases ew:bs w=[]
     · cases nl<;>simp [q',ew,e0s,dc,eb,Bool.and_assoc]
     · simp [q',ew,e0s,dc,eb,Bool.and_assoc]
 by_cases k9:k=9
 · subst k9
   simp only [hwd,Option.bind_some,gd,e0s,dc,eb,Bool.and_assoc]
   by_cases q:jN (bs w)=true
   · cases nl<;>simp [q,e0s,dc,eb,Bool.and_assoc]
   · have q':jN (bs w)=false:=by simpa using q
     by_cases ew:bs w=[]
     · have q2:jN []=false:=by rw [←ew];exact q'
       simp [q2,q',ew,e0s,dc,eb,Bool.and_assoc]
     · simp [q',ew,e0s,dc,eb,Bool.and_assoc]
 by_cases k5:k=5
 · subst k5
   simp only [Option.bind_some,gd,e0s,dc,eb,Bool.and_assoc]
   cases nl<;>simp [e0s,dc,eb,Bool.and_assoc]
 by_cases k6:k=6
 · subst k6
   simp only [Option.bind_some,gd,e0s,dc,eb,Bool.and_assoc]
   cases nl<;>simp [e0s,dc,eb,Bool.and_assoc]
 by_cases k8:k=8
 · subst k8
   simp only [Option.bind_some,gd,e0s,dc,eb,Bool.and_assoc]
   cases nl<;>simp [e0s,dc,eb,Bool.and_assoc]
 have c:∀ q:Int,k≠q→(k==q)=false:=fun q h=>by simpa using h
 simp [c 1 k1,c 2 k2,c 3 k3,c 4 k4,c 5 k5,c 6 k6,c 7 k7,c 8 k8,c 9 k9,k1,k2,k3,k4,k5,k6,k7,k8,k9,e0s,dc,eb,Bool.and_assoc]
open Go Go.RowKit
/-! Numbers as texts. -/
open Go Go.RowKit
noncomputable def rdM (n:Nat) (v2:Int) (t:BA):Option (Except Int Vb):=
 if (v2==(3:Int))=true then
  (Xg n t (⟨#[32,70,82,79,77,58]⟩:BA)).bind fun x_2=>onX x_2 (fun p1=>
  some (Except.error p1)) (fun v3=>
  (Zm n v3).bind fun x_3=>onX x_3 (fun p2=>
  some (Except.error p2)) (fun v4=>
  (vG n v4.2.2.1).bind fun x_4=>onX x_4 (fun p3=>
  some (Except.error p3)) (fun v5=>
  (Wg n (v2,((⟨#[]⟩:BA),(v4.2.1,((v4.1.1,(v4.1.2.1,())),(v5,())))))).bind fun v6=>
  (Ea n v6 (8:Int)).bind fun x_5=>onX x_5 (fun p4=>
  some (Except.error p4)) (fun v7=>
  some (Except.ok (v2,((⟨#[]⟩:BA),(v4.2.1,((v4.1.1,(v4.1.2.1,())),(v5,()))))))))))
 else
  if (v2==(4:Int))=true then
  (Xg n t (⟨#[32,84,79,58]⟩:BA)).bind fun x_6=>onX x_6 (fun p5=>
   some (Except.error p5)) (fun v8=>
  (Zm n v8).bind fun x_7=>onX x_7 (fun p6=>
   some (Except.error p6)) (fun v9=>
  (Ea n (v9.2.2.1.toList==(⟨#[]⟩:BA).toList) (8:Int)).bind fun x_8=>onX x_8 (fun p7=>
   some (Except.error p7)) (fun v10=>
  (Wg n (v2,((⟨#[]⟩:BA),(v9.2.1,((v9.1.1,(v9.1.2.1,())),((0:Int),())))))).bind fun v11=>
  (Ea n v11 (8:Int)).bind fun x_9=>onX x_9 (fun p8=>
   some (Except.error p8)) (fun v12=>
  some (Except.ok (v2,((⟨#[]⟩:BA),(v9.2.1,((v9.1.1,(v9.1.2.1,())),((0:Int),()))))))))))
  else
  if (v2==(1:Int))=true then
   (Da n t (⟨#[32]⟩:BA)).bind fun v13=>
   (Dc n v13).bind fun v14=>
   (Ea n (v14.2.1==(0:Int)) (8:Int)).bind fun x_10=>onX x_10 (fun p9=>
   some (Except.error p9)) (fun v15=>
   (Wg n (v2,(v14.1,(false,(((⟨#[]⟩:BA),((⟨#[]⟩:BA),())),((0:Int),())))))).bind fun v16=>
   (Ea n v16 (8:Int)).bind fun x_11=>onX x_11 (fun p10=>
   some (Except.error p10)) (fun v17=>
   some (Except.ok (v2,(v14.1,(false,(((⟨#[]⟩:BA),((⟨#[]⟩:BA),())),((0:Int),()))))))))
  else
   if (v2==(2:Int))=true then
   (Da n t (⟨#[32]⟩:BA)).bind fun v18=>
   (Dc n v18).bind fun v19=>
   (Ea n (v19.2.1==(0:Int)) (8:Int)).bind fun x_12=>onX x_12 (fun p11=>
    some (Except.error p11)) (fun v20=>
   (Wg n (v2,(v19.1,(false,(((⟨#[]⟩:BA),((⟨#[]⟩:BA),())),((0:Int),())))))).bind fun v21=>
   (Ea n v21 (8:Int)).bind fun x_13=>onX x_13 (fun p12=>
    some (Except.error p12)) (fun v22=>
   some (Except.ok (v2,(v19.1,(false,(((⟨#[]⟩:BA),((⟨#[]⟩:BA),())),((0:Int),()))))))))
   else
   (Ea n (!(t.toList==(⟨#[32]⟩:BA).toList)) (8:Int)).bind fun x_14=>onX x_14 (fun p13=>
    some (Except.error p13)) (fun v23=>
   (Da n t (⟨#[32]⟩:BA)).bind fun v24=>
   (Wg n (v2,(v24,(false,(((⟨#[]⟩:BA),((⟨#[]⟩:BA),())),((0:Int),())))))).bind fun v25=>
   (Ea n v25 (8:Int)).bind fun x_15=>onX x_15 (fun p14=>
    some (Except.error p14)) (fun v26=>
   some (Except.ok (v2,(v24,(false,(((⟨#[]⟩:BA),((⟨#[]⟩:BA),())),((0:Int),()))))))))
abbrev Cnd:=List Int×(Bool×(List Int×(List Int×Int)))
def Qbb (t:List Int):Option Cnd:=match g6 (t.take (pe 0 t)),kW (t.drop (pe 0 t)) with
 | some v,some z=>some ([],(v.1,(v.2.1,(v.2.2,z))))
 | _,_=>none
def Onb (k:Int) (r:List Int):Option Cnd:=
 if k=3 then (if (r.take 6).map up=[32,70,82,79,77,58] then Qbb (le (r.drop 6)) else none)
 else if k=4 then (if (r.take 4).map up=[32,84,79,58] then (g6 (le (r.drop 4))).map fun v=>([],(v.1,(v.2.1,(v.2.2,0)))) else none)
 else if k=1 then some ((le r).map low,(false,([],([],0))))
 else if k=2 then some ((le r).map low,(false,([],([],0))))
 else if r=[32] then none else some (le r,(false,([],([],0))))
def okC (k:Int) (c:Option Cnd):Option Cnd:=c.bind fun x=>if vL k x.1 x.2.1 x.2.2.1 x.2.2.2.1 x.2.2.2.2=true then some x else none
def Vob (k:Int) (e:Option (Except Int Vb)) (c:Option Cnd):Prop:=match c with
 | none=>e=some (.error 8)
 | some x=>∃ w a b:BA,e=some (.ok (k,(w,(x.2.1,((a,(b,())),(x.2.2.2.2,()))))))∧bs w=x.1∧bs a=x.2.2.1∧bs b=x.2.2.2.1
theorem dab (l:List Int):(le l).length≤l.length:=by
 unfold le;split
 · simp
 · exact Nat.le_refl _
theorem nib {t:List Int} {v:Bool×List Int×List Int} (h:g6 t=some v):v.2.1.length≤2*t.length+2∧v.2.2.length≤t.length:=by
 unfold g6 at h
 split at h
 · cases h;simp
 · split at h
   · obtain ⟨y,hy,rfl⟩:=Option.map_eq_some_iff.1 h
     unfold iib at hy
     obtain ⟨x,h1,h2⟩:=Option.bind_eq_some_iff.1 hy
     have hi:(Oq t).length≤t.length:=by unfold Oq;rw [List.length_drop,List.length_take];omega
     obtain ⟨l1,l2⟩:=Thb h1
     split at h2
     · cases h2
       simp only [List.length_map,List.length_drop]
       omega
     · cases h2
   · cases h
theorem Jeb (n:Nat) (u:BA) (hs:u.size≤20000) (hn:10000000≤n):∃ i,Oob (le (bs u)) i∧
  ((0≤i∧∃ v p1 p2 r,g6 ((le (bs u)).take (i.toNat+1))=some v∧Zm n u=some (.ok ((p1,(p2,())),(v.1,(r,()))))∧bs p1=v.2.1∧bs p2=v.2.2∧bs r=(le (bs u)).drop (i.toNat+1))∨
   (¬(0≤i∧∃ v,g6 ((le (bs u)).take (i.toNat+1))=some v)∧Zm n u=some (.error 8))):=by
 have ht:=Yib u
 have hz:(if (bs u).head?=some 32 then u.extract 1 u.size else u).size≤20000:=by
  split
  · have:=kK u 1 u.size;omega
  · exact hs
 have htr:=Zib n u
 generalize (if (bs u).head?=some 32 then u.extract 1 u.size else u)=t at ht hz htr
 rw [←ht]
 obtain ⟨i,h1,h2⟩:=Emb n t (by omega) hn
 refine ⟨i,h2,?_⟩
 unfold Zm dT
 rw [htr,Option.bind_some,h1,Option.bind_some,od,Option.bind_some]
 rcases h2 with ⟨rfl,_⟩ | ⟨k,rfl,h3,_,_⟩
 · exact .inr ⟨fun hh=>by omega,rfl⟩
 · have hk:(k:Int)≥0:=by omega
   rw [ua] at h3
   have e1:=wr1 (k:=k) (by omega)
   have e2:0≤((k+1:Nat):Int)∧((k+1:Nat):Int)≤(t.size:Int):=⟨by omega,by omega⟩
   have hx:bs (t.extract (Int.toNat 0) (Int.toNat ((k+1:Nat):Int)))=(bs t).take ((k:Int).toNat+1):=fbb t (k+1)
   have hP:=Xlb n (t.extract (Int.toNat 0) (Int.toNat ((k+1:Nat):Int))) (by have:=kK t (Int.toNat 0) (Int.toNat ((k+1:Nat):Int));omega) hn
   rw [hx] at hP
   rw [decide_eq_true hk,if_pos rfl]
   simp only [onX,e1,if_pos e2]
   cases hv:g6 ((bs t).take ((k:Int).toNat+1)) with
   | none=>
    rw [hv] at hP
    refine .inr ⟨fun ⟨_,v,hv'⟩=>(by cases hv'),?_⟩
    rw [hP.2,Option.bind_some,od]
    rfl
   | some v=>
    rw [hv] at hP
    obtain ⟨p1,p2,_,q1,q2,q3⟩:=hP
    refine .inl ⟨hk,v,p1,p2,t.extract (k+1) t.size,rfl,?_,q2,q3,qN t (k+1)⟩
    rw [q1,Option.bind_some,od]
    rfl
theorem Elb {k:Int} {w:List Int} {nl:Bool} {a b:List Int} {z:Int} (h:vL k w nl a b z=false):okC k (some (w,(nl,(a,(b,z)))))=none:=by
 simp [okC,h]
theorem Jmb {k:Int} {w:List Int} {nl:Bool} {a b:List Int} {z:Int} (h:vL k w nl a b z=true):okC k (some (w,(nl,(a,(b,z)))))=some (w,(nl,(a,(b,z)))):=by
 simp [okC,h]
theorem mob (n:Nat) (k:Int) (t:BA) (hs:t.size≤20000) (hn:10000000≤n):Vob k (rdM n k t) (okC k (Onb k (bs t))):=by
 have fin:∀ (w a b:BA) (nl:Bool) (z:Int),w.size≤1000000→a.size≤100000→b.size≤100000→Vob k ((Wg n (k,(w,(nl,((a,(b,())),(z,())))))).bind fun v6=>(Ea n v6 (8:Int)).bind fun x=>onX x (fun p=>some (Except.error p)) (fun _=>some (Except.ok (k,(w,(nl,((a,(b,())),(z,())))))))) (okC k (some (bs w,(nl,(bs a,(bs b,z)))))):=fun w a b nl z h1 h2 h3=>by
  rw [znb n k w a b nl z h1 h2 h3 hn,Option.bind_some,od,Option.bind_some]
  cases hv:vL k (bs w) nl (bs a) (bs b) z with
  | true=>rw [Jmb hv];exact ⟨w,a,b,rfl,rfl,rfl,rfl⟩
  | false=>rw [Elb hv];rfl
 have z0:(⟨#[]⟩:BA).size=0:=rfl
 unfold rdM Onb
 by_cases k3:k=3
 · subst k3
   have e6:bs (⟨#[32,70,82,79,77,58]⟩:BA)=[32,70,82,79,77,58]:=rfl
   have z6:(⟨#[32,70,82,79,77,58]⟩:BA).size=6:=rfl
   rw [if_pos (show ((3:Int)==3)=true from rfl),if_pos (rfl:(3:Int)=3),Q0 n t _ (by omega) hn,e6,z6,Option.bind_some]
   by_cases h1:((bs t).take 6).map up=[32,70,82,79,77,58]
   · rw [if_pos h1,if_pos h1]
     simp only [onX]
     have hu:bs (t.extract 6 t.size)=(bs t).drop 6:=qN t 6
     have huz:(t.extract 6 t.size).size≤20000:=by have:=kK t 6 t.size;omega
     generalize t.extract 6 t.size=u at hu huz
     rw [←hu]
     have hlen:(le (bs u)).length≤20000:=by have:=dab (bs u);rw [ua] at this;omega
     obtain ⟨i,hi,⟨h0,v,p1,p2,r,g1,g2,g3,g4,g5⟩ | ⟨hno,g2⟩⟩:=Jeb n u huz hn
     · obtain ⟨l1,l2⟩:=nib g1
       rw [List.length_take] at l1 l2
       have hrz:r.size≤1000000:=by rw [←ua,g5,List.length_drop];omega
       rw [g2,Option.bind_some]
       simp only
       rw [nlb n r hrz hn,Option.bind_some,g5]
       cases hz:kW ((le (bs u)).drop (i.toNat+1)) with
       | none=>
        have:Qbb (le (bs u))=none:=by
         unfold Qbb
         cases q1:g6 ((le (bs u)).take (pe 0 (le (bs u)))) with
         | none=>rfl
         | some v'=>
          cases q2:kW ((le (bs u)).drop (pe 0 (le (bs u)))) with
          | none=>rfl
          | some z'=>
           have:=(gU hi (v:=v') (z:=z')).2 ⟨q1,q2⟩
           rw [hz] at this
           exact absurd this.2.2 (by simp)
        rw [this]
        rfl
       | some z=>
        obtain ⟨q1,q2⟩:=(gU hi (v:=v) (z:=z)).1 ⟨h0,g1,hz⟩
        have:Qbb (le (bs u))=some ([],(v.1,(v.2.1,(v.2.2,z)))):=by unfold Qbb;rw [q1,q2]
        rw [this]
        have f:=fin (⟨#[]⟩:BA) p1 p2 v.1 z (by omega) (by rw [←ua,g3];omega) (by rw [←ua,g4];omega)
        rw [g3,g4,e0s] at f
        exact f
     · rw [g2,Option.bind_some]
       have:Qbb (le (bs u))=none:=by
        unfold Qbb
        cases q1:g6 ((le (bs u)).take (pe 0 (le (bs u)))) with
        | none=>rfl
        | some v'=>
         cases q2:kW ((le (bs u)).drop (pe 0 (le (bs u)))) with
         | none=>rfl
         | some z'=>
          have:=(gU hi (v:=v') (z:=z')).2 ⟨q1,q2⟩
          exact absurd ⟨this.1,v',this.2.1⟩ hno
       rw [this]
       rfl
   · rw [if_neg h1,if_neg h1]
     rfl
 have c3:(k==3)=false:=by simpa using k3
 rw [if_neg (by rw [c3];simp),if_neg k3]
 by_cases k4:k=4
 · subst k4
   have e4:bs (⟨#[32,84,79,58]⟩:BA)=[32,84,79,58]:=rfl
   have z4:(⟨#[32,84,79,58]⟩:BA).size=4:=rfl
   rw [if_pos (show ((4:Int)==4)=true from rfl),if_pos (rfl:(4:Int)=4),Q0 n t _ (by omega) hn,e4,z4,Option.bind_some]
   by_cases h1:((bs t).take 4).map up=[32,84,79,58]
   · rw [if_pos h1,if_pos h1]
     simp only [onX]
     have hu:bs (t.extract 4 t.size)=(bs t).drop 4:=qN t 4
     have huz:(t.extract 4 t.size).size≤20000:=by have:=kK t 4 t.size;omega
     generalize t.extract 4 t.size=u at hu huz
     rw [←hu]
     have hlen:(le (bs u)).length≤20000:=by have:=dab (bs u);rw [ua] at this;omega
     have whole:∀ v i,Oob (le (bs u)) i→g6 (le (bs u))=some v→0≤i∧(le (bs u)).drop (i.toNat+1)=[]∧(le (bs u)).take (i.toNat+1)=le (bs u):=fun v i hi hv=>by
      obtain ⟨_,hl,hne⟩:=acb hv []
      generalize le (bs u)=l at hi hl hne
      have hpos:0<l.length:=List.length_pos_iff.2 hne
      rw [List.getLast?_eq_getElem?] at hl
      rcases hi with ⟨_,h⟩ | ⟨q,rfl,hq1,hq2,hq3⟩
      · exact absurd (List.mem_of_getElem? hl) h
      · have:q=l.length - 1:=by
         rcases Nat.lt_or_ge q (l.length - 1) with g | g
         · exfalso
           apply hq3
           have:(l.drop (q+1))[l.length - 1 - (q+1)]?=some 62:=by
            rw [List.getElem?_drop,show q+1+(l.length - 1 - (q+1))=l.length - 1 by omega];exact hl
           exact List.mem_of_getElem? this
         · omega
        refine ⟨by omega,List.drop_eq_nil_of_le (by omega),List.take_of_length_le (by omega)⟩
     obtain ⟨i,hi,⟨h0,v,p1,p2,r,g1,g2,g3,g4,g5⟩ | ⟨hno,g2⟩⟩:=Jeb n u huz hn
     · obtain ⟨l1,l2⟩:=nib g1
       rw [List.length_take] at l1 l2
       rw [g2,Option.bind_some]
       simp only
       rw [od,gd,g5,e0s,Option.bind_some]
       by_cases hd:(le (bs u)).drop (i.toNat+1)=[]
       · have htk:(le (bs u)).take (i.toNat+1)=le (bs u):=by
          have:=List.take_append_drop (i.toNat+1) (le (bs u))
          rw [hd,List.append_nil] at this;exact this
         rw [htk] at g1
         rw [g1,decide_eq_true hd,if_pos rfl]
         have f:=fin (⟨#[]⟩:BA) p1 p2 v.1 0 (by omega) (by rw [←ua,g3];omega) (by rw [←ua,g4];omega)
         rw [g3,g4,e0s] at f
         exact f
       · cases hv:g6 (le (bs u)) with
         | none=>rw [decide_eq_false hd];rfl
         | some v'=>exact absurd (whole v' i hi hv).2.1 hd
     · rw [g2,Option.bind_some]
       cases hv:g6 (le (bs u)) with
       | none=>rfl
       | some v'=>
        obtain ⟨w1,w2,w3⟩:=whole v' i hi hv
        exact absurd ⟨w1,v',by rw [w3];exact hv⟩ hno
   · rw [if_neg h1,if_neg h1]
     rfl
 have c4:(k==4)=false:=by simpa using k4
 rw [if_neg (by rw [c4];simp),if_neg k4]
 have ht:=Yib t
 have hz:(if (bs t).head?=some 32 then t.extract 1 t.size else t).size≤20000:=by
  split
  · have:=kK t 1 t.size;omega
  · exact hs
 have htr:=Zib n t
 generalize (if (bs t).head?=some 32 then t.extract 1 t.size else t)=u at ht hz htr
 have dom:(k=1∨k=2)→Vob k ((Dc n u).bind fun v14=>(Ea n (v14.2.1==(0:Int)) (8:Int)).bind fun x_10=>onX x_10 (fun p9=>some (Except.error p9)) (fun v15=>
   (Wg n (k,(v14.1,(false,(((⟨#[]⟩:BA),((⟨#[]⟩:BA),())),((0:Int),())))))).bind fun v16=>(Ea n v16 (8:Int)).bind fun x_11=>onX x_11 (fun p10=>some (Except.error p10)) (fun v17=>
   some (Except.ok (k,(v14.1,(false,(((⟨#[]⟩:BA),((⟨#[]⟩:BA),())),((0:Int),()))))))))) (okC k (some ((le (bs t)).map low,(false,([],([],0)))))):=fun hk=>by
  obtain ⟨q,q1,q2⟩:=Sgb n u (by omega) hn
  rw [←ht]
  have hqz:q.size≤20000:=by rw [←ua,q1,List.length_map,ua];exact hz
  rw [q2,Option.bind_some,od]
  by_cases hd:Hw ((bs u).map low)=true
  · rw [if_pos hd]
    have f:=fin q (⟨#[]⟩:BA) (⟨#[]⟩:BA) false 0 (by omega) (by omega) (by omega)
    rw [q1,e0s] at f
    exact f
  · rw [if_neg hd]
    have hd':Hw ((bs u).map low)=false:=by simpa using hd
    have:vL k ((bs u).map low) false [] [] 0=false:=by
     rcases hk with rfl | rfl<;>simp [vL,hd']
    rw [Elb this]
    rfl
 by_cases k1:k=1
 · subst k1
   rw [if_pos (show ((1:Int)==1)=true from rfl),if_pos (rfl:(1:Int)=1),htr,Option.bind_some]
   exact dom (.inl rfl)
 have c1:(k==1)=false:=by simpa using k1
 rw [if_neg (by rw [c1];simp),if_neg k1]
 by_cases k2:k=2
 · subst k2
   rw [if_pos (show ((2:Int)==2)=true from rfl),if_pos (rfl:(2:Int)=2),htr,Option.bind_some]
   exact dom (.inr rfl)
 have c2:(k==2)=false:=by simpa using k2
 rw [if_neg (by rw [c2];simp),if_neg k2,od,gd]
 have e32:bs (⟨#[32]⟩:BA)=[32]:=rfl
 rw [e32]
 by_cases hsp:bs t=[32]
 · rw [if_pos hsp,decide_eq_true hsp]
   rfl
 · rw [if_neg hsp,decide_eq_false hsp]
   simp only [Bool.not_false,if_true,Option.bind_some,onX,htr]
   have f:=fin u (⟨#[]⟩:BA) (⟨#[]⟩:BA) false 0 (by omega) (by omega) (by omega)
   rw [ht,e0s] at f
   exact f
open Go Go.RowKit
theorem sjb (n:Nat) (e:Int):Ea n false e=some (.error e):=by rw [od];rfl
theorem Bnb (n:Nat) (e:Int):Ea n true e=some (.ok ()):=by rw [od];rfl
def Dpb:Vb:=((0:Int),((⟨#[]⟩:BA),(false,(((⟨#[]⟩:BA),((⟨#[]⟩:BA),())),((0:Int),())))))
def PV (l:List Int):Except Int (Int×Cnd):=
 if vkd (l.take 4)=0∨(4<l.length∧l[4]?≠some 32) then .error 3
 else match okC (vkd (l.take 4)) (Onb (vkd (l.take 4)) (l.drop 4)) with
  | none=>.error 8
  | some x=>.ok (vkd (l.take 4),x)
def Res (e:Option (Vb×Int×Unit)) (p:Except Int (Int×Cnd)):Prop:=match p with
 | .error c=>e=some (Dpb,(c,()))
 | .ok y=>∃ w a b:BA,e=some ((y.1,(w,(y.2.2.1,((a,(b,())),(y.2.2.2.2.2,()))))),(0,()))∧bs w=y.2.1∧bs a=y.2.2.2.1∧bs b=y.2.2.2.2.1
theorem rjb (l:List Int):vkd l=0∨1≤vkd l∧vkd l≤9∧l.length=4:=by
 have hl:∀ w:List Int,w.length=4→l.map up=w→l.length=4:=fun w h1 h2=>by rw [←h1,←h2,List.length_map]
 unfold vkd
 repeat' split
 all_goals first
  | exact .inl rfl
  | (rename_i h;exact .inr ⟨by omega,by omega,hl _ rfl h⟩)
def Ylb (e:Option (Except Int Vb)) (p:Except Int (Int×Cnd)):Prop:=match p with
 | .error c=>e=some (.error c)
 | .ok y=>∃ w a b:BA,e=some (.ok (y.1,(w,(y.2.2.1,((a,(b,())),(y.2.2.2.2.2,()))))))∧bs w=y.2.1∧bs a=y.2.2.2.1∧bs b=y.2.2.2.2.1
theorem mlb (n:Nat) (s:BA) (hs:s.size≤20000) (hn:10000000≤n):Ylb (QZ n s) (PV (bs s)):=by
 have hkd:=Cmb n (s.extract (Int.toNat (0:Int)) (Int.toNat (4:Int))) (by have:=kK s (Int.toNat (0:Int)) (Int.toNat (4:Int));omega) hn
 have hx:bs (s.extract (Int.toNat (0:Int)) (Int.toNat (4:Int)))=(bs s).take 4:=fbb s 4
 rw [hx] at hkd
 have main:vkd ((bs s).take 4)≠0→Ylb (rdM n (vkd ((bs s).take 4)) (s.extract (Int.toNat (4:Int)) (Int.toNat (s.size:Int)))) (match okC (vkd ((bs s).take 4)) (Onb (vkd ((bs s).take 4)) ((bs s).drop 4)) with
  | none=>.error 8
  | some x=>.ok (vkd ((bs s).take 4),x)):=fun _=>by
  have h:=mob n (vkd ((bs s).take 4)) (s.extract (Int.toNat (4:Int)) (Int.toNat (s.size:Int))) (by have:=kK s (Int.toNat (4:Int)) (Int.toNat (s.size:Int));omega) hn
  have hx:bs (s.extract (Int.toNat (4:Int)) (Int.toNat (s.size:Int)))=(bs s).drop 4:=qN s 4
  rw [hx] at h
  cases hc:okC (vkd ((bs s).take 4)) (Onb (vkd ((bs s).take 4)) ((bs s).drop 4)) with
  | none=>rw [hc] at h;exact h
  | some x=>rw [hc] at h;exact h
 generalize hk:vkd ((bs s).take 4)=q at hkd main
 unfold PV
 rw [hk]
 unfold QZ eT
 by_cases h4:4≤s.size
 · have c1:decide ((s.size:Int)≥(4:Int))=true:=decide_eq_true (by omega)
   have c2:0≤(4:Int)∧(4:Int)≤(s.size:Int):=⟨by omega,by omega⟩
   rw [if_pos c1,if_pos c2,hkd,Option.bind_some]
   rcases rjb ((bs s).take 4) with h0 | ⟨h1,h2,_⟩
   · rw [hk] at h0
     subst h0
     rw [if_neg (by simp),sjb,Option.bind_some,if_pos (Or.inl rfl)]
     rfl
   · rw [hk] at h1 h2
     have hq:decide (q>(0:Int))=true:=decide_eq_true (by omega)
     rw [if_pos hq]
     by_cases h5:s.size=4
     · have c5:¬((s.size:Int)==(4:Int))=false:=by rw [h5];decide
       have np:¬(q=0∨(4<(bs s).length∧(bs s)[4]?≠some 32)):=by rw [ua];omega
       rw [if_neg np,if_neg c5,Bnb,Option.bind_some]
       simp only [onX]
       rw [if_pos c2,Option.bind_some,if_pos c2]
       exact main (by omega)
     · have c5:((s.size:Int)==(4:Int))=false:=by simp only [beq_eq_false_iff_ne];omega
       have c6:0≤(4:Int)∧(4:Int)<(s.size:Int):=⟨by omega,by omega⟩
       have hlt:4<(bs s).length:=by rw [ua];omega
       obtain ⟨c,hc⟩:∃ c,(bs s)[4]?=some c:=⟨(bs s)[4],by simp [hlt]⟩
       have hb:bt s (4:Int)=c:=gbb (k:=4) hc
       rw [if_pos c5,if_pos c6,od,hb,Option.bind_some,hc]
       by_cases h32:c=32
       · subst h32
         have np:¬(q=0∨(4<(bs s).length∧(some 32:Option Int)≠some 32)):=fun hh=>hh.elim (fun h=>by omega) (fun h=>h.2 rfl)
         rw [if_neg np,if_pos (show ((32:Int)==32)=true from rfl)]
         simp only [onX]
         rw [if_pos c2,Option.bind_some,if_pos c2]
         exact main (by omega)
       · have e:¬(c==(32:Int))=true:=by simpa using h32
         have np:q=0∨(4<(bs s).length∧some c≠some 32):=.inr ⟨hlt,by simpa using h32⟩
         rw [if_neg e,if_pos np]
         rfl
 · have c1:¬decide ((s.size:Int)≥(4:Int))=true:=by simp;omega
   have h0:q=0:=by
    rcases rjb ((bs s).take 4) with h0 | ⟨_,_,h2⟩
    · rw [hk] at h0;exact h0
    · rw [List.length_take,ua] at h2;omega
   rw [if_neg c1,sjb,Option.bind_some,if_pos (Or.inl h0)]
   rfl
theorem bjb (n:Nat) (s:BA) (hs:s.size≤20000) (hn:10000000≤n):Res (TI n s) (PV (bs s)):=by
 have h:=mlb n s hs hn
 unfold TI PC
 cases hp:PV (bs s) with
 | error c=>rw [hp] at h;simp only [Ylb] at h;rw [h];rfl
 | ok y=>
  rw [hp] at h
  obtain ⟨w,a,b,h1,h2,h3,h4⟩:=h
  rw [h1]
  exact ⟨w,a,b,rfl,h2,h3,h4⟩
open Go Go.RowKit
abbrev zs:BA:=(⟨#[]⟩:BA)
open Go Go.RowKit
open Go Go.RowKit
end Go.Proofs.YtdohilmgblkppaaGreatDoor.AM
