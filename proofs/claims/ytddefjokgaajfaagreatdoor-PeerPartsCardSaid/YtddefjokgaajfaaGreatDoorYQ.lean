/- Strings as lists of numbers: what the typed functions do to them. -/
import Derived.Test.YtddefjokgaajfaaGreatDoorYA
import Derived.Lib.Strings
import Derived.Lib.Bytealg
import Derived.IntWalk
import Derived.Test.YtddefjokgaajfaaGreatDoorYF4
import Derived.Lib.ItoaNum
import Derived.Test.YtddefjokgaajfaaGreatDoorYB2
set_option linter.all false
set_option linter.unusedVariables false
set_option linter.unusedSimpArgs false
namespace Go.Proofs.YtddefjokgaajfaaGreatDoor.AM
open Go
def bs (s:BA):List Int:=s.data.toList.map fun c=>(c.toNat:Int)
theorem za (s:BA):(bs s).length=s.size:=by simp [bs,ByteArray.size_data]
theorem iM:∀ {a b:List UInt8},(a.map fun c=>(c.toNat:Int))=(b.map fun c=>(c.toNat:Int))→a=b
 | [],[],_=>rfl
 | [],_::_,h=>by simp at h
 | _::_,[],h=>by simp at h
 | x::xs,y::ys,h=>by
  simp only [List.map_cons,List.cons.injEq] at h
  rw [iM h.2,UInt8.toNat_inj.1 (by have:=h.1;omega:x.toNat=y.toNat)]
theorem JK {a b:BA} (h:bs a=bs b):a=b:=by
 have:=iM h
 exact ByteArray.ext (Array.toList_inj.1 this)
theorem dx (a b:BA):(a.toList==b.toList)=decide (bs a=bs b):=by
 rw [Lib.toList_data,Lib.toList_data]
 by_cases h:bs a=bs b
 · rw [decide_eq_true h,JK h];simp
 · rw [decide_eq_false h]
   have:a.data.toList≠b.data.toList:=fun e=>h (by unfold bs;rw [e])
   simpa using this
theorem Zn (a b:BA):bs (a++b)=bs a++bs b:=by simp [bs,ByteArray.data_append]
theorem Ah (a:BA) (i j:Nat):bs (a.extract i j)=((bs a).take j).drop i:=by
 simp [bs,ByteArray.data_extract,List.map_drop,List.map_take,List.extract,List.drop_take]
theorem jT {s:BA} {c:Int} (h:c∈bs s):0≤c∧c<256:=by
 simp only [bs,List.mem_map] at h
 obtain ⟨x,_,rfl⟩:=h
 have:=x.toNat_lt
 omega
theorem NZ {s:BA} {k:Nat} {c:Int} (h:(bs s)[k]?=some c):bt s (k:Int)=c:=by
 have hl:k<s.size:=by have:=(List.getElem?_eq_some_iff.1 h).1;rwa [za] at this
 unfold bt
 rw [dif_pos (by simpa using hl)]
 simp only [bs,List.getElem?_map] at h
 rw [Array.getElem?_toList,Array.getElem?_eq_getElem (by rwa [ByteArray.size_data])] at h
 simp at h
 exact h
theorem Rh {s:BA} {k:Nat} {c:Int} {r:List Int} (h:(bs s).drop k=c::r):(k:Int)<(s.size:Int)∧bt s (k:Int)=c∧(bs s).drop (k+1)=r∧0≤c∧c<256:=by
 have h1:(bs s)[k]?=some c:=by
  have:=congrArg (fun l=>l[0]?) h
  simpa using this
 have hl:k<s.size:=by have:=(List.getElem?_eq_some_iff.1 h1).1;rwa [za] at this
 refine ⟨by omega,NZ h1,?_,jT (List.mem_of_getElem? h1)⟩
 rw [←List.drop_drop,h];rfl
theorem pp {s:BA} {k:Nat} (h:(bs s).drop k=[]):¬((k:Int)<(s.size:Int)):=by
 have:=List.drop_eq_nil_iff.1 h
 rw [za] at this
 omega
theorem wr {x:Int} (h1: -9223372036854775808≤x) (h2:x≤9223372036854775807):IntKind.wrap .i64 x=x:=by
 rw [IntKind.wrap_i64]
 omega
theorem wr1 {k:Nat} (h:k<4611686018427387904):IntKind.wrap .i64 ((k:Int)+1)=((k+1:Nat):Int):=by
 rw [wr (by omega) (by omega)];rfl
theorem DQ:∀ (l:List Int) (r:BA),(∀ x∈l,0≤x∧x<256)→bs (l.foldl (fun r c=>r.push (UInt8.ofNat c.toNat)) r)=bs r++l
 | [],r,_=>by simp
 | x::l,r,h=>by
  rw [List.foldl_cons,DQ l _ fun y hy=>h y (List.mem_cons_of_mem _ hy)]
  have hx:=h x List.mem_cons_self
  have:bs (r.push (UInt8.ofNat x.toNat))=bs r++[x]:=by
   have e:(UInt8.ofNat x.toNat).toNat=x.toNat:=by simp [UInt8.toNat_ofNat'];omega
   simp [bs,ByteArray.push,e]
   omega
  rw [this];simp
theorem kH {n:Nat} {f:Nat→Int} (h:∀ i,i<n→0≤f i∧f i<256):bs (Oh n f)=(List.range n).map f:=by
 unfold Oh
 rw [DQ _ _ fun x hx=>by
  simp only [List.mem_map,List.mem_range] at hx
  obtain ⟨i,hi,rfl⟩:=hx
  exact h i hi]
 rfl
def idx (c:Int):List Int→Int
 | []=> -1
 | b::l=>if b=c then 0 else if idx c l= -1 then -1 else idx c l+1
theorem y6 {c:Int} (h0:0≤c) (h1:c<256):∀ l:List UInt8,Lib.indexByte l (Nat.toUInt8 (Int.toNat c))=idx c (l.map fun c=>(c.toNat:Int))
 | []=>rfl
 | b::l=>by
  have e:(Nat.toUInt8 (Int.toNat c)).toNat=c.toNat:=by simp [Nat.toUInt8,UInt8.toNat_ofNat'];omega
  simp only [Lib.indexByte,List.map_cons,idx,y6 h0 h1 l]
  have hb:(b==Nat.toUInt8 (Int.toNat c))=decide ((b.toNat:Int)=c):=by
   by_cases hh:(b.toNat:Int)=c
   · rw [decide_eq_true hh]
     have:b=Nat.toUInt8 (Int.toNat c):=UInt8.toNat_inj.1 (by rw [e];omega)
     simp [←this]
   · rw [decide_eq_false hh]
     have:b≠Nat.toUInt8 (Int.toNat c):=fun h=>hh (by rw [h,e];omega)
     simpa using this
  rw [hb]
  by_cases hh:(b.toNat:Int)=c<;>simp [hh]
theorem M4 {c:Int} (h0:0≤c) (h1:c<256) (l:List UInt8):Lib.countByte l (Nat.toUInt8 (Int.toNat c))=(l.map fun c=>(c.toNat:Int)).count c:=by
 have e:(Nat.toUInt8 (Int.toNat c)).toNat=c.toNat:=by simp [Nat.toUInt8,UInt8.toNat_ofNat'];omega
 unfold Lib.countByte
 induction l with
 | nil=>rfl
 | cons b l ih=>
  simp only [List.map_cons,List.count_cons,ih]
  by_cases hh:(b.toNat:Int)=c
  · have:b=Nat.toUInt8 (Int.toNat c):=UInt8.toNat_inj.1 (by rw [e];omega)
    simp [hh,←this]
  · have:b≠Nat.toUInt8 (Int.toNat c):=fun h=>hh (by rw [h,e];omega)
    simp [hh,this]
open Go
def sgn (c:Int):Bool:=decide (97≤c)&&decide (c≤122) || decide (48≤c)&&decide (c≤57)
def Sn:List Int:=[33,35,36,37,38,39,42,43,45,47,61,63,94,95,96,123,124,125,126]
def aX (c:Int):Bool:=sgn c || decide (65≤c)&&decide (c≤90) || decide (c∈Sn)
theorem X2 (n:Nat) (c:Int):pF n c=some (sgn c):=by
 unfold pF eH sgn
 by_cases h1:97≤c<;>by_cases h2:c≤122<;>by_cases h3:48≤c<;>by_cases h4:c≤57<;>simp [h1,h2,h3,h4]<;>omega
theorem Ar {c:Int}:∀ l:List Int,(0≤idx c l↔c∈l)∧ -1≤idx c l
 | []=>by simp [idx]
 | b::l=>by
  have:=Ar (c:=c) l
  simp only [idx]
  by_cases h:b=c
  · simp [h]
  · rw [if_neg h]
    have hc:c≠b:=fun e=>h e.symm
    by_cases h2:idx c l= -1
    · rw [if_pos h2]
      have:¬c∈l:=fun hm=>by have:=this.1.2 hm;omega
      simp [hc,this]
    · rw [if_neg h2]
      have h3:0≤idx c l:=by omega
      have:=this.1.1 h3
      constructor
      · constructor
        · intro _;exact List.mem_cons_of_mem _ this
        · intro _;omega
      · omega
theorem QK (n:Nat) (s:BA) {c:Int} (h0:0≤c) (h1:c<256):sg n s c=some (idx c (bs s)):=by
 unfold sg Vn eo Jn
 simp [y6 h0 h1,bs]
theorem zG:bs (⟨#[33,35,36,37,38,39,42,43,45,47,61,63,94,95,96,123,124,125,126]⟩:BA)=Sn:=by decide
theorem Z6 (n:Nat) {c:Int} (h0:0≤c) (h1:c<256):lF n c=some (aX c):=by
 unfold lF JG aX
 rw [X2,QK _ _ h0 h1,zG]
 have:=(Ar (c:=c) Sn).1
 have hd:decide (idx c Sn≥0)=decide (c∈Sn):=by rw [decide_eq_decide];exact this
 cases hs:sgn c<;>by_cases h2:65≤c<;>by_cases h3:c≤90<;>simp [h2,h3,hd]<;>omega
def pl:Nat→List Int→Bool
 | w,[]=>decide (0<w)
 | w,c::r=>if c=46 then (if w=0 then false else pl 0 r) else if aX c=true then pl (w+1) r else false
def plX:Nat→List Int→Lx Int Bool
 | w,[]=>.out w
 | w,c::r=>if c=46 then (if w=0 then .ret false else plX 0 r) else if aX c=true then plX (w+1) r else .ret false
theorem JX (n:Nat) (s:BA) (hs:s.size<4611686018427387904):∀ (r:List Int) (k w m:Nat),(bs s).drop k=r→k≤s.size→w≤k→r.length<m→le n m s w s.size k=some (plX w r)
 | [],k,w,m,h,hk,hw,hm=>by
  obtain ⟨m,rfl⟩:∃ q,m=q+1:=⟨m - 1,by omega⟩
  have:=pp h
  simp [le,Tm,this,plX]
 | c::r,k,w,m,h,hk,hw,hm=>by
  obtain ⟨m,rfl⟩:∃ q,m=q+1:=⟨m - 1,by omega⟩
  obtain ⟨h1,h2,h3,h4,h5⟩:=Rh h
  have ih:=fun w hw=>JX n s hs r (k+1) w m h3 (by omega) hw (by simpa using hm)
  have hk0:(0:Int)≤(k:Int):=by omega
  have e1:=wr1 (k:=k) (by omega)
  have e2:=wr1 (k:=w) (by omega)
  simp only [le,Tm,h1,h2,hk0,Z6 n h4 h5,e1,e2,plX]
  by_cases hc:c=46
  · subst hc
    by_cases hw0:w=0
    · subst hw0;simp
    · have:((w:Int)==0)=false:=by simpa using hw0
      have:=ih 0 (by omega)
      simp_all
  · have hc':(c==46)=false:=by simpa using hc
    cases ha:aX c with
    | true=>simp [hc,hc',ha];exact ih (w+1) (by omega)
    | false=>simp [hc,hc',ha]
theorem S1:∀ (r:List Int) (w:Nat),onL (plX w r) (fun a=>decide (a>(0:Int))) (fun b=>b) (fun _=>false)=pl w r
 | [],w=>by simp [plX,pl,onL]
 | c::r,w=>by
  simp only [plX,pl]
  split
  · split
    · rfl
    · exact S1 r 0
  · split
    · exact S1 r (w+1)
    · rfl
theorem sN:∀ (r:List Int) (w:Nat) (p:Int),plX w r≠.pan p
 | [],w,p=>by simp [plX]
 | c::r,w,p=>by
  simp only [plX]
  split
  · split
    · simp
    · exact sN r 0 p
  · split
    · exact sN r (w+1) p
    · simp
theorem LX (n:Nat) (s:BA) (hs:s.size<4611686018427387904) (hn:s.size<n):Vt n s=some (pl 0 (bs s)):=by
 unfold Vt AC
 have:=JX n s hs (bs s) 0 0 n (by simp) (by omega) (by omega) (by rw [za];exact hn)
 rw [show ((0:Nat):Int)=0 from rfl] at this
 rw [this,Option.bind_some,←S1]
 cases h:plX 0 (bs s) with
 | out a=>rfl
 | ret b=>rfl
 | pan p=>exact absurd h (sN _ _ _)
open Go
def sqL {α β:Type} (f:α→β) (q:Sq α):List β:=(List.range q.n).map fun i=>f (q.at' i)
theorem Nc {α β:Type} (f:α→β) (q:Sq α):(sqL f q).length=q.n:=by simp [sqL]
theorem Ik {α β:Type} {f:α→β} {q:Sq α} {i:Nat} (h:i<q.n):(sqL f q)[i]?=some (f (q.at' i)):=by simp [sqL,h]
theorem eD {α β:Type} (f:α→β) (q:Sq α) (y z:α):sqL f (⟨q.n+1,fun i=>if i<q.n then q.at' i else (fun i=>List.getD [y] i z) (i - q.n)⟩:Sq α)=sqL f q++[f y]:=by
 unfold sqL
 simp only [List.range_succ,List.map_append,List.map_cons,List.map_nil]
 congr 1
 · apply List.map_congr_left
   intro i hi
   simp only [List.mem_range] at hi
   simp [hi]
 · simp
theorem oM {α β:Type} {f:α→β} {q:Sq α} {k:Nat} {x:β} {r:List β} (h:(sqL f q).drop k=x::r):k<q.n∧f (q.at' k)=x∧(sqL f q).drop (k+1)=r:=by
 have h1:(sqL f q)[k]?=some x:=by
  have:=congrArg (fun l=>l[0]?) h
  simpa using this
 have hl:k<q.n:=by have:=(List.getElem?_eq_some_iff.1 h1).1;rwa [Nc] at this
 refine ⟨hl,?_,?_⟩
 · rw [Ik hl] at h1;exact Option.some.inj h1
 · rw [←List.drop_drop,h];rfl
theorem wS {α β:Type} {f:α→β} {q:Sq α} {k:Nat} (h:(sqL f q).drop k=[]):q.n≤k:=by
 have:=List.drop_eq_nil_iff.1 h
 rwa [Nc] at this
theorem uab {n:Nat} (h:n≤4000000):Ta (n+1) 16=true:=by
 unfold Ta
 simp only [Bool.and_eq_true,Nat.ble_eq]
 omega
theorem E9 {n:Nat} (h:n≤4000000):Ta (n+1) 1=true:=by
 unfold Ta
 simp only [Bool.and_eq_true,Nat.ble_eq]
 omega
def Rb (d:Int):List Int→List Int→List (List Int)
 | cur,[]=>[cur]
 | cur,c::r=>if c=d then cur::Rb d [] r else Rb d (cur++[c]) r
theorem jX {s:BA} {f k:Nat} {c:Int} {r:List Int} (h:(bs s).drop k=c::r) (hf:f≤k):bs (s.extract f (k+1))=bs (s.extract f k)++[c]:=by
 rw [Ah,Ah]
 have h1:(bs s)[k]?=some c:=by
  have:=congrArg (fun l=>l[0]?) h
  simpa using this
 have hk:k<(bs s).length:=(List.getElem?_eq_some_iff.1 h1).1
 rw [List.take_add_one,h1]
 rw [List.drop_append_of_le_length (by rw [List.length_take];omega)]
 rfl
theorem fR {s:BA} (k:Nat):bs (s.extract k k)=[]:=by
 rw [Ah]
 simp
theorem KQ (n:Nat) (s:BA) (d:Int) (hs:s.size≤1000000):∀ (r:List Int) (k f m:Nat) (l:Sq BA),(bs s).drop k=r→k≤s.size→f≤k→l.n≤k→r.length+2≤m→
  ∃ q,xe n m s d f k l=some (.out q)∧sqL bs q=sqL bs l++Rb d (bs (s.extract f k)) r
 | [],k,f,m,l,h,hk,hf,hl,hm=>by
  obtain ⟨m,rfl⟩:∃ q,m=q+2:=⟨m - 2,by simp at hm;omega⟩
  have hn:=pp h
  have hks:k=s.size:=by omega
  have e1:=wr1 (k:=k) (by omega)
  have a1:((k:Int)≤(s.size:Int)):=by omega
  have a2:((k:Int)==(s.size:Int))=true:=by rw [hks];simp
  have a3:(0:Int)≤(k:Int):=by omega
  have a4:(0:Int)≤(f:Int):=by omega
  have a5:(f:Int)≤(k:Int):=by omega
  have a6:=uab (n:=l.n) (by omega)
  have a7:¬(((k+1:Nat):Int)≤(s.size:Int)):=by omega
  refine ⟨(⟨(l.n+1),fun q=>if q<l.n then l.at' q else (fun q=>List.getD (α:=BA) [(s.extract f k)] q (Ba .str)) (q - l.n)⟩:Sq BA),?_,?_⟩
  · simp only [xe,Zm,a1,a2,a3,a4,a5,a6,a7,e1]
    simp
  · refine (eD bs l (s.extract f k) _).trans ?_;simp [Rb]
 | c::r,k,f,m,l,h,hk,hf,hl,hm=>by
  obtain ⟨m,rfl⟩:∃ q,m=q+1:=⟨m - 1,by simp at hm;omega⟩
  obtain ⟨h1,h2,h3,h4,h5⟩:=Rh h
  have e1:=wr1 (k:=k) (by omega)
  have a1:((k:Int)≤(s.size:Int)):=by omega
  have a2:((k:Int)==(s.size:Int))=false:=by simp;omega
  have a3:(0:Int)≤(k:Int):=by omega
  have a4:(0:Int)≤(f:Int):=by omega
  have a5:(f:Int)≤(k:Int):=by omega
  have a6:=uab (n:=l.n) (by omega)
  simp only [xe,Zm,a1,a2,a3,a4,a5,a6,h1,h2,e1]
  by_cases hc:c=d
  · subst hc
    obtain ⟨q,hq,hl'⟩:=KQ n s c hs r (k+1) (k+1) m (⟨(l.n+1),fun q=>if q<l.n then l.at' q else (fun q=>List.getD (α:=BA) [(s.extract f k)] q (Ba .str)) (q - l.n)⟩:Sq BA) h3 (by omega) (by omega) (by simp;omega) (by simp at hm;omega)
    refine ⟨q,by simpa using hq,?_⟩
    rw [hl',fR,show sqL bs (⟨(l.n+1),fun q=>if q<l.n then l.at' q else (fun q=>List.getD (α:=BA) [(s.extract f k)] q (Ba .str)) (q - l.n)⟩:Sq BA)=sqL bs l++[bs (s.extract f k)] from eD bs l (s.extract f k) _]
    simp [Rb]
  · have hc':(c==d)=false:=by simpa using hc
    obtain ⟨q,hq,hl'⟩:=KQ n s d hs r (k+1) f m l h3 (by omega) (by omega) (by omega) (by simp at hm;omega)
    refine ⟨q,by simpa [hc'] using hq,?_⟩
    rw [hl',jX h hf]
    simp [Rb,hc]
theorem LQ (n:Nat) (s:BA) (d:Int) (hs:s.size≤1000000) (hn:10000000≤n):∃ q,lu n s d=some q∧sqL bs q=Rb d [] (bs s):=by
 obtain ⟨q,h1,h2⟩:=KQ n s d hs (bs s) 0 0 n (⟨0,fun _=>Ba .str⟩:Sq BA) (by simp) (by omega) (by omega) (Nat.le_refl _) (by rw [za];omega)
 refine ⟨q,?_,by rw [h2,fR];rfl⟩
 unfold lu QC
 rw [show ((0:Nat):Int)=0 from rfl] at h1
 rw [h1];rfl
theorem S0 (n:Nat) (c:Int):Ow n c=some (decide (97≤c)&&decide (c≤122) || decide (65≤c)&&decide (c≤90)):=by
 unfold Ow Zx
 by_cases h1:97≤c<;>by_cases h2:c≤122<;>by_cases h3:65≤c<;>by_cases h4:c≤90<;>simp [h1,h2,h3,h4]<;>omega
theorem fX (n:Nat) (c:Int):qu n c=some (decide (48≤c)&&decide (c≤57)):=by
 unfold qu WC
 by_cases h3:48≤c<;>by_cases h4:c≤57<;>simp [h3,h4]
theorem UX (n:Nat) (s:BA) (c:Int) (hs:s.size≤1000000):∀ (r:List Int) (k m:Nat),(bs s).drop k=r→r.length<m→k≤s.size→ng n m c s k=some (if c∈r then .ret true else .out ())
 | [],k,m,h,hm,hk=>by
  obtain ⟨m,rfl⟩:∃ q,m=q+1:=⟨m - 1,by simp at hm;omega⟩
  have:=pp h
  simp [ng,lr,this]
 | d::r,k,m,h,hm,hk=>by
  obtain ⟨m,rfl⟩:∃ q,m=q+1:=⟨m - 1,by simp at hm;omega⟩
  obtain ⟨h1,h2,h3,h4,h5⟩:=Rh h
  have e1:=wr1 (k:=k) (by omega)
  have a3:(0:Int)≤(k:Int):=by omega
  have ih:=UX n s c hs r (k+1) m h3 (by simpa using hm) (by omega)
  simp only [ng,lr,h1,h2,a3,e1]
  by_cases hc:d=c
  · subst hc;simp
  · have hc':(d==c)=false:=by simpa using hc
    have hc2:¬c=d:=fun e=>hc e.symm
    simpa [hc',hc2] using ih
theorem F5 (n:Nat) (c:Int) (hn:10000000≤n):UJ n c=some (decide (c∈Sn)):=by
 unfold UJ JI
 have h:=UX n (⟨#[33,35,36,37,38,39,42,43,45,47,61,63,94,95,96,123,124,125,126]⟩:BA) c (by decide) _ 0 n rfl (by rw [List.drop_zero,zG];show 19<n;omega) (by decide)
 rw [show ((0:Nat):Int)=0 from rfl,List.drop_zero,zG] at h
 rw [h]
 by_cases hc:c∈Sn<;>simp [hc,onL]
theorem KX (n:Nat) (l:Sq BA) (i:Nat) (hi:i<l.n) (hn:10000000≤n) (hs:(l.at' i).size≤1000000):∀ (r:List Int) (k m:Nat),(bs (l.at' i)).drop k=r→r.length<m→k≤(l.at' i).size→
  Be n m l i k=some (if r.all aX=true then .out (l,(i:Int)) else .ret false)
 | [],k,m,h,hm,hk=>by
  obtain ⟨m,rfl⟩:∃ q,m=q+1:=⟨m - 1,by simp at hm;omega⟩
  have:=pp h
  have a3:(0:Int)≤(i:Int):=by omega
  have a4:(i:Int)<(l.n:Int):=by omega
  simp [Be,dn,this,a3,a4]
 | c::r,k,m,h,hm,hk=>by
  obtain ⟨m,rfl⟩:∃ q,m=q+1:=⟨m - 1,by simp at hm;omega⟩
  obtain ⟨h1,h2,h3,h4,h5⟩:=Rh h
  have e1:=wr1 (k:=k) (by omega)
  have a1:(0:Int)≤(i:Int):=by omega
  have a2:(i:Int)<(l.n:Int):=by omega
  have a3:(0:Int)≤(k:Int):=by omega
  have ih:=KX n l i hi hn hs r (k+1) m h3 (by simpa using hm) (by omega)
  simp only [Be,dn,a1,a2,a3,Int.toNat_natCast,h1,h2,e1,S0,fX,F5 _ _ hn]
  have hat:aX c=((decide (97≤c)&&decide (c≤122) || decide (65≤c)&&decide (c≤90)) || (decide (48≤c)&&decide (c≤57)) || decide (c∈Sn)):=by
   unfold aX sgn
   cases decide (97≤c)<;>cases decide (c≤122)<;>cases decide (65≤c)<;>cases decide (c≤90)<;>cases decide (48≤c)<;>cases decide (c≤57)<;>cases decide (c∈Sn)<;>rfl
  simp only [List.all_cons,hat]
  cases hx:(decide (97≤c)&&decide (c≤122) || decide (65≤c)&&decide (c≤90))<;>cases hy:(decide (48≤c)&&decide (c≤57))<;>cases hz:decide (c∈Sn)<;>first | (simp;done) | (simpa using ih)
def ti (W:List (List Int)):Bool:=W.all fun w=>!w.isEmpty&&w.all aX
theorem WT (n:Nat) (l:Sq BA) (hn:10000000≤n) (hl:l.n≤2000000) (hs:∀ i,i<l.n→(l.at' i).size≤1000000):∀ (W:List (List Int)) (i m:Nat),(sqL bs l).drop i=W→W.length<m→i≤l.n→
  Ae n m l i=some (if ti W=true then .out () else .ret false)
 | [],i,m,h,hm,hi=>by
  obtain ⟨m,rfl⟩:∃ q,m=q+1:=⟨m - 1,by simp at hm;omega⟩
  have:=wS h
  have a4:¬((i:Int)<(l.n:Int)):=by omega
  simp [Ae,bn,a4,ti]
 | w::W,i,m,h,hm,hi=>by
  obtain ⟨m,rfl⟩:∃ q,m=q+1:=⟨m - 1,by simp at hm;omega⟩
  obtain ⟨h1,h2,h3⟩:=oM h
  have e1:=wr1 (k:=i) (by omega)
  have a1:(0:Int)≤(i:Int):=by omega
  have a2:(i:Int)<(l.n:Int):=by omega
  have ih:=WT n l hn hl hs W (i+1) m h3 (by simpa using hm) (by omega)
  have hw:=KX n l i h1 hn (hs i h1) (bs (l.at' i)) 0 n (by simp) (by rw [za];have:=hs i h1;omega) (by omega)
  rw [show ((0:Nat):Int)=0 from rfl,h2] at hw
  simp only [Ae,bn,a1,a2,Int.toNat_natCast,dx,h2,hw]
  rw [show bs (⟨#[]⟩:BA)=[] from rfl]
  cases w with
  | nil=>simp [ti]
  | cons c w=>
   cases ha:(c::w).all aX with
   | false=>simp [ti,ha,onL]
   | true=>
    have:ti ((c::w)::W)=ti W:=by
     unfold ti
     rw [List.all_cons,ha];simp
    simpa [this,onL,e1] using ih
theorem kK (d:Int):∀ (r cur:List Int),(Rb d cur r).length≤r.length+1∧∀ w∈Rb d cur r,w.length≤cur.length+r.length
 | [],cur=>by simp [Rb]
 | c::r,cur=>by
  simp only [Rb]
  split
  · have:=kK d r []
    refine ⟨by simp;omega,fun w hw=>?_⟩
    rcases List.mem_cons.1 hw with rfl | hw
    · omega
    · have:=this.2 w hw;simp at this ⊢;omega
  · have:=kK d r (cur++[c])
    refine ⟨by simp;omega,fun w hw=>?_⟩
    have:=this.2 w hw;simp at this ⊢;omega
theorem sy {q:Sq BA} {s:BA} {d:Int} (h:sqL bs q=Rb d [] (bs s)):q.n≤s.size+1∧∀ i,i<q.n→(q.at' i).size≤s.size:=by
 have h0:=kK d (bs s) []
 rw [za,←h,Nc] at h0
 refine ⟨h0.1,fun i hi=>?_⟩
 have:=h0.2 (bs (q.at' i)) (List.mem_of_getElem? (Ik hi))
 rw [za] at this
 simpa using this
theorem fO (n:Nat) (s:BA) (hs:s.size≤1000000) (hn:10000000≤n):su n s=some (ti (Rb 46 [] (bs s))):=by
 obtain ⟨q,h1,h2⟩:=LQ n s 46 hs hn
 obtain ⟨h3,h4⟩:=sy h2
 have h:=WT n q hn (by omega) (fun i hi=>Nat.le_trans (h4 i hi) hs) _ 0 n rfl (by rw [List.drop_zero,Nc];omega) (by omega)
 rw [show ((0:Nat):Int)=0 from rfl,List.drop_zero,h2] at h
 unfold su YC
 rw [h1,Option.bind_some,h,Option.bind_some]
 cases ti (Rb 46 [] (bs s))<;>rfl
theorem cV (d:Int):∀ (r cur:List Int),cur.all aX=false→ti (Rb d cur r)=false
 | [],cur,h=>by simp [Rb,ti,h]
 | c::r,cur,h=>by
  simp only [Rb]
  split
  · unfold ti;rw [List.all_cons,h];simp
  · exact cV d r (cur++[c]) (by rw [List.all_append,h];rfl)
theorem GS:∀ (r cur:List Int),cur.all aX=true→ti (Rb 46 cur r)=pl cur.length r
 | [],cur,h=>by
  simp only [Rb,pl,ti,List.all_cons,List.all_nil,h]
  cases cur<;>simp
 | c::r,cur,h=>by
  simp only [Rb,pl]
  split
  · rw [show ti (cur::Rb 46 [] r)=((!cur.isEmpty&&cur.all aX)&&ti (Rb 46 [] r)) from rfl,GS r [] rfl,h]
    cases cur<;>simp
  · split
    · rename_i ha
      rw [GS r (cur++[c]) (by rw [List.all_append,h];simp [ha])]
      simp
    · rename_i ha
      exact cV 46 r _ (by rw [List.all_append];simp [ha])
theorem EJ (l:List Int):ti (Rb 46 [] l)=pl 0 l:=GS l [] rfl
open Go
def dig (c:Int):Bool:=decide (48≤c)&&decide (c≤57)
def XU:Int→List Int→Int
 | n,[]=>n
 | n,c::r=>XU (10*n+(c - 48)) r
def okR (w:List Int):Bool:=!w.isEmpty&&decide (w.length≤16)&&!(decide (1<w.length)&&decide (w.head?=some 48))&&w.all dig&&decide (XU 0 w≤255)
def dd3 (u:Nat):List UInt8:=if u<10 then [UInt8.ofNat (48+u)] else if u<100 then [UInt8.ofNat (48+u / 10),UInt8.ofNat (48+u%10)] else [UInt8.ofNat (48+u / 100),UInt8.ofNat (48+u / 10%10),UInt8.ofNat (48+u%10)]
theorem m6 {u:Nat} (h:u<1000):Lib.decDigits u=dd3 u:=by
 unfold dd3
 split
 · rename_i h1;rw [Lib.decDigits_one h1]
 · rename_i h1
   split
   · rename_i h2;rw [Lib.decDigits_two h1 h2]
   · rename_i h2
     rw [Lib.decDigits,dif_neg h1,Lib.decDigits_two (by omega) (by omega)]
     simp only [List.cons_append,List.nil_append]
     congr 3
     omega
def KT (l:List UInt8):List Int:=l.map fun c=>(c.toNat:Int)
theorem q9:∀ v:Fin 256,okR (KT (dd3 v.val))=true:=by decide+kernel
theorem ok1:∀ a:Fin 10,okR [48+(a.val:Int)]=true→Lib.atoiAll [UInt8.ofNat (48+a.val)]=.ok (a.val:Int)∧dd3 a.val=[UInt8.ofNat (48+a.val)]:=by decide+kernel
theorem ok2:∀ a b:Fin 10,okR [48+(a.val:Int),48+(b.val:Int)]=true→Lib.atoiAll [UInt8.ofNat (48+a.val),UInt8.ofNat (48+b.val)]=.ok ((10*a.val+b.val:Nat):Int)∧dd3 (10*a.val+b.val)=[UInt8.ofNat (48+a.val),UInt8.ofNat (48+b.val)]:=by decide+kernel
theorem ok3:∀ a b c:Fin 10,okR [48+(a.val:Int),48+(b.val:Int),48+(c.val:Int)]=true→
  100*a.val+10*b.val+c.val<256∧Lib.atoiAll [UInt8.ofNat (48+a.val),UInt8.ofNat (48+b.val),UInt8.ofNat (48+c.val)]=.ok ((100*a.val+10*b.val+c.val:Nat):Int)∧dd3 (100*a.val+10*b.val+c.val)=[UInt8.ofNat (48+a.val),UInt8.ofNat (48+b.val),UInt8.ofNat (48+c.val)]:=by decide+kernel
theorem J3:∀ (r:List Int) (n:Int),0≤n→r.all dig=true→n≤XU n r∧(∀ m:Int,m≤n→0≤m→∀ k,k≤r.length→m*10^k≤XU n r)
 | [],n,h,_=>⟨by simp [XU],fun m hm h0 k hk=>by
  have:k=0:=by simpa using hk
  subst this;simpa [XU] using hm⟩
 | c::r,n,h,hd=>by
  simp only [List.all_cons,Bool.and_eq_true] at hd
  have hc:48≤c∧c≤57:=by simpa [dig] using hd.1
  have ih:=J3 r (10*n+(c - 48)) (by omega) hd.2
  simp only [XU]
  refine ⟨by have:=ih.1;omega,fun m hm h0 k hk=>?_⟩
  cases k with
  | zero=>have:=ih.1;simp;omega
  | succ k=>
   have:=ih.2 (10*m) (by omega) (by omega) k (by simpa using hk)
   rw [Int.pow_succ]
   have e:m*(10^k*10)=10*m*10^k:=by
    rw [Int.mul_comm (10^k) 10,←Int.mul_assoc,Int.mul_comm m 10]
   rw [e];exact this
def okP (l:List UInt8):Bool:=match Lib.atoiAll l with
 | .ok v=>decide (0≤v)&&decide (v≤255)&&decide (Lib.itoa v=l)
 | _=>false
theorem rJ {c:Int} (h:dig c=true):∃ a:Fin 10,c=48+(a.val:Int):=by
 have hc:48≤c∧c≤57:=by simpa [dig] using h
 exact ⟨⟨(c - 48).toNat,by omega⟩,by simp;omega⟩
theorem NV:∀ {l:List UInt8} {l':List UInt8},KT l=KT l'→l=l':=fun h=>iM h
theorem iR (a:Fin 10):((UInt8.ofNat (48+a.val)).toNat:Int)=48+(a.val:Int):=by
 have:=a.isLt
 simp [UInt8.toNat_ofNat']
 omega
theorem N1 {l:List UInt8} {v:Nat} (hv:v<256) (h1:Lib.atoiAll l=.ok (v:Int)) (h2:dd3 v=l):okP l=true:=by
 unfold okP
 rw [h1]
 have:Lib.itoa (v:Int)=l:=by
  unfold Lib.itoa
  rw [if_neg (by omega)]
  rw [Int.toNat_natCast,m6 (by omega),h2]
 simp [this]
 omega
theorem O9 (l:List UInt8):okP l=okR (KT l):=by
 apply Bool.eq_iff_iff.2
 constructor
 · intro h
   unfold okP at h
   split at h
   · rename_i v hv
     simp only [Bool.and_eq_true,decide_eq_true_eq] at h
     obtain ⟨⟨h0,h1⟩,h2⟩:=h
     obtain ⟨u,rfl⟩:∃ u:Nat,v=(u:Int):=⟨v.toNat,by omega⟩
     have e:l=dd3 u:=by
      rw [←h2,Lib.itoa,if_neg (by omega),Int.toNat_natCast,m6 (by omega)]
     rw [e]
     exact q9 ⟨u,by omega⟩
   · cases h
 · intro h
   have h':=h
   unfold okR at h'
   simp only [Bool.and_eq_true,Bool.not_eq_true',decide_eq_true_eq] at h'
   obtain ⟨⟨⟨⟨h1,h2⟩,h3⟩,h4⟩,h5⟩:=h'
   rcases hl:l with _ | ⟨a,_ | ⟨b,_ | ⟨c,_ | ⟨d,r⟩⟩⟩⟩
   · subst hl;simp [KT] at h1
   · subst hl
     simp only [KT,List.map_cons,List.map_nil,List.all_cons,List.all_nil,Bool.and_true] at h4
     obtain ⟨x,hx⟩:=rJ h4
     have ea:[a]=[UInt8.ofNat (48+x.val)]:=NV (by simp only [KT,List.map_cons,List.map_nil,iR,hx])
     have ho:okR [48+(x.val:Int)]=true:=by simpa [KT,hx] using h
     obtain ⟨p1,p2⟩:=ok1 x ho
     rw [ea]
     exact N1 (by have:=x.isLt;omega) p1 p2
   · subst hl
     simp only [KT,List.map_cons,List.map_nil,List.all_cons,List.all_nil,Bool.and_true,Bool.and_eq_true] at h4
     obtain ⟨x,hx⟩:=rJ h4.1
     obtain ⟨y,hy⟩:=rJ h4.2
     have ea:[a,b]=[UInt8.ofNat (48+x.val),UInt8.ofNat (48+y.val)]:=NV (by simp only [KT,List.map_cons,List.map_nil,iR,hx,hy])
     have ho:okR [48+(x.val:Int),48+(y.val:Int)]=true:=by simpa [KT,hx,hy] using h
     obtain ⟨p1,p2⟩:=ok2 x y ho
     rw [ea]
     exact N1 (by have:=x.isLt;have:=y.isLt;omega) p1 p2
   · subst hl
     simp only [KT,List.map_cons,List.map_nil,List.all_cons,List.all_nil,Bool.and_true,Bool.and_eq_true] at h4
     obtain ⟨x,hx⟩:=rJ h4.1
     obtain ⟨y,hy⟩:=rJ h4.2.1
     obtain ⟨z,hz⟩:=rJ h4.2.2
     have ea:[a,b,c]=[UInt8.ofNat (48+x.val),UInt8.ofNat (48+y.val),UInt8.ofNat (48+z.val)]:=NV (by simp only [KT,List.map_cons,List.map_nil,iR,hx,hy,hz])
     have ho:okR [48+(x.val:Int),48+(y.val:Int),48+(z.val:Int)]=true:=by simpa [KT,hx,hy,hz] using h
     obtain ⟨p0,p1,p2⟩:=ok3 x y z ho
     rw [ea]
     exact N1 p0 p1 p2
   · exfalso
     subst hl
     simp only [KT,List.map_cons,List.length_cons,List.head?_cons,List.all_cons,Bool.and_eq_true] at h3 h4 h5
     have hne:(a.toNat:Int)≠48:=fun e=>by simp [e] at h3
     have ha:48≤(a.toNat:Int)∧(a.toNat:Int)≤57:=by simpa [dig] using h4.1
     simp only [XU] at h5
     have hd:=h4.2
     have hb:48≤(b.toNat:Int)∧(b.toNat:Int)≤57:=by simpa [dig] using hd.1
     have hc:48≤(c.toNat:Int)∧(c.toNat:Int)≤57:=by simpa [dig] using hd.2.1
     have hdd:48≤(d.toNat:Int)∧(d.toNat:Int)≤57:=by simpa [dig] using hd.2.2.1
     have:=(J3 (List.map (fun c:UInt8=>(c.toNat:Int)) r) (10*(10*(10*(10*0+((a.toNat:Int) - 48))+((b.toNat:Int) - 48))+((c.toNat:Int) - 48))+((d.toNat:Int) - 48)) (by omega) hd.2.2.2).1
     omega
theorem wr8 {x:Int} (h1:0≤x) (h2:x<256):IntKind.wrap .u8 x=x:=by
 unfold IntKind.wrap
 simp only [IntKind.bits,IntKind.signed]
 simp
 omega
def b6 (n:Int) (r:List Int):Lx Int (Int×Bool):=if r.all dig=true then .out (XU n r) else .ret (0,false)
theorem ZW (n:Nat) (s:BA) (hs:s.size≤16):∀ (r:List Int) (k m:Nat) (v:Int),(bs s).drop k=r→k≤s.size→r.length<m→0≤v→v<10^k→Lc n m s v k=some (b6 v r)
 | [],k,m,v,h,hk,hm,h0,hv=>by
  obtain ⟨m,rfl⟩:∃ q,m=q+1:=⟨m - 1,by simp at hm;omega⟩
  have:=pp h
  simp [Lc,ei,this,b6,XU]
 | c::r,k,m,v,h,hk,hm,h0,hv=>by
  obtain ⟨m,rfl⟩:∃ q,m=q+1:=⟨m - 1,by simp at hm;omega⟩
  obtain ⟨h1,h2,h3,h4,h5⟩:=Rh h
  have e1:=wr1 (k:=k) (by omega)
  have a3:(0:Int)≤(k:Int):=by omega
  have hp:(10:Int)^k≤10^16:=by
   have:(10:Nat)^k≤10^16:=Nat.pow_le_pow_right (by decide) (by omega)
   exact_mod_cast this
  have hp2:(10:Int)^16=10000000000000000:=by decide
  by_cases hd:dig c=true
  · have hc:48≤c∧c≤57:=by simpa [dig] using hd
    have ih:=ZW n s hs r (k+1) m (10*v+(c - 48)) h3 (by omega) (by simpa using hm) (by omega) (by rw [Int.pow_succ];omega)
    have b1:¬c<48:=by omega
    have b2:¬c>57:=by omega
    have w1:=wr8 (x:=c - 48) (by omega) (by omega)
    have w2:=wr (x:=c - 48) (by omega) (by omega)
    have w3:=wr (x:=10*v) (by omega) (by omega)
    have w4:=wr (x:=10*v+(c - 48)) (by omega) (by omega)
    simp only [Lc,ei,h1,h2,a3,e1,b1,b2,w1,w2,w3,w4]
    have:b6 v (c::r)=b6 (10*v+(c - 48)) r:=by simp only [b6,List.all_cons,hd,Bool.true_and,XU]
    rw [this]
    simpa using ih
  · have:b6 v (c::r)=.ret (0,false):=by simp only [b6,List.all_cons,hd,Bool.false_and];simp
    rw [this]
    by_cases b1:c<48
    · simp [Lc,ei,h1,h2,a3,b1]
    · have b2:c>57:=by simp [dig] at hd;omega
      simp [Lc,ei,h1,h2,a3,b1,b2]
def okV (w:List Int):Bool:=!w.isEmpty&&decide (w.length≤16)&&!(decide (1<w.length)&&decide (w.head?=some 48))&&w.all dig
theorem E4 (n:Nat) (s:BA) (hn:10000000≤n):RC n s=some (if okV (bs s)=true then (XU 0 (bs s),true,()) else (0,false,())):=by
 unfold RC SC okV
 rw [dx,show bs (⟨#[]⟩:BA)=[] from rfl]
 have hlen:=za s
 by_cases he:bs s=[]
 · simp [he]
 · by_cases h16:s.size≤16
   · have hL:=ZW n s h16 (bs s) 0 n 0 (by simp) (by omega) (by rw [hlen];omega) (by omega) (by simp)
     rw [show ((0:Nat):Int)=0 from rfl] at hL
     rw [hL]
     have hX:((some (b6 0 (bs s))).bind fun x_4=>onL x_4 (fun a_5=>some (a_5,(true,()))) (fun a_6=>some (a_6.1,(a_6.2,()))) (fun _=>none))=some (if (bs s).all dig=true then (XU 0 (bs s),true,()) else (0,false,())):=by
      unfold b6
      cases (bs s).all dig<;>rfl
     rw [hX]
     have hne:(bs s).isEmpty=false:=by cases hb:bs s with
      | nil=>exact absurd hb he
      | cons _ _=>rfl
     have g16:¬((s.size:Int)>16):=by omega
     rw [hlen]
     by_cases h1:1<s.size
     · obtain ⟨c,r,hcr⟩:∃ c r,bs s=c::r:=by cases hb:bs s with
        | nil=>exact absurd hb he
        | cons c r=>exact ⟨c,r,rfl⟩
       have hb0:bt s ((0:Nat):Int)=c:=NZ (by rw [hcr];rfl)
       rw [show ((0:Nat):Int)=0 from rfl] at hb0
       have g1:(s.size:Int)>1:=by omega
       have g2:(0:Int)<(s.size:Int):=by omega
       simp only [he,g16,g1,g2,hb0,hne,h1,h16]
       by_cases h48:c=48
       · subst h48;simp [hcr]
       · have:(c==48)=false:=by simpa using h48
         simp [hcr,h48,this]
     · have g1:¬((s.size:Int)>1):=by omega
       simp [he,g16,g1,hne,h1,h16]
   · have g16:(s.size:Int)>16:=by omega
     have:¬(bs s).length≤16:=by omega
     simp [he,g16,this]
theorem Sab (w:List Int):okR w=(okV w&&decide (XU 0 w≤255)):=rfl
open Go
theorem uX:∀ (l:List UInt8) (k:Int),zZ l [46] k=if idx 46 (l.map fun c=>(c.toNat:Int))= -1 then -1 else idx 46 (l.map fun c=>(c.toNat:Int))+k
 | [],k=>by simp [zZ,idx]
 | b::l,k=>by
  have ih:=uX l (k+1)
  have hge:=(Ar (c:=46) (l.map fun c=>(c.toNat:Int))).2
  unfold zZ
  by_cases h:b=46
  · subst h
    have e:idx 46 (((46:UInt8)::l).map fun c=>(c.toNat:Int))=0:=by simp [idx]
    rw [e];simp
  · have h1:¬((b.toNat:Int)=46):=fun e=>h (by
     have:b.toNat=(46:UInt8).toNat:=by show b.toNat=46;omega
     exact UInt8.toNat_inj.1 this)
    have h2:(List.isPrefixOf [(46:UInt8)] (b::l))=false:=by
     simp only [List.isPrefixOf,Bool.and_true]
     simpa using fun e=>h e.symm
    rw [if_neg (by rw [h2];simp),ih,List.map_cons]
    by_cases h3:idx 46 (l.map fun c=>(c.toNat:Int))= -1
    · have e:idx 46 ((b.toNat:Int)::l.map fun c=>(c.toNat:Int))= -1:=by simp only [idx,h1,if_false,h3,if_true]
      rw [e,h3];simp
    · have e:idx 46 ((b.toNat:Int)::l.map fun c=>(c.toNat:Int))=idx 46 (l.map fun c=>(c.toNat:Int))+1:=by simp only [idx,h1,if_false,h3]
      rw [e,if_neg h3,if_neg (by omega)];omega
theorem VW (n:Nat) (s:BA) (hs:s.size≤1000000):Un n s Dom.dot=some (idx 46 (bs s)):=by
 unfold Un iD DE
 rw [if_pos (by omega),Option.bind_some]
 congr 1
 have h:=uX s.data.toList 0
 rw [Int.add_zero] at h
 show zZ s.data.toList [46] 0=_
 rw [h]
 unfold bs
 split
 · rename_i h1;exact h1.symm
 · rfl
theorem dD (d:Int):∀ (l cur:List Int),Rb d cur l=if idx d l= -1 then [cur++l] else (cur++l.take (idx d l).toNat)::Rb d [] (l.drop ((idx d l).toNat+1))
 | [],cur=>by simp [Rb,idx]
 | c::l,cur=>by
  have ih:=dD d l (cur++[c])
  have hge:=(Ar (c:=d) l).2
  by_cases h:c=d
  · have e:idx d (c::l)=0:=by simp [idx,h]
    simp [Rb,h,e]
    simp [idx]
  · by_cases h2:idx d l= -1
    · have e:idx d (c::l)= -1:=by simp [idx,h,h2]
      simp [Rb,h,e,ih,h2]
    · have e:idx d (c::l)=idx d l+1:=by simp [idx,h,h2]
      have e2:(idx d l+1).toNat=(idx d l).toNat+1:=by omega
      have e3:¬(idx d l+1= -1):=by omega
      simp only [Rb,h,e,ih,h2,e2,e3,if_false]
      simp
theorem HT (d:Int):∀ (l:List Int),idx d l<l.length∧(idx d l= -1→l.count d=0)∧(idx d l≠ -1→l.count d=(l.drop ((idx d l).toNat+1)).count d+1)
 | []=>by simp [idx]
 | c::l=>by
  have ih:=HT d l
  have hge:=(Ar (c:=d) l).2
  simp only [idx]
  by_cases h:c=d
  · first | (simp [h];done) | (simp [h];omega)
  · rw [if_neg h]
    have hc:(c==d)=false:=by simpa using h
    by_cases h2:idx d l= -1
    · have:=ih.2.1 h2
      simp [h2,List.count_cons,this,hc]
      omega
    · rw [if_neg h2]
      have e:(idx d l+1).toNat=(idx d l).toNat+1:=by omega
      have:=ih.2.2 h2
      refine ⟨by simp;omega,fun h=>by omega,fun _=>?_⟩
      rw [e,List.count_cons,this]
      simp [hc]
theorem TM (n:Nat) (N:Nat) (hN:N≤1000000):∀ (c i m:Nat) (s:BA) (a:Sq BA),s.size≤1000000→(bs s).count 46=c→i+c=N→a.n=N+1→c<m→
  ∃ s' a',Tb n m s Dom.dot 0 N i a=some (.out (s',(N:Int),a'))∧a'.n=N+1∧(∀ j,j<i→a'.at' j=a.at' j)∧
   ∃ P:List (List Int),Rb 46 [] (bs s)=P++[bs s']∧P.length=c∧∀ j w,P[j]?=some w→bs (a'.at' (i+j))=w
 | 0,i,m,s,a,hs,hc,hi,ha,hm=>by
  obtain ⟨m,rfl⟩:∃ q,m=q+1:=⟨m - 1,by omega⟩
  have hiN:i=N:=by omega
  subst hiN
  refine ⟨s,a,?_,ha,fun _ _=>rfl,[],?_,rfl,fun j w h=>by simp at h⟩
  · simp [Tb,uh]
  · have hx:idx 46 (bs s)= -1:=by
     have:=HT 46 (bs s)
     have hge:=(Ar (c:=46) (bs s)).2
     refine Classical.byContradiction fun h=>?_
     have:=this.2.2 h
     omega
    rw [dD,if_pos hx];rfl
 | c+1,i,m,s,a,hs,hc,hi,ha,hm=>by
  obtain ⟨m,rfl⟩:∃ q,m=q+1:=⟨m - 1,by omega⟩
  have hlt:=HT 46 (bs s)
  have hge:=(Ar (c:=46) (bs s)).2
  have hx:idx 46 (bs s)≠ -1:=fun h=>by have:=hlt.2.1 h;omega
  obtain ⟨k,hk⟩:∃ k:Nat,idx 46 (bs s)=(k:Int):=⟨(idx 46 (bs s)).toNat,by omega⟩
  have hks:k<s.size:=by have:=hlt.1;rw [za] at this;omega
  have hcount:=hlt.2.2 hx
  rw [hk,Int.toNat_natCast,hc] at hcount
  have hbe:bs (s.extract (k+1) s.size)=(bs s).drop (k+1):=by
   rw [Ah,←za,List.take_length]
  have hsz:(s.extract (k+1) s.size).size≤1000000:=by
   rw [←za,hbe,List.length_drop,za];omega
  obtain ⟨s',a',h1,h2,h3,P,h4,h5,h6⟩:=TM n N hN c (i+1) m (s.extract (k+1) s.size)
   (⟨a.n,fun q=>if q=i∧q<a.n then s.extract 0 k else a.at' q⟩:Sq BA) hsz (by rw [hbe];omega) (by omega) ha (by omega)
  refine ⟨s',a',?_,h2,fun j hj=>?_,(bs s).take k::P,?_,by simp [h5],fun j w hw=>?_⟩
  · have a1:(i:Int)<(N:Int):=by omega
    have a2:¬((k:Int)<0):=by omega
    have a3:(0:Int)≤(i:Int):=by omega
    have a4:(i:Int)<(a.n:Int):=by omega
    have a5:(0:Int)≤(k:Int):=by omega
    have a6:(k:Int)≤(s.size:Int):=by omega
    have e0:IntKind.wrap .i64 ((k:Int)+0)=(k:Int):=by rw [Int.add_zero];exact wr (by omega) (by omega)
    have e1:(Dom.dot.size:Int)=1:=rfl
    have e2:=wr1 (k:=k) (by omega)
    have e3:=wr1 (k:=i) (by omega)
    have a7:(0:Int)≤((k+1:Nat):Int):=by omega
    have a8:((k+1:Nat):Int)≤(s.size:Int):=by omega
    simp only [Tb,uh,VW n s hs,hk,a1,a2,a3,a4,a5,a6,e0,e1,e2,e3,a7,a8,Int.toNat_natCast]
    have e0':IntKind.wrap .i64 (k:Int)=(k:Int):=wr (by omega) (by omega)
    have e2':IntKind.wrap .i64 ((k:Int)+1)=(k:Int)+1:=e2
    have a7':(0:Int)≤(k:Int)+1:=by omega
    have a8':(k:Int)+1≤(s.size:Int):=by omega
    have e9:((k:Int)+1).toNat=k+1:=by omega
    simpa [a2,a3,a4,a5,a6,e0',e2',a7',a8',e9] using h1
  · rw [h3 j (by omega)]
    simp [show ¬j=i by omega]
  · rw [dD,if_neg hx,hk,Int.toNat_natCast,←hbe,h4];simp
  · cases j with
    | zero=>
     simp at hw
     rw [Nat.add_zero,h3 i (by omega),←hw]
     simp only [show i<a.n by omega,and_self,if_true]
     rw [Ah];simp
    | succ j=>
     have:=h6 j w (by simpa using hw)
     rwa [show i+(j+1)=i+1+j by omega]
theorem L5 (n:Nat) (s:BA) (hs:s.size≤1000000) (hn:10000000≤n):∃ q,jD n s (⟨#[46]⟩:BA)=some q∧sqL bs q=Rb 46 [] (bs s):=by
 have hcl:(bs s).count 46≤s.size:=by rw [←za];exact List.count_le_length
 obtain ⟨c,hc⟩:∃ c,(bs s).count 46=c:=⟨_,rfl⟩
 rw [hc] at hcl
 have hcount:fD n s Dom.dot=some (c:Int):=by
  unfold fD gD
  have e2:bt Dom.dot 0=46:=rfl
  have:=M4 (c:=46) (by decide) (by decide) s.data.toList
  rw [e2,this,show (Dom.dot.size:Int)=1 from rfl,←hc]
  rfl
 obtain ⟨s',a',h1,h2,h3,P,h4,h5,h6⟩:=TM n c (by omega) c 0 n s (⟨c+1,fun _=>(⟨#[]⟩:BA)⟩:Sq BA) hs hc (by omega) rfl (by omega)
 refine ⟨(⟨c+1,fun i=>(fun q=>if q=c∧q<a'.n then s' else a'.at' q) (0+i)⟩:Sq BA),?_,?_⟩
 · have e1:=wr1 (k:=s.size) (by omega)
   have e2:=wr1 (k:=c) (by omega)
   have hif:(if ((s.size+1:Nat):Int)<((c+1:Nat):Int) then ((s.size+1:Nat):Int) else ((c+1:Nat):Int))=((c+1:Nat):Int):=if_neg (by omega)
   have e3:IntKind.wrap .i64 (((c+1:Nat):Int) - 1)=(c:Int):=by rw [wr (by omega) (by omega)];omega
   have f1:=uab (n:=c) (by omega)
   have f0:(0:Int)≤((c+1:Nat):Int):=by omega
   have f2:(c:Int)<(a'.n:Int):=by omega
   have f3:((c+1:Nat):Int)≤(a'.n:Int):=by omega
   have f4:(0:Int)≤(c:Int):=by omega
   have hne:(decide (bs Dom.dot=bs (⟨#[]⟩:BA)))=false:=by decide
   unfold jD kD ut br
   rw [show (⟨#[46]⟩:BA)=Dom.dot from rfl,dx,hne,hcount]
   rw [show ((0:Nat):Int)=0 from rfl] at h1
   simp only [Option.bind_some,e1,e2,hif,e3,f1,f0,Int.toNat_natCast,h1,onL,f2,f3,f4]
   simp
 · unfold sqL
   rw [List.range_succ,List.map_append,h4]
   congr 1
   · apply List.ext_getElem?
     intro j
     rw [List.getElem?_map]
     by_cases hj:j<c
     · rw [List.getElem?_range hj,List.getElem?_eq_getElem (by omega)]
       have:=h6 j _ (List.getElem?_eq_getElem (by omega))
       rw [Nat.zero_add] at this
       simp [show ¬j=c by omega,this]
     · rw [List.getElem?_eq_none (by simp;omega),List.getElem?_eq_none (by omega)];rfl
   · simp [show c<a'.n by omega]
theorem D6 (n:Nat) (l:Sq BA) (hl:l.n≤2000000) (hs:∀ i,i<l.n→(l.at' i).size≤1000000):∀ (W:List (List Int)) (i m:Nat),(sqL bs l).drop i=W→W.length<m→i≤l.n→
  Bc n m l l l.n i=some (if W.all okR=true then .out l else .ret false)
 | [],i,m,h,hm,hi=>by
  obtain ⟨m,rfl⟩:∃ q,m=q+1:=⟨m - 1,by omega⟩
  have:=wS h
  have a4:¬((i:Int)<(l.n:Int)):=by omega
  simp [Bc,ui,a4]
 | w::W,i,m,h,hm,hi=>by
  obtain ⟨m,rfl⟩:∃ q,m=q+1:=⟨m - 1,by omega⟩
  obtain ⟨h1,h2,h3⟩:=oM h
  have e1:=wr1 (k:=i) (by omega)
  have a1:(0:Int)≤(i:Int):=by omega
  have a2:(i:Int)<(l.n:Int):=by omega
  have ih:=D6 n l hl hs W (i+1) m h3 (by simpa using hm) (by omega)
  have hw:=O9 (l.at' i).data.toList
  rw [show KT (l.at' i).data.toList=w from h2] at hw
  have hsz:(l.at' i).size≤281474976710656:=by have:=hs i h1;omega
  simp only [Bc,ui,a1,a2,Int.toNat_natCast,e1,List.all_cons,←hw,G4,hsz]
  unfold okP
  rcases hv:Lib.atoiAll (l.at' i).data.toList with v | _ | _
  · have hb:=Lib.atoiAll_bounds hv
    by_cases g0:v<0
    · have:¬(0≤v):=by omega
      simp [g0,this]
    · by_cases g1:v>255
      · have:¬(v≤255):=by omega
        simp [g0,g1,this]
      · have q0:0≤v:=by omega
        have q1:v≤255:=by omega
        have q2: -9223372036854775808≤v∧v≤9223372036854775807:=⟨by omega,by omega⟩
        have hb:bs (⟨(Lib.itoa v).toArray⟩:BA)=KT (Lib.itoa v):=rfl
        have hdp:bs (⟨(Lib.itoa v).toArray⟩:BA)=bs (l.at' i)↔Lib.itoa v=(l.at' i).data.toList:=⟨fun h=>iM h,fun h=>by rw [hb,h];rfl⟩
        have hd:decide (bs (⟨(Lib.itoa v).toArray⟩:BA)=bs (l.at' i))=decide (Lib.itoa v=(l.at' i).data.toList):=decide_eq_decide.2 hdp
        simp only [g0,g1,q0,q1,pR,q2,dx,hd]
        by_cases hi:Lib.itoa v=(l.at' i).data.toList
        · simpa [hi,q0,q1,q2.1,q2.2] using ih
        · have:¬bs (⟨(Lib.itoa v).toArray⟩:BA)=bs (l.at' i):=fun h=>hi (hdp.1 h)
          simp [hi,q0,q1,q2.1,q2.2,this]
  · simp
  · simp
def C6 (l:List Int):Bool:=(Rb 46 [] l).all okR&&decide ((Rb 46 [] l).length=4)
theorem BY (n:Nat) (s:BA) (hs:s.size≤1000000) (hn:10000000≤n):Sm n s=some (C6 (bs s)):=by
 obtain ⟨q,h1,h2⟩:=L5 n s hs hn
 obtain ⟨h3,h4⟩:=sy h2
 have h:=D6 n q (by omega) (fun i hi=>Nat.le_trans (h4 i hi) hs) _ 0 n rfl (by rw [List.drop_zero,Nc];omega) (by omega)
 rw [show ((0:Nat):Int)=0 from rfl,List.drop_zero,h2] at h
 unfold Sm Ut C6
 rw [h1,Option.bind_some,h,Option.bind_some,←h2,Nc]
 cases (sqL bs q).all okR
 · rfl
 · by_cases h4:q.n=4
   · simp [onL,h4]
   · have:¬((q.n:Int)=4):=by omega
     simp [onL,h4,this]
theorem Q2 (n:Nat) (hn:10000000≤n) (l:Sq BA) (hl:l.n≤2000000):∀ (W:List (List Int)) (i m:Nat),(sqL bs l).drop i=W→W.length<m→i≤l.n→
  Mc n m l i=some (if W.all okR=true then .out l else .ret false)
 | [],i,m,h,hm,hi=>by
  obtain ⟨m,rfl⟩:∃ q,m=q+1:=⟨m - 1,by omega⟩
  have:=wS h
  have a4:¬((i:Int)<(l.n:Int)):=by omega
  simp [Mc,Ai,a4]
 | w::W,i,m,h,hm,hi=>by
  obtain ⟨m,rfl⟩:∃ q,m=q+1:=⟨m - 1,by omega⟩
  obtain ⟨h1,h2,h3⟩:=oM h
  have e1:=wr1 (k:=i) (by omega)
  have a1:(0:Int)≤(i:Int):=by omega
  have a2:(i:Int)<(l.n:Int):=by omega
  have ih:=Q2 n hn l hl W (i+1) m h3 (by simpa using hm) (by omega)
  simp only [Mc,Ai,a1,a2,Int.toNat_natCast,e1,List.all_cons,E4 _ _ hn,h2,Sab]
  by_cases hv:okV w=true
  · by_cases g:XU 0 w≤255
    · have:¬(XU 0 w>255):=by omega
      simpa [hv,g,this] using ih
    · have:XU 0 w>255:=by omega
      simp [hv,g,this]
  · simp [hv]
open Go
def AJ (l:List Int):List Int:=(l.take (l.length - 1)).drop 1
def K9 (l:List Int):Bool:=decide (2≤l.length)&&decide (l.head?=some 91)&&decide (l.getLast?=some 93)&&C6 (AJ l)
theorem fM (s:BA):bs (s.extract 1 (s.size - 1))=AJ (bs s):=by rw [Ah,AJ,za]
theorem yg (s:BA) (i j:Nat):(s.extract i j).size≤s.size:=by
 rw [←za,←za,Ah,List.length_drop,List.length_take];omega
theorem sF {s:BA} (h:0<s.size):∃ c,(bs s).head?=some c∧bt s 0=c:=by
 obtain ⟨c,hc⟩:∃ c,(bs s)[0]?=some c:=⟨_,List.getElem?_eq_getElem (by rw [za];exact h)⟩
 exact ⟨c,by rw [List.head?_eq_getElem?];exact hc,NZ (k:=0) hc⟩
theorem NM {s:BA} (h:0<s.size):∃ c,(bs s).getLast?=some c∧bt s ((s.size - 1:Nat):Int)=c:=by
 obtain ⟨c,hc⟩:∃ c,(bs s)[s.size - 1]?=some c:=⟨_,List.getElem?_eq_getElem (by rw [za];omega)⟩
 exact ⟨c,by rw [List.getLast?_eq_getElem?,za];exact hc,NZ hc⟩
theorem wrm {k:Nat} (h0:0<k) (h:k<4611686018427387904):IntKind.wrap .i64 ((k:Int) - 1)=((k - 1:Nat):Int):=by
 rw [wr (by omega) (by omega)];omega
theorem xW (n:Nat) (s:BA) (hs:s.size≤1000000) (hn:10000000≤n):jr n s=some (K9 (bs s)):=by
 unfold jr ou K9
 rw [za]
 by_cases h2:2≤s.size
 · obtain ⟨c,hc,hb⟩:=sF (s:=s) (by omega)
   obtain ⟨d,hd,hb2⟩:=NM (s:=s) (by omega)
   have e1:=wrm (k:=s.size) (by omega) (by omega)
   have a1:¬((s.size:Int)<2):=by omega
   have a2:(0:Int)<(s.size:Int):=by omega
   have a3:(0:Int)≤((s.size - 1:Nat):Int):=by omega
   have a4:((s.size - 1:Nat):Int)<(s.size:Int):=by omega
   have a5:((s.size - 1:Nat):Int)≤(s.size:Int):=by omega
   have a6:(1:Int)≤((s.size - 1:Nat):Int):=by omega
   have hin:(s.extract (Int.toNat (1:Int)) (s.size - 1))=s.extract 1 (s.size - 1):=rfl
   obtain ⟨q,q1,q2⟩:=LQ n (s.extract 1 (s.size - 1)) 46 (Nat.le_trans (yg _ _ _) hs) hn
   obtain ⟨q3,q4⟩:=sy q2
   have hq:=yg s 1 (s.size - 1)
   have hL:=Q2 n hn q (by omega) _ 0 n rfl (by rw [List.drop_zero,Nc];omega) (by omega)
   rw [show ((0:Nat):Int)=0 from rfl,List.drop_zero,q2,fM] at hL
   simp only [a1,a2,hb,e1,a3,a4,a5,a6,hb2,hc,hd,Int.toNat_natCast,hin,q1,Option.bind_some,hL]
   by_cases g1:c=91
   · by_cases g2:d=93
     · subst g1 g2
       unfold C6
       have hl4:(Rb 46 [] (AJ (bs s))).length=q.n:=by rw [←fM,←q2,Nc]
       rw [hl4]
       by_cases ha:(Rb 46 [] (AJ (bs s))).all okR=true
       · by_cases h4:q.n=4
         · simp [onL,ha,h4,h2]
         · have:¬((q.n:Int)=4):=by omega
           simp [onL,ha,h4,this,h2]
       · simp [onL,ha,h2]
     · have:(d !=93)=true:=by simpa using g2
       simp [g1,g2,this]
   · have:(c !=91)=true:=by simpa using g1
     simp [g1,this]
 · have a1:(s.size:Int)<2:=by omega
   simp [a1,h2]
def lch (c:Int):Bool:=sgn c || decide (c=45)
def PV (w:List Int):Bool:=decide (1≤w.length)&&decide (w.length≤63)&&decide (w.head?≠some 45)&&decide (w.getLast?≠some 45)&&w.all lch
theorem o6 (n:Nat) (l:Sq BA) (i:Nat) (w:BA) (hs:w.size≤1000000):∀ (r:List Int) (k m:Nat),(bs w).drop k=r→k≤w.size→r.length<m→
  Gd n m l i w k=some (if r.all lch=true then .out (l,(i:Int)) else .ret false)
 | [],k,m,h,hk,hm=>by
  obtain ⟨m,rfl⟩:∃ q,m=q+1:=⟨m - 1,by omega⟩
  have:=pp h
  simp [Gd,Vk,this]
 | c::r,k,m,h,hk,hm=>by
  obtain ⟨m,rfl⟩:∃ q,m=q+1:=⟨m - 1,by omega⟩
  obtain ⟨h1,h2,h3,h4,h5⟩:=Rh h
  have e1:=wr1 (k:=k) (by omega)
  have a3:(0:Int)≤(k:Int):=by omega
  have ih:=o6 n l i w hs r (k+1) m h3 (by omega) (by simpa using hm)
  simp only [Gd,Vk,h1,h2,a3,e1,fX,List.all_cons]
  have hl:lch c=((decide (97≤c)&&decide (c≤122)) || (decide (48≤c)&&decide (c≤57)) || decide (c=45)):=rfl
  simp only [hl]
  by_cases b1:97≤c<;>by_cases b2:c≤122<;>by_cases b3:48≤c<;>by_cases b4:c≤57<;>by_cases b5:c=45<;>first
   | (exfalso;omega)
   | (simp [b1,b2,b3,b4,b5];done)
   | (simpa [b1,b2,b3,b4,b5] using ih)
theorem n6 (n:Nat) (hn:10000000≤n) (l:Sq BA) (hl:l.n≤2000000) (hs:∀ i,i<l.n→(l.at' i).size≤1000000):∀ (W:List (List Int)) (i m:Nat),(sqL bs l).drop i=W→W.length<m→i≤l.n→
  Fd n m l i=some (if W.all PV=true then .out () else .ret false)
 | [],i,m,h,hm,hi=>by
  obtain ⟨m,rfl⟩:∃ q,m=q+1:=⟨m - 1,by omega⟩
  have:=wS h
  have a4:¬((i:Int)<(l.n:Int)):=by omega
  simp [Fd,Uk,a4]
 | w::W,i,m,h,hm,hi=>by
  obtain ⟨m,rfl⟩:∃ q,m=q+1:=⟨m - 1,by omega⟩
  obtain ⟨h1,h2,h3⟩:=oM h
  have e1:=wr1 (k:=i) (by omega)
  have a1:(0:Int)≤(i:Int):=by omega
  have a2:(i:Int)<(l.n:Int):=by omega
  have ih:=n6 n hn l hl hs W (i+1) m h3 (by simpa using hm) (by omega)
  have hsz:=hs i h1
  have hw:=o6 n l i (l.at' i) hsz (bs (l.at' i)) 0 n (by simp) (by omega) (by rw [za];omega)
  rw [show ((0:Nat):Int)=0 from rfl,h2] at hw
  have hlen:w.length=(l.at' i).size:=by rw [←h2,za]
  simp only [Fd,Uk,a1,a2,Int.toNat_natCast,hw,e1,List.all_cons]
  have hlab:PV w=(decide (1≤(l.at' i).size)&&decide ((l.at' i).size≤63)&&decide (w.head?≠some 45)&&decide (w.getLast?≠some 45)&&w.all lch):=by unfold PV;rw [hlen]
  simp only [hlab]
  by_cases g1:1≤(l.at' i).size
  · by_cases g2:(l.at' i).size≤63
    · obtain ⟨c,hc,hb⟩:=sF (s:=l.at' i) (by omega)
      obtain ⟨d,hd,hb2⟩:=NM (s:=l.at' i) (by omega)
      rw [h2] at hc hd
      have e2:=wrm (k:=(l.at' i).size) (by omega) (by omega)
      have b1:¬(((l.at' i).size:Int)<1):=by omega
      have b2:¬(((l.at' i).size:Int)>63):=by omega
      have b3:(0:Int)<((l.at' i).size:Int):=by omega
      have b4:(0:Int)≤(((l.at' i).size - 1:Nat):Int):=by omega
      have b5:(((l.at' i).size - 1:Nat):Int)<((l.at' i).size:Int):=by omega
      simp only [b1,b2,b3,hb,e2,b4,b5,hb2,hc,hd,g1,g2]
      by_cases x1:c=45
      · simp [x1]
      · by_cases x2:d=45
        · simp [x1,x2]
        · by_cases x3:w.all lch=true
          · simp only [x3,if_true,Option.bind_some,onL]
            have e1':IntKind.wrap .i64 ((i:Int)+1)=(i:Int)+1:=e1
            simpa [x1,x2,x3,e1'] using ih
          · simp [x1,x2,x3,onL]
    · have b1:¬(((l.at' i).size:Int)<1):=by omega
      have b2:(((l.at' i).size:Int)>63):=by omega
      simp [b1,b2,g2]
  · have b1:(((l.at' i).size:Int)<1):=by omega
    simp [b1,g1]
def N4 (l:List Int):Bool:=decide (l.length≤255)&&(K9 l || (Rb 46 [] l).all PV)
theorem bZ (n:Nat) (s:BA) (hs:s.size≤1000000) (hn:10000000≤n):Nw n s=some (N4 (bs s)):=by
 obtain ⟨q,q1,q2⟩:=LQ n s 46 hs hn
 obtain ⟨q3,q4⟩:=sy q2
 have hL:=n6 n hn q (by omega) (fun i hi=>Nat.le_trans (q4 i hi) hs) _ 0 n rfl (by rw [List.drop_zero,Nc];omega) (by omega)
 rw [show ((0:Nat):Int)=0 from rfl,List.drop_zero,q2] at hL
 unfold Nw Yx N4
 rw [za,xW n s hs hn,q1,Option.bind_some,Option.bind_some,hL]
 by_cases g:s.size≤255
 · have:¬((s.size:Int)>255):=by omega
   by_cases h1:K9 (bs s)=true
   · simp [g,this,h1]
   · by_cases h2:(Rb 46 [] (bs s)).all PV=true
     · simp [g,this,h1,h2,onL]
     · simp [g,this,h1,h2,onL]
 · have:((s.size:Int)>255):=by omega
   simp [g,this]
def lbB (L:Nat):Nat→List Int→Bool
 | _,[]=>true
 | i,c::r=>if sgn c=true then lbB L (i+1) r else if c≠45 then false else if i=0 then false else if i=L - 1 then false else lbB L (i+1) r
theorem wX (n:Nat) (s:BA) (hs:s.size≤1000000):∀ (r:List Int) (k m:Nat),(bs s).drop k=r→k≤s.size→r.length<m→je n m s s.size k=some (if lbB s.size k r=true then .out s else .ret false)
 | [],k,m,h,hk,hm=>by
  obtain ⟨m,rfl⟩:∃ q,m=q+1:=⟨m - 1,by omega⟩
  have:=pp h
  simp [je,Rm,this,lbB]
 | c::r,k,m,h,hk,hm=>by
  obtain ⟨m,rfl⟩:∃ q,m=q+1:=⟨m - 1,by omega⟩
  obtain ⟨h1,h2,h3,h4,h5⟩:=Rh h
  have e1:=wr1 (k:=k) (by omega)
  have e2:=wrm (k:=s.size) (by omega) (by omega)
  have a3:(0:Int)≤(k:Int):=by omega
  have ih:=wX n s hs r (k+1) m h3 (by omega) (by simpa using hm)
  simp only [je,Rm,h1,h2,a3,e1,e2,X2,Option.bind_some,lbB]
  by_cases g1:sgn c=true
  · simpa [g1] using ih
  · by_cases g2:c=45
    · have h45:sgn 45=false:=by decide
      by_cases g3:k=0
      · subst g3;simp [g1,g2,h45]
      · have x3:((k:Int)==0)=false:=by simpa using g3
        by_cases g4:k=s.size - 1
        · have:((k:Int)==((s.size - 1:Nat):Int))=true:=by rw [g4];simp
          simp [g1,g2,g3,x3,this,←g4,h45]
        · have:((k:Int)==((s.size - 1:Nat):Int))=false:=by simp only [beq_eq_false_iff_ne];omega
          simpa [g1,g2,g3,g4,x3,this,h45] using ih
    · have:(c !=45)=true:=by simpa using g2
      simp [g1,g2,this]
theorem z6:∀ (r:List Int) (i L:Nat),i+r.length=L→lbB L i r=(r.all lch&&decide (i=0→r.head?≠some 45)&&decide (r.getLast?≠some 45))
 | [],i,L,h=>by simp [lbB]
 | c::r,i,L,h=>by
  simp only [List.length_cons] at h
  have ih:=z6 r (i+1) L (by omega)
  have hlast:(c::r).getLast?=if r=[] then some c else r.getLast?:=by
   cases r with
   | nil=>rfl
   | cons d r=>simp [List.getLast?_cons_cons]
  simp only [lbB,List.all_cons,List.head?_cons,hlast]
  have h45:sgn 45=false:=by decide
  by_cases g2:c=45
  · subst g2
    simp only [h45,lch]
    by_cases g3:i=0
    · subst g3;simp
    · by_cases g4:r=[]
      · subst g4
        have:i=L - 1:=by simp at h;omega
        simp [g3,←this]
      · have:¬i=L - 1:=by
         have:0<r.length:=List.length_pos_iff.2 g4
         omega
        simp [g3,g4,this,ih]
  · by_cases g1:sgn c=true
    · by_cases g4:r=[]
      · subst g4;simp [g1,g2,lch,lbB]
      · simp [g1,g2,g4,lch,ih]
    · simp [g1,g2,lch]
theorem xX (n:Nat) (s:BA) (hs:s.size≤1000000) (hn:10000000≤n):Tt n s=some (PV (bs s)):=by
 have hL:=wX n s hs (bs s) 0 n (by simp) (by omega) (by rw [za];omega)
 rw [show ((0:Nat):Int)=0 from rfl] at hL
 have hx:PV (bs s)=(decide (1≤s.size)&&decide (s.size≤63)&&lbB s.size 0 (bs s)):=by
  rw [z6 (bs s) 0 s.size (by rw [za];omega)]
  unfold PV
  rw [za]
  by_cases g4:(bs s).head?=some 45<;>by_cases g5:(bs s).getLast?=some 45<;>cases decide (1≤s.size)<;>cases decide (s.size≤63)<;>cases (bs s).all lch<;>simp [g4,g5]
 unfold Tt zC
 rw [hL,hx]
 have e1:(decide ((s.size:Int)≥1))=decide (1≤s.size):=by rw [decide_eq_decide];omega
 have e2:(decide ((s.size:Int)≤63))=decide (s.size≤63):=by rw [decide_eq_decide];omega
 cases hb:lbB s.size 0 (bs s)
 · simp [onL]
 · simp only [if_true,Option.bind_some,onL,e1,e2]
   cases decide (1≤s.size)<;>simp
open Go
theorem Wn (n:Nat) (s p:BA):Sa n s p=some (decide ((bs s).take p.size=bs p)):=by
 unfold Sa Nj rg Hn
 by_cases h:p.size≤s.size
 · have a1:(s.size:Int)≥(p.size:Int):=by omega
   have a2:(0:Int)≤(p.size:Int):=by omega
   have a3:(p.size:Int)≤(s.size:Int):=by omega
   simp only [a1,a2,a3,dx,Int.toNat_natCast,Ah]
   simp
 · have a1:¬((s.size:Int)≥(p.size:Int)):=by omega
   have:¬(bs s).take p.size=bs p:=fun e=>by
    have:=congrArg List.length e
    rw [List.length_take,za,za] at this
    omega
   simp [a1,this]
theorem P5 {l:List Int} {c:Int}:l.take 1=[c]↔l.head?=some c:=by cases l<;>simp
theorem Wk (n:Nat) (s p:BA) {c:Int} (hp:bs p=[c]):Sa n s p=some (decide ((bs s).head?=some c)):=by
 have h1:p.size=1:=by rw [←za,hp];rfl
 rw [Wn,h1,hp]
 congr 1
 rw [decide_eq_decide]
 exact P5
theorem lx (n:Nat) (s p:BA) (hs:s.size≤1000000) {c:Int} (hp:bs p=[c]):Tc n s p=some (decide ((bs s).getLast?=some c)):=by
 have h1:p.size=1:=by rw [←za,hp];rfl
 unfold Tc Tn co In
 by_cases h:1≤s.size
 · have e1:=wrm (k:=s.size) (by omega) (by omega)
   have a1:(s.size:Int)≥((1:Nat):Int):=by omega
   have a2:(0:Int)≤((s.size - 1:Nat):Int):=by omega
   have a3:((s.size - 1:Nat):Int)≤(s.size:Int):=by omega
   obtain ⟨d,hd,_⟩:=NM (s:=s) (by omega)
   have hx:((bs s).take s.size).drop (s.size - 1)=[d]:=by
    rw [show (bs s).take s.size=bs s by rw [←za,List.take_length]]
    have hl:s.size - 1<(bs s).length:=by rw [za];omega
    rw [List.drop_eq_getElem_cons hl]
    rw [List.getLast?_eq_getElem?,za,List.getElem?_eq_getElem hl] at hd
    rw [Option.some.inj hd,List.drop_eq_nil_of_le (by rw [za];omega)]
   rw [h1] at*
   rw [show ((1:Nat):Int)=1 from rfl] at*
   simp only [a1,e1,a2,a3,dx,Int.toNat_natCast,Ah,hx,hp,hd]
   simp
 · have a1:¬((s.size:Int)≥((1:Nat):Int)):=by omega
   have:(bs s)=[]:=by
    apply List.eq_nil_of_length_eq_zero
    rw [za];omega
   rw [h1]
   simp only [a1,this]
   simp
theorem YZ (n:Nat) (hn:10000000≤n):∀ (m:Nat) (s:BA),s.size≤1000000→s.size<m→Dom.domL (fun x=>Un n x Dom.dot) (Tt n) m s=some ((Rb 46 [] (bs s)).all PV)
 | 0,s,hs,hm=>absurd hm (Nat.not_lt_zero _)
 | m+1,s,hs,hm=>by
  have hlt:=HT 46 (bs s)
  have hge:=(Ar (c:=46) (bs s)).2
  rw [Dom.domL]
  simp only [VW n s hs,Option.bind_some]
  rw [dD]
  by_cases hx:idx 46 (bs s)= -1
  · rw [if_pos hx,hx,if_pos (by decide),xX n s hs hn]
    simp
  · obtain ⟨k,hk⟩:∃ k:Nat,idx 46 (bs s)=(k:Int):=⟨(idx 46 (bs s)).toNat,by omega⟩
    have hks:k<s.size:=by have:=hlt.1;rw [za] at this;omega
    have hbe:bs (s.extract (k+1) s.size)=(bs s).drop (k+1):=by rw [Ah,←za,List.take_length]
    have hb0:bs (s.extract 0 k)=(bs s).take k:=by rw [Ah];rfl
    have ih:=YZ n hn m (s.extract (k+1) s.size) (Nat.le_trans (yg _ _ _) hs) (by rw [←za,hbe,List.length_drop,za];omega)
    rw [if_neg hx,hk,if_neg (by omega),if_pos ⟨by omega,by omega⟩,Int.toNat_natCast,xX n _ (Nat.le_trans (yg _ _ _) hs) hn,Option.bind_some,ih,hb0,hbe]
    simp only [List.nil_append,List.all_cons]
    cases PV ((bs s).take k)<;>simp
def l7 (l:List Int):Bool:=if l.head?=some 91 then decide (l.getLast?=some 93)&&C6 (AJ l) else (Rb 46 [] l).all PV&&decide (l.length≤255)
theorem JS (n:Nat) (s:BA):qg n s=some (decide ((bs s).head?=some 91)):=by
 unfold qg Dn
 rw [Wk n s _ (c:=91) rfl];rfl
theorem gV (n:Nat) (s:BA) (hs:s.size≤1000000) (hn:10000000≤n):Yj n s=some (l7 (bs s)):=by
 unfold Yj l7
 rw [JS,Option.bind_some]
 by_cases h:(bs s).head?=some 91
 · rw [if_pos (by simpa using h),if_pos h,lx n s _ hs (c:=93) rfl,Option.bind_some]
   by_cases h2:(bs s).getLast?=some 93
   · have hsz:2≤s.size:=by
      rw [←za]
      cases hb:bs s with
      | nil=>rw [hb] at h;cases h
      | cons c r=>cases r with
       | nil=>rw [hb] at h h2;simp at h h2;omega
       | cons d r=>simp
     rw [if_pos (by simpa using h2),if_pos ⟨by omega,by omega⟩,BY n _ (Nat.le_trans (yg _ _ _) hs) hn,fM]
     simp [h2]
   · rw [if_neg (by simpa using h2)];simp [h2]
 · rw [if_neg (by simpa using h),if_neg h]
   unfold Dom.domT
   rw [YZ n hn n s hs (by omega),Option.bind_some]
   have e:(decide ((s.size:Int)≤255))=decide ((bs s).length≤255):=by rw [za,decide_eq_decide];omega
   rw [e]
   cases (Rb 46 [] (bs s)).all PV<;>simp
theorem P7 {w:List Int} (h:okR w=true):w.length≤16:=by
 unfold okR at h
 simp only [Bool.and_eq_true,decide_eq_true_eq] at h
 exact h.1.1.1.2
theorem lK (d:Int):∀ (r cur:List Int),cur.length+r.length+1=((Rb d cur r).map fun w=>w.length+1).sum
 | [],cur=>by simp [Rb]
 | c::r,cur=>by
  simp only [Rb]
  split
  · have:=lK d r []
    simp at this ⊢;omega
  · have:=lK d r (cur++[c])
    simp at this ⊢;omega
theorem Y4 {l:List Int} (h:C6 l=true):l.length≤100:=by
 unfold C6 at h
 simp only [Bool.and_eq_true,decide_eq_true_eq,List.all_eq_true] at h
 have hs:=lK 46 l []
 obtain ⟨h1,h2⟩:=h
 have key:∀ W:List (List Int),(∀ w∈W,w.length≤16)→(W.map fun w=>w.length+1).sum≤17*W.length:=fun W=>by
  induction W with
  | nil=>intro _;simp
  | cons w W ih=>
   intro hw
   have a:=hw w List.mem_cons_self
   have b:=ih fun x hx=>hw x (List.mem_cons_of_mem _ hx)
   simp only [List.map_cons,List.sum_cons,List.length_cons];omega
 have:=key _ fun w hw=>P7 (h1 w hw)
 simp at hs
 omega
theorem I7 {w:List Int} (h:w.head?=some 91):PV w=false:=by
 cases w with
 | nil=>cases h
 | cons c r=>
  simp at h;subst h
  have:lch 91=false:=by decide
  simp [PV,this]
theorem nO (d:Int):∀ (r cur:List Int),cur≠[]→∃ w W,Rb d cur r=w::W∧w.head?=cur.head?
 | [],cur,h=>⟨cur,[],rfl,rfl⟩
 | c::r,cur,h=>by
  simp only [Rb]
  split
  · exact ⟨cur,_,rfl,rfl⟩
  · obtain ⟨w,W,h1,h2⟩:=nO d r (cur++[c]) (by simp)
    refine ⟨w,W,h1,h2.trans ?_⟩
    cases cur with
    | nil=>exact absurd rfl h
    | cons x xs=>rfl
theorem gX (l:List Int):l7 l=N4 l:=by
 unfold l7 N4 K9
 by_cases h:l.head?=some 91
 · rw [if_pos h]
   have hsp:(Rb 46 [] l).all PV=false:=by
    cases l with
    | nil=>cases h
    | cons c r=>
     simp at h;subst h
     simp only [Rb]
     rw [if_neg (by decide)]
     obtain ⟨w,W,h1,h2⟩:=nO 46 r ([]++[91]) (by simp)
     rw [h1,List.all_cons,I7 (by rw [h2];rfl)];rfl
   rw [hsp]
   by_cases h2:l.getLast?=some 93
   · have hl:2≤l.length:=by
      cases l with
      | nil=>cases h
      | cons c r=>cases r with
       | nil=>simp at h h2;omega
       | cons d r=>simp
     cases hp:C6 (AJ l) with
     | false=>simp [h2]
     | true=>
      have:=Y4 hp
      have hle:l.length≤255:=by
       unfold AJ at this
       rw [List.length_drop,List.length_take] at this
       omega
      simp [h,h2,hl,hle]
   · simp [h2]
 · rw [if_neg h]
   simp [h,Bool.and_comm]
/-! Small letters. -/
def low (c:Int):Int:=if 65≤c∧c≤90 then c+32 else c
theorem V9 (s:BA):sqL id (⟨s.size,fun q=>bt s q⟩:Sq Int)=bs s:=by
 apply List.ext_getElem?
 intro j
 unfold sqL
 rw [List.getElem?_map]
 by_cases h:j<s.size
 · rw [List.getElem?_range h]
   obtain ⟨c,hc⟩:∃ c,(bs s)[j]?=some c:=⟨_,List.getElem?_eq_getElem (by rw [za];exact h)⟩
   rw [hc]
   simp [NZ hc]
 · rw [List.getElem?_eq_none (by simp;omega),List.getElem?_eq_none (by rw [za];omega)];rfl
theorem Z2 {b:Sq Int} {k:Nat} {v:Int}:sqL id (⟨b.n,fun q=>if q=k∧q<b.n then v else b.at' q⟩:Sq Int)=(sqL id b).set k v:=by
 apply List.ext_getElem?
 intro j
 unfold sqL
 rw [List.getElem?_map,List.getElem?_set]
 by_cases h:j<b.n
 · rw [List.getElem?_range h]
   by_cases hk:k=j
   · subst hk;simp [h]
   · have:¬j=k:=fun e=>hk e.symm
     simp [hk,this,h]
 · rw [List.getElem?_eq_none (by simp;omega)]
   by_cases hk:k=j
   · subst hk;simp [h]
   · simp [hk,h]
theorem vS (n:Nat) (t:Nat) (ht:t≤1000000):∀ (r P:List Int) (m:Nat) (b:Sq Int),sqL id b=P++r→b.n=t→(∀ c∈P++r,0≤c∧c<256)→r.length<m→
  ∃ b',Cc n m t P.length b=some (.out b')∧sqL id b'=P++r.map low∧b'.n=t
 | [],P,m,b,hb,hbn,hr,hm=>by
  obtain ⟨m,rfl⟩:∃ q,m=q+1:=⟨m - 1,by omega⟩
  have hl:=Nc id b
  rw [hb,List.append_nil,hbn] at hl
  refine ⟨b,?_,by simpa using hb,hbn⟩
  have:¬((P.length:Int)<(t:Int)):=by omega
  simp [Cc,Qh,this]
 | c::r,P,m,b,hb,hbn,hr,hm=>by
  obtain ⟨m,rfl⟩:∃ q,m=q+1:=⟨m - 1,by omega⟩
  have hl:=Nc id b
  rw [hb,hbn] at hl
  simp at hl
  have hat:b.at' P.length=c:=by
   have h1:=Ik (f:=id) (q:=b) (i:=P.length) (by omega)
   rw [hb,List.getElem?_append_right (Nat.le_refl _),Nat.sub_self] at h1
   simpa using h1.symm
  have hc:=hr c (by simp)
  have e1:=wr1 (k:=P.length) (by omega)
  have a1:(P.length:Int)<(t:Int):=by omega
  have a2:(0:Int)≤(P.length:Int):=by omega
  have a3:(P.length:Int)<(b.n:Int):=by omega
  by_cases hlow:65≤c∧c≤90
  · have w1:=wr8 (x:=c+97) (by omega) (by omega)
    have w2:=wr8 (x:=c+97 - 65) (by omega) (by omega)
    obtain ⟨b',h1,h2,h3⟩:=vS n t ht r (P++[c+32]) m (⟨b.n,fun q=>if q=P.length∧q<b.n then c+97 - 65 else b.at' q⟩:Sq Int)
     (by rw [Z2,hb,List.set_append_right _ _ (Nat.le_refl _),Nat.sub_self,show c+97 - 65=c+32 by omega];simp) hbn
     (fun x hx=>by
      simp only [List.append_assoc,List.mem_append,List.mem_cons,List.mem_nil_iff,or_false,false_or,List.cons_append,List.nil_append] at hx
      rcases hx with h | h | h
      · exact hr x (by simp [h])
      · omega
      · exact hr x (by simp [h])) (by simpa using hm)
    refine ⟨b',?_,by rw [h2];simp [low,hlow],h3⟩
    have b1:c≥65:=hlow.1
    simp only [Cc,Qh,a1,a2,a3,Int.toNat_natCast,hat,e1,w1,w2,b1,hlow.2]
    simpa using h1
  · obtain ⟨b',h1,h2,h3⟩:=vS n t ht r (P++[c]) m b (by rw [hb];simp) hbn (fun x hx=>hr x (by simpa using hx)) (by simpa using hm)
    refine ⟨b',?_,by rw [h2];simp [low,hlow],h3⟩
    have h1':Cc n m t ((P.length+1:Nat):Int) b=some (.out b'):=by simpa using h1
    by_cases b1:c≥65
    · have b2:¬c≤90:=fun h=>hlow ⟨b1,h⟩
      simp only [Cc,Qh,a1,a2,a3,Int.toNat_natCast,hat,e1,b1,b2]
      simpa using h1'
    · simp only [Cc,Qh,a1,a2,a3,Int.toNat_natCast,hat,e1,b1]
      simpa using h1'
theorem Z0 {c:Int} (h:0≤c∧c<256):0≤low c∧low c<256:=by unfold low;split<;>omega
theorem J5 (n:Nat) (s:BA) (hs:s.size≤1000000) (hn:10000000≤n):∃ t,Wt n s=some t∧bs t=(bs s).map low:=by
 obtain ⟨b',h1,h2,h3⟩:=vS n s.size hs (bs s) [] n (⟨s.size,fun q=>bt s q⟩:Sq Int) (V9 s) rfl (fun c hc=>jT (by simpa using hc)) (by rw [za];omega)
 refine ⟨Oh b'.n b'.at',?_,?_⟩
 · unfold Wt DC
   rw [show (([]:List Int).length:Int)=0 from rfl] at h1
   rw [h1];rfl
 · rw [kH fun i hi=>?_]
   · have:sqL id b'=(List.range b'.n).map b'.at':=rfl
     rw [←this,h2];rfl
   · have:=Ik (f:=id) (q:=b') hi
     rw [h2] at this
     have hm:=List.mem_of_getElem? this
     simp only [List.nil_append,List.mem_map] at hm
     obtain ⟨c,hc,e⟩:=hm
     have:=Z0 (jT hc)
     rw [e] at this
     exact this
theorem JQ (n:Nat) (t:Nat) (ht:t≤1000000):∀ (r P:List Int) (m:Nat) (b:Sq Int),sqL id b=P++r→b.n=t→(∀ c∈P++r,0≤c∧c<256)→r.length<m→
  ∃ b',Kc n m P.length b=some (.out b')∧sqL id b'=P++r.map low∧b'.n=t
 | [],P,m,b,hb,hbn,hr,hm=>by
  obtain ⟨m,rfl⟩:∃ q,m=q+1:=⟨m - 1,by omega⟩
  have hl:=Nc id b
  rw [hb,List.append_nil] at hl
  refine ⟨b,?_,by simpa using hb,hbn⟩
  have:¬((P.length:Int)<(b.n:Int)):=by omega
  simp [Kc,di,this]
 | c::r,P,m,b,hb,hbn,hr,hm=>by
  obtain ⟨m,rfl⟩:∃ q,m=q+1:=⟨m - 1,by omega⟩
  have hl:=Nc id b
  rw [hb,hbn] at hl
  simp at hl
  have hat:b.at' P.length=c:=by
   have h1:=Ik (f:=id) (q:=b) (i:=P.length) (by omega)
   rw [hb,List.getElem?_append_right (Nat.le_refl _),Nat.sub_self] at h1
   simpa using h1.symm
  have hc:=hr c (by simp)
  have e1:=wr1 (k:=P.length) (by omega)
  have a2:(0:Int)≤(P.length:Int):=by omega
  have a3:(P.length:Int)<(b.n:Int):=by omega
  by_cases hlow:65≤c∧c≤90
  · have w1:=wr8 (x:=c+32) (by omega) (by omega)
    obtain ⟨b',h1,h2,h3⟩:=JQ n t ht r (P++[c+32]) m (⟨b.n,fun q=>if q=P.length∧q<b.n then c+32 else b.at' q⟩:Sq Int)
     (by rw [Z2,hb,List.set_append_right _ _ (Nat.le_refl _),Nat.sub_self];simp) hbn
     (fun x hx=>by
      simp only [List.append_assoc,List.mem_append,List.mem_cons,List.mem_nil_iff,or_false,false_or,List.cons_append,List.nil_append] at hx
      rcases hx with h | h | h
      · exact hr x (by simp [h])
      · omega
      · exact hr x (by simp [h])) (by simpa using hm)
    refine ⟨b',?_,by rw [h2];simp [low,hlow],h3⟩
    have b1:c≥65:=hlow.1
    simp only [Kc,di,a2,a3,Int.toNat_natCast,hat,e1,w1,b1,hlow.2]
    simpa using h1
  · obtain ⟨b',h1,h2,h3⟩:=JQ n t ht r (P++[c]) m b (by rw [hb];simp) hbn (fun x hx=>hr x (by simpa using hx)) (by simpa using hm)
    refine ⟨b',?_,by rw [h2];simp [low,hlow],h3⟩
    have h1':Kc n m ((P.length+1:Nat):Int) b=some (.out b'):=by simpa using h1
    by_cases b1:c≥65
    · have b2:¬c≤90:=fun h=>hlow ⟨b1,h⟩
      simp only [Kc,di,a2,a3,Int.toNat_natCast,hat,e1,b1,b2]
      simpa using h1'
    · simp only [Kc,di,a2,a3,Int.toNat_natCast,hat,e1,b1]
      simpa using h1'
theorem m4 (n:Nat) (s:BA) (hs:s.size≤1000000) (hn:10000000≤n):∃ t,dm n s=some t∧bs t=(bs s).map low:=by
 obtain ⟨b',h1,h2,h3⟩:=JQ n s.size hs (bs s) [] n (⟨s.size,fun q=>bt s q⟩:Sq Int) (V9 s) rfl (fun c hc=>jT (by simpa using hc)) (by rw [za];omega)
 refine ⟨Oh b'.n b'.at',?_,?_⟩
 · unfold dm PC
   rw [show (([]:List Int).length:Int)=0 from rfl] at h1
   rw [h1];rfl
 · rw [kH fun i hi=>?_]
   · have:sqL id b'=(List.range b'.n).map b'.at':=rfl
     rw [←this,h2];rfl
   · have:=Ik (f:=id) (q:=b') hi
     rw [h2] at this
     have hm:=List.mem_of_getElem? this
     simp only [List.nil_append,List.mem_map] at hm
     obtain ⟨c,hc,e⟩:=hm
     have:=Z0 (jT hc)
     rw [e] at this
     exact this
open Go
def esc:List Int→List Int
 | []=>[]
 | c::r=>if c=34∨c=92 then 92::c::esc r else c::esc r
def okc (c:Int):Bool:=decide (32≤c)&&decide (c≤126)
def qd:List Int→Option (List Int×List Int)
 | []=>none
 | c::r=>if c=34 then some ([],r) else if c=92 then (match r with
   | []=>none
   | d::r'=>if okc d=true then (qd r').map fun x=>(d::x.1,x.2) else none)
  else if okc c=true then (qd r).map fun x=>(c::x.1,x.2) else none
theorem yh (c:Int) (r:List Int):qd (c::r)=if c=34 then some ([],r) else if c=92 then (match r with
   | []=>none
   | d::r'=>if okc d=true then (qd r').map fun x=>(d::x.1,x.2) else none)
  else if okc c=true then (qd r).map fun x=>(c::x.1,x.2) else none:=by
 conv=>lhs;unfold qd
theorem x0:∀ l:List Int,(esc l).length≤2*l.length
 | []=>by simp [esc]
 | c::r=>by
  have:=x0 r
  simp only [esc]
  split<;>simp<;>omega
theorem wx (n:Nat) (b:Bool):jc n b=some (if b=true then .ok () else .error 8):=by
 unfold jc TG
 cases b<;>rfl
theorem MS (n:Nat) (c:Int) (r1:Sq Int) (h:r1.n≤4000000):∃ r2,ib n c r1=some (r2,())∧sqL id r2=sqL id r1++[c]∧r2.n=r1.n+1:=by
 refine ⟨_,?_,eD id r1 c (Ba (.int .u8)),rfl⟩
 unfold ib Ci Ce Di
 rw [Option.bind_some,if_pos (E9 h)]
theorem GZ (n:Nat) (c:Int):∃ r2,ic n c=some (r2,())∧sqL id r2=[c]∧r2.n=1:=by
 refine ⟨_,rfl,?_,rfl⟩
 show [_]=[c]
 rfl
theorem DZ (n:Nat) (r1:Sq Int) (h:r1.n≤4000000) (hr:∀ c∈sqL id r1,0≤c∧c<256):∃ t,Zd n r1=some (t,())∧bs t=sqL id r1:=by
 refine ⟨Oh r1.n r1.at',?_,?_⟩
 · unfold Zd Qn
   rw [if_pos ⟨rfl,by omega⟩]
 · exact kH (f:=r1.at') fun i hi=>hr _ (List.mem_of_getElem? (Ik (f:=id) hi))
theorem map_none {α β:Type} {f:α→β} {x:Option α} (h:x.map f=none):x=none:=by cases x with
 | none=>rfl
 | some _=>cases h
theorem FH (n:Nat) (s:BA) (hs:s.size≤1000000):∀ (N:Nat) (r:List Int) (k m:Nat) (r1:Sq Int),r.length≤N→(bs s).drop k=r→k≤s.size→r1.n≤k→(∀ c∈sqL id r1,0≤c∧c<256)→r.length<m→
  match qd r with
  | none=>Ja n m s k r1=some (.pan 8)
  | some (mean,rest)=>∃ t1 t2,Ja n m s k r1=some (.ret (t1,t2))∧bs t1=sqL id r1++mean∧bs t2=rest
 | N,[],k,m,r1,hN,h,hk,hr1,hb,hm=>by
  obtain ⟨m,rfl⟩:∃ q,m=q+1:=⟨m - 1,by omega⟩
  have:=pp h
  simp only [qd]
  simp [Ja,rc,this,wx,onX]
 | 0,c::r,k,m,r1,hN,_,_,_,_,_=>by simp at hN
 | N+1,c::r,k,m,r1,hN,h,hk,hr1,hb,hm=>by
  obtain ⟨m,rfl⟩:∃ q,m=q+1:=⟨m - 1,by omega⟩
  obtain ⟨h1,h2,h3,h4,h5⟩:=Rh h
  have e1:=wr1 (k:=k) (by omega)
  have a1:(0:Int)≤(k:Int):=by omega
  have a2:(0:Int)≤((k+1:Nat):Int):=by omega
  have a3:((k+1:Nat):Int)≤(s.size:Int):=by omega
  have hm':(jc n true)=some (.ok ()):=wx n true
  have hm2:(jc n false)=some (.error 8):=wx n false
  have hd1:decide ((k:Int)<(s.size:Int))=true:=decide_eq_true h1
  by_cases g1:c=34
  · subst g1
    obtain ⟨t,ht,htb⟩:=DZ n r1 (by omega) hb
    have hq:qd (34::r)=some ([],r):=by rw [yh];rfl
    rw [hq]
    refine ⟨t,s.extract (k+1) s.size,?_,by rw [htb,List.append_nil],by rw [Ah,show (bs s).take s.size=bs s by rw [←za,List.take_length]];exact h3⟩
    simp only [Ja,rc,hd1,decide_true,decide_false,hm',h1,h2,a1,e1,a2,a3,ht,Option.bind_some,onX,Int.toNat_natCast]
    simp
  · have g1':(c==34)=false:=by simpa using g1
    by_cases g2:c=92
    · subst g2
      cases r with
      | nil=>
       have hq:qd [92]=none:=by rw [yh];rfl
       rw [hq]
       have hn:=pp h3
       have hd2:decide (((k+1:Nat):Int)<(s.size:Int))=false:=decide_eq_false hn
       simp only [Ja,rc,hd1,decide_true,decide_false,hm',h1,h2,a1,e1,hd2,hm2,Option.bind_some,onX]
       simp
      | cons d r=>
       obtain ⟨i1,i2,i3,i4,i5⟩:=Rh h3
       have e2:=wr1 (k:=k+1) (by omega)
       have hd2:decide (((k+1:Nat):Int)<(s.size:Int))=true:=decide_eq_true i1
       have hq:qd (92::d::r)=if okc d=true then (qd r).map fun x=>(d::x.1,x.2) else none:=by rw [yh];rfl
       rw [hq]
       by_cases g3:okc d=true
       · have hdd:32≤d∧d≤126:=by simpa [okc] using g3
         obtain ⟨r2,w1,w2,w3⟩:=MS n d r1 (by omega)
         have ih:=FH n s hs N r (k+2) m r2 (by simp at hN;omega) (by rw [←i3]) (by omega) (by omega) (fun x hx=>by
          rw [w2] at hx
          rcases List.mem_append.1 hx with hx | hx
          · exact hb x hx
          · simp at hx;subst hx;omega) (by simp at hm;omega)
         have b1:decide (d≥32)=true:=decide_eq_true hdd.1
         have b2:decide (d≤126)=true:=decide_eq_true hdd.2
         have hstep:Ja n (m+1) s k r1=Ja n m s ((k+1+1:Nat):Int) r2:=by
          simp only [Ja,rc,hd1,decide_true,decide_false,hm',h1,h2,a1,e1,hd2,i1,i2,a2,b1,b2,w1,e2,Option.bind_some,onX]
          simp
         rw [hstep,if_pos g3]
         cases hqr:qd r with
         | none=>rw [hqr] at ih;exact ih
         | some x=>
          rw [hqr] at ih
          obtain ⟨t1,t2,j1,j2,j3⟩:=ih
          exact ⟨t1,t2,j1,by rw [j2,w2];simp,j3⟩
       · rw [if_neg g3]
         by_cases b1:d≥32
         · have b2:¬d≤126:=fun hb=>g3 (by simp [okc];omega)
           have b1':decide (d≥32)=true:=decide_eq_true b1
           have b2':decide (d≤126)=false:=decide_eq_false b2
           simp only [Ja,rc,hd1,decide_true,decide_false,hm',h1,h2,a1,e1,hd2,i1,i2,a2,b1',b2',hm2,Option.bind_some,onX]
           simp
         · have b1':decide (d≥32)=false:=decide_eq_false b1
           simp only [Ja,rc,hd1,decide_true,decide_false,hm',h1,h2,a1,e1,hd2,i1,i2,a2,b1',hm2,Option.bind_some,onX]
           simp
    · have g2':(c==92)=false:=by simpa using g2
      have hq:qd (c::r)=if okc c=true then (qd r).map fun x=>(c::x.1,x.2) else none:=by rw [yh,if_neg g1,if_neg g2]
      rw [hq]
      by_cases g3:okc c=true
      · have hdd:32≤c∧c≤126:=by simpa [okc] using g3
        obtain ⟨r2,w1,w2,w3⟩:=MS n c r1 (by omega)
        have ih:=FH n s hs N r (k+1) m r2 (by simp at hN;omega) h3 (by omega) (by omega) (fun x hx=>by
         rw [w2] at hx
         rcases List.mem_append.1 hx with hx | hx
         · exact hb x hx
         · simp at hx;subst hx;omega) (by simp at hm;omega)
        have b1:decide (c≥32)=true:=decide_eq_true hdd.1
        have b2:decide (c≤126)=true:=decide_eq_true hdd.2
        have hstep:Ja n (m+1) s k r1=Ja n m s ((k+1:Nat):Int) r2:=by
         simp only [Ja,rc,hd1,decide_true,decide_false,hm',h1,h2,a1,e1,g1',g2',b1,b2,w1,Option.bind_some,onX]
         simp
        rw [hstep,if_pos g3]
        cases hqr:qd r with
        | none=>rw [hqr] at ih;exact ih
        | some x=>
         rw [hqr] at ih
         obtain ⟨t1,t2,j1,j2,j3⟩:=ih
         exact ⟨t1,t2,j1,by rw [j2,w2];simp,j3⟩
      · rw [if_neg g3]
        by_cases b1:c≥32
        · have b2:¬c≤126:=fun hb=>g3 (by simp [okc];omega)
          have b1':decide (c≥32)=true:=decide_eq_true b1
          have b2':decide (c≤126)=false:=decide_eq_false b2
          simp only [Ja,rc,hd1,decide_true,decide_false,hm',h1,h2,a1,e1,g1',g2',b1',b2',hm2,Option.bind_some,onX]
          simp
        · have b1':decide (c≥32)=false:=decide_eq_false b1
          simp only [Ja,rc,hd1,decide_true,decide_false,hm',h1,h2,a1,e1,g1',g2',b1',hm2,Option.bind_some,onX]
          simp
open Go
theorem Z1 (n:Nat) (s:BA) (hs:s.size≤1000000) (hn:10000000≤n):match qd ((bs s).drop 1) with
  | none=>me n s=some (.error 8)
  | some (mean,rest)=>∃ t1 t2,me n s=some (.ok (t1,t2,()))∧bs t1=mean∧bs t2=rest:=by
 have hm':(jc n true)=some (.ok ()):=wx n true
 have hm2:(jc n false)=some (.error 8):=wx n false
 have w2:IntKind.wrap .i64 ((1:Int)+(1:Int))=((2:Nat):Int):=wr1 (k:=1) (by decide)
 have w3:IntKind.wrap .i64 (((2:Nat):Int)+(1:Int))=((3:Nat):Int):=wr1 (k:=2) (by decide)
 have a0:(0:Int)≤1:=by decide
 have a2:(0:Int)≤((2:Nat):Int):=by decide
 cases h:(bs s).drop 1 with
 | nil=>
  have hk:¬((1:Int)<(s.size:Int)):=pp (k:=1) h
  rw [show qd []=none from rfl]
  unfold me If
  simp only [hk,decide_false,hm2,Option.bind_some,onX]
 | cons c r=>
  obtain ⟨h1',h2',h3,h4,h5⟩:=Rh h
  have h1:(1:Int)<(s.size:Int):=h1'
  have h2:bt s (1:Int)=c:=h2'
  have a3:((2:Nat):Int)≤(s.size:Int):=by omega
  by_cases g1:c=34
  · subst g1
    rw [show qd (34::r)=some ([],r) by rw [yh];rfl]
    refine ⟨_,s.extract 2 s.size,?_,(rfl:bs (⟨#[]⟩:BA)=[]),by rw [Ah,show (bs s).take s.size=bs s by rw [←za,List.take_length]];exact h3⟩
    unfold me If ni Rn
    simp only [h1,decide_true,decide_false,hm',h2,a0,w2,a2,a3,Option.bind_some,onX,Int.toNat_natCast]
    rfl
  · have g1':(c==34)=false:=by simpa using g1
    by_cases g2:c=92
    · subst g2
      cases r with
      | nil=>
       have hn':¬(((2:Nat):Int)<(s.size:Int)):=pp (k:=2) h3
       rw [show qd [92]=none by rw [yh];rfl]
       unfold me If
       simp only [h1,hn',decide_true,decide_false,hm',hm2,h2,a0,w2,Option.bind_some,onX]
       rfl
      | cons d r=>
       obtain ⟨i1',i2',i3,i4,i5⟩:=Rh h3
       have i1:((2:Nat):Int)<(s.size:Int):=i1'
       have i2:bt s ((2:Nat):Int)=d:=i2'
       have hq:qd (92::d::r)=if okc d=true then (qd r).map fun x=>(d::x.1,x.2) else none:=by rw [yh];rfl
       rw [hq]
       by_cases g3:okc d=true
       · have hdd:32≤d∧d≤126:=by simpa [okc] using g3
         obtain ⟨r2,x1,x2,x3⟩:=GZ n d
         have ih:=FH n s hs r.length r 3 n r2 (Nat.le_refl _) i3 (by omega) (by omega) (fun x hx=>by rw [x2] at hx;simp at hx;subst hx;omega) (by
          have:=congrArg List.length i3
          rw [List.length_drop,za] at this;omega)
         have b1:d≥32:=hdd.1
         have b2:d≤126:=hdd.2
         have hstep:me n s=(Ja n n s ((3:Nat):Int) r2).bind fun x=>onL x (fun _=>none) (fun a=>some (.ok (a.1,a.2,()))) (fun p=>some (.error p)):=by
          unfold me If
          simp only [h1,i1,i2,b1,b2,decide_true,decide_false,hm',h2,a0,w2,a2,x1,w3,Option.bind_some,onX]
          rfl
         rw [hstep,if_pos g3]
         cases hqr:qd r with
         | none=>rw [hqr] at ih;rw [ih];rfl
         | some x=>
          rw [hqr] at ih
          obtain ⟨t1,t2,j1,j2,j3⟩:=ih
          exact ⟨t1,t2,by rw [j1];rfl,by rw [j2,x2];rfl,j3⟩
       · rw [if_neg g3]
         unfold me If
         by_cases b1:d≥32
         · have b2:¬d≤126:=fun hb=>g3 (by simp [okc];omega)
           simp only [h1,i1,i2,b1,b2,decide_true,decide_false,hm',hm2,h2,a0,w2,a2,Option.bind_some,onX]
           rfl
         · simp only [h1,i1,i2,b1,decide_true,decide_false,hm',hm2,h2,a0,w2,a2,Option.bind_some,onX]
           rfl
    · have g2':(c==92)=false:=by simpa using g2
      have hq:qd (c::r)=if okc c=true then (qd r).map fun x=>(c::x.1,x.2) else none:=by rw [yh,if_neg g1,if_neg g2]
      rw [hq]
      by_cases g3:okc c=true
      · have hdd:32≤c∧c≤126:=by simpa [okc] using g3
        obtain ⟨r2,x1,x2,x3⟩:=GZ n c
        have ih:=FH n s hs r.length r 2 n r2 (Nat.le_refl _) h3 (by omega) (by omega) (fun x hx=>by rw [x2] at hx;simp at hx;subst hx;omega) (by
         have:=congrArg List.length h3
         rw [List.length_drop,za] at this;omega)
        have b1:c≥32:=hdd.1
        have b2:c≤126:=hdd.2
        have hstep:me n s=(Ja n n s ((2:Nat):Int) r2).bind fun x=>onL x (fun _=>none) (fun a=>some (.ok (a.1,a.2,()))) (fun p=>some (.error p)):=by
         unfold me If
         simp only [h1,b1,b2,decide_true,decide_false,hm',h2,g1',g2',a0,w2,x1,Option.bind_some,onX]
         rfl
        rw [hstep,if_pos g3]
        cases hqr:qd r with
        | none=>rw [hqr] at ih;rw [ih];rfl
        | some x=>
         rw [hqr] at ih
         obtain ⟨t1,t2,j1,j2,j3⟩:=ih
         exact ⟨t1,t2,by rw [j1];rfl,by rw [j2,x2];rfl,j3⟩
      · rw [if_neg g3]
        unfold me If
        by_cases b1:c≥32
        · have b2:¬c≤126:=fun hb=>g3 (by simp [okc];omega)
          simp only [h1,b1,b2,decide_true,decide_false,hm',hm2,h2,g1',g2',a0,Option.bind_some,onX]
          rfl
        · simp only [h1,b1,decide_true,decide_false,hm',hm2,h2,g1',g2',a0,Option.bind_some,onX]
          rfl
theorem TI {b b':Sq Int} {c:Int} (h:sqL id b'=sqL id b++[c]) (hb:∀ c∈sqL id b,0≤c∧c<256) (hc:0≤c∧c<256):∀ c∈sqL id b',0≤c∧c<256:=fun x hx=>by
 rw [h] at hx
 rcases List.mem_append.1 hx with hx | hx
 · exact hb x hx
 · simp at hx;subst hx;exact hc
theorem nR (n:Nat) (s:BA) (hs:s.size≤1000000):∀ (N:Nat) (r:List Int) (k m:Nat) (b:Sq Int),r.length≤N→(bs s).drop k=r→k≤s.size→b.n≤k→(∀ c∈sqL id b,0≤c∧c<256)→r.length<m→
  match qd r with
  | none=>fb n m s k b=some (.out ())
  | some (mean,rest)=>∃ t,fb n m s k b=some (.ret (t,((s.size - rest.length:Nat):Int),true))∧bs t=sqL id b++mean
 | N,[],k,m,b,hN,h,hk,hr1,hb,hm=>by
  obtain ⟨m,rfl⟩:∃ q,m=q+1:=⟨m - 1,by omega⟩
  have:=pp h
  rw [show qd []=none from rfl]
  simp [fb,od,this]
 | 0,c::r,k,m,b,hN,_,_,_,_,_=>by simp at hN
 | N+1,c::r,k,m,b,hN,h,hk,hr1,hb,hm=>by
  obtain ⟨m,rfl⟩:∃ q,m=q+1:=⟨m - 1,by omega⟩
  obtain ⟨h1,h2,h3,h4,h5⟩:=Rh h
  have e1:=wr1 (k:=k) (by omega)
  have a1:(0:Int)≤(k:Int):=by omega
  have a2:(0:Int)≤((k+1:Nat):Int):=by omega
  have f1:=E9 (n:=b.n) (by omega)
  by_cases g1:c=34
  · subst g1
    rw [show qd (34::r)=some ([],r) by rw [yh];rfl]
    have hl:s.size - r.length=k+1:=by
     have:=congrArg List.length h3
     rw [List.length_drop,za] at this;omega
    refine ⟨Oh b.n b.at',?_,?_⟩
    · rw [hl]
      simp only [fb,od,h1,h2,a1,e1,decide_true]
      rfl
    · rw [List.append_nil]
      exact kH (f:=b.at') fun i hi=>hb _ (List.mem_of_getElem? (Ik (f:=id) hi))
  · have g1':(c==34)=false:=by simpa using g1
    by_cases g2:c=92
    · subst g2
      cases r with
      | nil=>
       have hn':=pp h3
       have hn2:((k+1:Nat):Int)≥(s.size:Int):=by omega
       rw [show qd [92]=none by rw [yh];rfl]
       simp only [fb,od,h1,h2,a1,e1,hn2,decide_true,decide_false]
       rfl
      | cons d r=>
       obtain ⟨i1,i2,i3,i4,i5⟩:=Rh h3
       have e2:=wr1 (k:=k+1) (by omega)
       have hn2:¬(((k+1:Nat):Int)≥(s.size:Int)):=by omega
       have hq:qd (92::d::r)=if okc d=true then (qd r).map fun x=>(d::x.1,x.2) else none:=by rw [yh];rfl
       rw [hq]
       by_cases g3:okc d=true
       · have hdd:32≤d∧d≤126:=by simpa [okc] using g3
         have hsn:=eD id b d (Ba (.int .u8))
         have ih:=nR n s hs N r (k+2) m _ (by simp at hN;omega) (by rw [←i3]) (by omega) (by show b.n+1≤k+2;omega) (TI hsn hb ⟨i4,i5⟩) (by simp at hm;omega)
         have b1:¬d<32:=by omega
         have b2:¬d>126:=by omega
         have hstep:fb n (m+1) s k b=fb n m s ((k+1+1:Nat):Int) (⟨b.n+1,fun i=>if i<b.n then b.at' i else (fun i=>List.getD [d] i (Ba (.int .u8))) (i - b.n)⟩:Sq Int):=by
          simp only [fb,od,h1,h2,a1,e1,hn2,i1,i2,a2,b1,b2,f1,e2,decide_true,decide_false]
          rfl
         rw [hstep,if_pos g3]
         cases hqr:qd r with
         | none=>rw [hqr] at ih;exact ih
         | some x=>
          rw [hqr] at ih
          obtain ⟨t1,j1,j2⟩:=ih
          exact ⟨t1,j1,by rw [j2];refine (congrArg (· ++x.1) hsn).trans ?_;simp⟩
       · rw [if_neg g3]
         by_cases b1:d<32
         · simp only [fb,od,h1,h2,a1,e1,hn2,i1,i2,a2,b1,decide_true,decide_false]
           rfl
         · have b2:d>126:=by simp [okc] at g3;omega
           simp only [fb,od,h1,h2,a1,e1,hn2,i1,i2,a2,b1,b2,decide_true,decide_false]
           rfl
    · have g2':(c==92)=false:=by simpa using g2
      have hq:qd (c::r)=if okc c=true then (qd r).map fun x=>(c::x.1,x.2) else none:=by rw [yh,if_neg g1,if_neg g2]
      rw [hq]
      by_cases g3:okc c=true
      · have hdd:32≤c∧c≤126:=by simpa [okc] using g3
        have hsn:=eD id b c (Ba (.int .u8))
        have ih:=nR n s hs N r (k+1) m _ (by simp at hN;omega) h3 (by omega) (by show b.n+1≤k+1;omega) (TI hsn hb ⟨h4,h5⟩) (by simp at hm;omega)
        have b1:¬c<32:=by omega
        have b2:¬c>126:=by omega
        have hstep:fb n (m+1) s k b=fb n m s ((k+1:Nat):Int) (⟨b.n+1,fun i=>if i<b.n then b.at' i else (fun i=>List.getD [c] i (Ba (.int .u8))) (i - b.n)⟩:Sq Int):=by
         simp only [fb,od,h1,h2,a1,e1,g1',g2',b1,b2,f1,decide_true,decide_false]
         rfl
        rw [hstep,if_pos g3]
        cases hqr:qd r with
        | none=>rw [hqr] at ih;exact ih
        | some x=>
         rw [hqr] at ih
         obtain ⟨t1,j1,j2⟩:=ih
         exact ⟨t1,j1,by rw [j2];refine (congrArg (· ++x.1) hsn).trans ?_;simp⟩
      · rw [if_neg g3]
        by_cases b1:c<32
        · simp only [fb,od,h1,h2,a1,e1,g1',g2',b1,decide_true,decide_false]
          rfl
        · have b2:c>126:=by simp [okc] at g3;omega
          simp only [fb,od,h1,h2,a1,e1,g1',g2',b1,b2,decide_true,decide_false]
          rfl
theorem vX (n:Nat) (s:BA) (hs:s.size≤1000000) (h1:1≤s.size) (hn:10000000≤n):match qd ((bs s).drop 1) with
  | none=>ru n s=some ((⟨#[]⟩:BA),(0:Int),false,())
  | some (mean,rest)=>∃ t,ru n s=some (t,((s.size - rest.length:Nat):Int),true,())∧bs t=mean:=by
 have h:=nR n s hs ((bs s).drop 1).length _ 1 n (⟨0,fun _=>Ba (.int .u8)⟩:Sq Int) (Nat.le_refl _) rfl h1 (Nat.zero_le _) (fun c hc=>by simp [sqL] at hc) (by rw [List.length_drop,za];omega)
 unfold ru XC
 rw [show ((1:Nat):Int)=1 from rfl] at h
 cases hq:qd ((bs s).drop 1) with
 | none=>rw [hq] at h;simp only at h ⊢;rw [h];rfl
 | some x=>
  rw [hq] at h
  obtain ⟨t,j1,j2⟩:=h
  exact ⟨t,by rw [j1];rfl,by rw [j2];rfl⟩
open Go
theorem WO {a b:BA} (h:a.size+b.size≤9000000000):Ca a b=true:=by
 unfold Ca
 rw [Nat.ble_eq];omega
theorem oH (c:Int) (r:List Int):esc (c::r)=(if c=34∨c=92 then [92,c] else [c])++esc r:=by
 simp only [esc];split<;>rfl
theorem z7 {s:BA} {k:Nat} {c:Int} {r:List Int} (h:(bs s).drop k=c::r):bs (s.extract k (k+1))=[c]:=by
 rw [jX h (Nat.le_refl _),fR];rfl
theorem gO (n:Nat) (s:BA) (hs:s.size≤1000000):∀ (r:List Int) (k m:Nat) (q:BA),(bs s).drop k=r→k≤s.size→q.size≤2*k+1→r.length<m→
  ∃ q',pd n m s q k=some (.out q')∧bs q'=bs q++esc r∧q'.size≤2*s.size+1
 | [],k,m,q,h,hk,hq,hm=>by
  obtain ⟨m,rfl⟩:∃ q,m=q+1:=⟨m - 1,by omega⟩
  have:=pp h
  exact ⟨q,by simp [pd,ji,this],by simp [esc],by omega⟩
 | c::r,k,m,q,h,hk,hq,hm=>by
  obtain ⟨m,rfl⟩:∃ q,m=q+1:=⟨m - 1,by omega⟩
  obtain ⟨h1,h2,h3,h4,h5⟩:=Rh h
  have e1:=wr1 (k:=k) (by omega)
  have a1:(0:Int)≤(k:Int):=by omega
  have a2:(0:Int)≤((k+1:Nat):Int):=by omega
  have a3:((k+1:Nat):Int)≤(s.size:Int):=by omega
  have a4:(k:Int)≤((k+1:Nat):Int):=by omega
  have hx:=z7 h
  have hxs:(s.extract k (k+1)).size=1:=by rw [←za,hx];rfl
  have h92:bs (⟨#[92]⟩:BA)=[92]:=rfl
  have h92s:(⟨#[92]⟩:BA).size=1:=rfl
  by_cases g:c=34∨c=92
  · have hsz:((q++(⟨#[92]⟩:BA))++s.extract k (k+1)).size=q.size+2:=by
     rw [←za,Zn,Zn,List.length_append,List.length_append,za,hx,h92];rfl
    have hsz1:(q++(⟨#[92]⟩:BA)).size=q.size+1:=by rw [←za,Zn,List.length_append,za,h92];rfl
    have f1:Ca q (⟨#[92]⟩:BA)=true:=WO (by rw [h92s];omega)
    have f2:Ca (q++(⟨#[92]⟩:BA)) (s.extract k (k+1))=true:=WO (by omega)
    obtain ⟨q',j1,j2,j3⟩:=gO n s hs r (k+1) m ((q++(⟨#[92]⟩:BA))++s.extract k (k+1)) h3 (by omega) (by omega) (by simp at hm;omega)
    refine ⟨q',?_,by rw [j2,Zn,Zn,hx,h92,oH,if_pos g];simp,j3⟩
    rw [←j1]
    rcases g with rfl | rfl
    · simp only [pd,ji,h1,h2,a1,e1,a2,a3,a4,f1,f2,Int.toNat_natCast,decide_true]
      rfl
    · simp only [pd,ji,h1,h2,a1,e1,a2,a3,a4,f1,f2,Int.toNat_natCast,decide_true]
      rfl
  · have hsz:(q++s.extract k (k+1)).size=q.size+1:=by rw [←za,Zn,List.length_append,za,hx];rfl
    have f2:Ca q (s.extract k (k+1))=true:=WO (by omega)
    obtain ⟨q',j1,j2,j3⟩:=gO n s hs r (k+1) m (q++s.extract k (k+1)) h3 (by omega) (by omega) (by simp at hm;omega)
    refine ⟨q',?_,by rw [j2,Zn,hx,oH,if_neg g];simp,j3⟩
    have g1:(c==34)=false:=by simp;exact fun e=>g (.inl e)
    have g2:(c==92)=false:=by simp;exact fun e=>g (.inr e)
    rw [←j1]
    simp only [pd,ji,h1,h2,g1,g2,a1,e1,a2,a3,a4,f2,Int.toNat_natCast,decide_true]
    rfl
def qt (l:List Int):List Int:=34::esc l++[34]
theorem DU (n:Nat) (s:BA) (hs:s.size≤1000000) (hn:10000000≤n):∃ t,cy n s=some t∧bs t=qt (bs s):=by
 obtain ⟨q',j1,j2,j3⟩:=gO n s hs (bs s) 0 n (⟨#[34]⟩:BA) (by simp) (by omega) (by decide) (by rw [za];omega)
 refine ⟨q'++(⟨#[34]⟩:BA),?_,by rw [Zn,j2];rfl⟩
 unfold cy ZC
 rw [show ((0:Nat):Int)=0 from rfl] at j1
 rw [j1,Option.bind_some]
 simp only [onL]
 rw [if_pos (WO (by rw [show (⟨#[34]⟩:BA).size=1 from rfl];omega))]
theorem DR (n:Nat) (s:BA) (hs:s.size≤1000000):∀ (r:List Int) (k m:Nat) (q:Sq Int),(bs s).drop k=r→k≤s.size→q.n≤2*k+1→(∀ c∈sqL id q,0≤c∧c<256)→r.length<m→
  ∃ q',Zc n m s s.size k q=some (.out q')∧sqL id q'=sqL id q++esc r∧q'.n≤2*s.size+1∧(∀ c∈sqL id q',0≤c∧c<256)
 | [],k,m,q,h,hk,hq,hb,hm=>by
  obtain ⟨m,rfl⟩:∃ q,m=q+1:=⟨m - 1,by omega⟩
  have:=pp h
  exact ⟨q,by simp [Zc,Ph,this],by simp [esc],by omega,hb⟩
 | c::r,k,m,q,h,hk,hq,hb,hm=>by
  obtain ⟨m,rfl⟩:∃ q,m=q+1:=⟨m - 1,by omega⟩
  obtain ⟨h1,h2,h3,h4,h5⟩:=Rh h
  have e1:=wr1 (k:=k) (by omega)
  have a1:(0:Int)≤(k:Int):=by omega
  by_cases g:c=34∨c=92
  · obtain ⟨q1,w1,w2,w3⟩:=MS n 92 q (by omega)
    obtain ⟨q2,x1,x2,x3⟩:=MS n c q1 (by omega)
    have hb1:=TI w2 hb ⟨by decide,by decide⟩
    have hb2:=TI x2 hb1 ⟨h4,h5⟩
    obtain ⟨q',j1,j2,j3,j4⟩:=DR n s hs r (k+1) m q2 h3 (by omega) (by omega) hb2 (by simp at hm;omega)
    refine ⟨q',?_,by rw [j2,x2,w2,oH,if_pos g];simp,j3,j4⟩
    rw [←j1]
    rcases g with rfl | rfl
    · simp only [Zc,Ph,h1,h2,a1,e1,w1,x1,decide_true,Option.bind_some]
      rfl
    · simp only [Zc,Ph,h1,h2,a1,e1,w1,x1,decide_true,Option.bind_some]
      rfl
  · obtain ⟨q2,x1,x2,x3⟩:=MS n c q (by omega)
    have hb2:=TI x2 hb ⟨h4,h5⟩
    obtain ⟨q',j1,j2,j3,j4⟩:=DR n s hs r (k+1) m q2 h3 (by omega) (by omega) hb2 (by simp at hm;omega)
    refine ⟨q',?_,by rw [j2,x2,oH,if_neg g];simp,j3,j4⟩
    have g1:(c==34)=false:=by simp;exact fun e=>g (.inl e)
    have g2:(c==92)=false:=by simp;exact fun e=>g (.inr e)
    rw [←j1]
    simp only [Zc,Ph,h1,h2,g1,g2,a1,e1,x1,decide_true,Option.bind_some]
    rfl
def qs (l:List Int):List Int:=if pl 0 l=true then l else qt l
theorem y5 (n:Nat) (s:BA) (hs:s.size≤1000000) (hn:10000000≤n):∃ t,BC n s=some t∧bs t=qs (bs s):=by
 unfold BC CC qs
 rw [LX n s (by omega) (by omega),Option.bind_some]
 by_cases hp:pl 0 (bs s)=true
 · rw [if_pos hp,if_pos hp]
   exact ⟨s,rfl,rfl⟩
 · rw [if_neg hp,if_neg hp]
   obtain ⟨q0,w1,w2,w3⟩:=GZ n 34
   have hb0:∀ c∈sqL id q0,0≤c∧c<256:=fun c hc=>by rw [w2] at hc;simp at hc;subst hc;omega
   obtain ⟨q',j1,j2,j3,j4⟩:=DR n s hs (bs s) 0 n q0 (by simp) (by omega) (by omega) hb0 (by rw [za];omega)
   obtain ⟨t,s1,s2⟩:=DZ n q' (by omega) j4
   have hts:t.size≤2*s.size+1:=by
    have:=congrArg List.length s2
    rw [za,Nc] at this;omega
   refine ⟨t++(⟨#[34]⟩:BA),?_,by rw [Zn,s2,j2,w2];rfl⟩
   rw [show ((0:Nat):Int)=0 from rfl] at j1
   rw [w1,Option.bind_some,j1,Option.bind_some]
   simp only [onL]
   rw [s1,Option.bind_some,if_pos (WO (by show t.size+(⟨#[34]⟩:BA).size≤9000000000;rw [show (⟨#[34]⟩:BA).size=1 from rfl];omega))]
theorem G6 (l:List Int):(qt l).length≤2*l.length+2:=by
 have:=x0 l
 simp [qt];omega
theorem Q9 (l:List Int):(qs l).length≤2*l.length+2:=by
 unfold qs
 split
 · omega
 · exact G6 l
theorem sQ:∀ (N:Nat) (r:List Int),r.length≤N→∀ x,qd r=some x→x.1.length+x.2.length+1≤r.length
 | _,[],_,x,h=>by cases h
 | 0,c::r,h,_,_=>by simp at h
 | N+1,c::r,hN,x,h=>by
  rw [yh] at h
  split at h
  · cases h;simp
  · split at h
    · cases r with
      | nil=>cases h
      | cons d r=>
       simp only at h
       split at h
       · obtain ⟨y,hy,rfl⟩:=Option.map_eq_some_iff.1 h
         have:=sQ N r (by simp at hN;omega) y hy
         simp;omega
       · cases h
    · split at h
      · obtain ⟨y,hy,rfl⟩:=Option.map_eq_some_iff.1 h
        have:=sQ N r (by simp at hN;omega) y hy
        simp;omega
      · cases h
def loc (l:List Int):Option (List Int×List Int):=if l.head?=some 34 then (qd (l.drop 1)).map fun x=>(qs x.1,x.2)
 else if idx 64 l= -1 then none else if pl 0 (l.take (idx 64 l).toNat)=true then some (l.take (idx 64 l).toNat,l.drop (idx 64 l).toNat) else none
theorem Z4 (n:Nat) (s:BA) (hs:s.size≤1000000) (hn:10000000≤n):match loc (bs s) with
  | none=>bl n s=some (.error 8)
  | some (a,b)=>∃ t1 t2,bl n s=some (.ok (t1,t2,()))∧bs t1=a∧bs t2=b:=by
 have hm':(jc n true)=some (.ok ()):=wx n true
 have hm2:(jc n false)=some (.error 8):=wx n false
 unfold loc
 by_cases h:(bs s).head?=some 34
 · rw [if_pos h]
   have hq:=Z1 n s hs hn
   have hP:Sa n s (⟨#[34]⟩:BA)=some true:=by rw [Wk n s _ (c:=34) rfl,decide_eq_true h]
   cases hx:qd ((bs s).drop 1) with
   | none=>
    rw [hx] at hq
    simp only at hq
    simp only [Option.map_none]
    unfold bl Lk
    rw [hP,Option.bind_some,if_pos rfl,hq];rfl
   | some x=>
    rw [hx] at hq
    obtain ⟨t1,t2,j1,j2,j3⟩:=hq
    have hl:=sQ _ _ (Nat.le_refl _) x hx
    rw [List.length_drop,za,←j2,za] at hl
    obtain ⟨t3,k1,k2⟩:=y5 n t1 (by omega) hn
    simp only [Option.map_some]
    refine ⟨t3,t2,?_,by rw [k2,j2],j3⟩
    unfold bl Lk
    rw [hP,Option.bind_some,if_pos rfl,j1,Option.bind_some]
    simp only [onX]
    rw [k1];rfl
 · rw [if_neg h]
   have hP:Sa n s (⟨#[34]⟩:BA)=some false:=by rw [Wk n s _ (c:=34) rfl,decide_eq_false h]
   have hI:=QK n s (c:=64) (by decide) (by decide)
   have hge:=(Ar (c:=64) (bs s)).2
   have hlt:=HT 64 (bs s)
   by_cases hx:idx 64 (bs s)= -1
   · rw [if_pos hx]
     simp only
     have b1:¬((-1:Int)≥0):=by decide
     unfold bl Lk
     rw [hP,Option.bind_some,if_neg (by decide),hI,hx]
     simp only [b1,hm2,decide_false,Option.bind_some,onX]
     rfl
   · rw [if_neg hx]
     obtain ⟨k,hk⟩:∃ k:Nat,idx 64 (bs s)=(k:Int):=⟨(idx 64 (bs s)).toNat,by omega⟩
     have hks:k<s.size:=by have:=hlt.1;rw [za] at this;omega
     rw [hk,Int.toNat_natCast]
     have hb0:bs (s.extract 0 k)=(bs s).take k:=by rw [Ah];rfl
     have hb1:bs (s.extract k s.size)=(bs s).drop k:=by rw [Ah,←za,List.take_length]
     have hpl:=LX n (s.extract 0 k) (by have:=yg s 0 k;omega) (by have:=yg s 0 k;omega)
     rw [hb0] at hpl
     have a1:(k:Int)≥0:=by omega
     have a2:(0:Int)≤(k:Int):=by omega
     have a3:(k:Int)≤(s.size:Int):=by omega
     have hpl':Vt n (s.extract (Int.toNat (0:Int)) k)=some (pl 0 ((bs s).take k)):=hpl
     by_cases hp:pl 0 ((bs s).take k)=true
     · rw [if_pos hp]
       refine ⟨s.extract 0 k,s.extract k s.size,?_,hb0,hb1⟩
       unfold bl Lk
       rw [hP,Option.bind_some,if_neg (by decide),hI,hk]
       simp only [a1,a2,a3,hpl',hp,hm',decide_true,Option.bind_some,onX,Int.toNat_natCast]
       rfl
     · rw [if_neg hp]
       simp only
       unfold bl Lk
       rw [hP,Option.bind_some,if_neg (by decide),hI,hk]
       have hp':pl 0 ((bs s).take k)=false:=by simpa using hp
       simp only [a1,a2,a3,hpl',hp',hm2,decide_true,Option.bind_some,onX,Int.toNat_natCast]
       rfl
def CY (l:List Int):Bool:=decide (1≤l.length)&&decide (l.length≤64)&&(if l.head?=some 34 then (match qd (l.drop 1) with
  | none=>false
  | some x=>decide (x.2=[])&&!pl 0 x.1&&decide (qt x.1=l)) else pl 0 l)
theorem d4 (n:Nat) (s:BA) (hs:s.size≤1000000) (hn:10000000≤n):UC n s=some (CY (bs s)):=by
 unfold UC VC CY
 rw [za]
 by_cases g1:1≤s.size
 · have b1:¬((s.size:Int)<1):=by omega
   by_cases g2:s.size≤64
   · have b2:¬((s.size:Int)>64):=by omega
     have b3:(0:Int)<(s.size:Int):=by omega
     obtain ⟨c,hc,hb⟩:=sF (s:=s) (by omega)
     have hpl:=fO n s hs hn
     rw [EJ] at hpl
     simp only [b1,b2,b3,hb,g1,g2,hc,decide_true,decide_false]
     by_cases g3:c=34
     · subst g3
       have hq:=vX n s hs g1 hn
       cases hx:qd ((bs s).drop 1) with
       | none=>
        rw [hx] at hq
        simp only at hq
        rw [hq];rfl
       | some x=>
        rw [hx] at hq
        obtain ⟨t,j1,j2⟩:=hq
        have hl:=sQ _ _ (Nat.le_refl _) x hx
        rw [List.length_drop,za,←j2,za] at hl
        have hpt:=fO n t (by omega) hn
        rw [EJ,j2] at hpt
        obtain ⟨t3,k1,k2⟩:=DU n t (by omega) hn
        rw [j1]
        simp only [Option.bind_some,if_true]
        by_cases g4:x.2=[]
        · have:(((s.size - x.2.length:Nat):Int)==(s.size:Int))=true:=by rw [g4];simp
          simp only [this,hpt,k1,Option.bind_some,g4,decide_true]
          rw [dx,k2,j2]
          cases pl 0 x.1<;>simp
        · have hne:0<x.2.length:=List.length_pos_iff.2 g4
          have:(((s.size - x.2.length:Nat):Int)==(s.size:Int))=false:=by simp only [beq_eq_false_iff_ne];omega
          simp [this,g4]
     · have:(c !=34)=true:=by simpa using g3
       simp [this,hpl,g3]
   · have b2:((s.size:Int)>64):=by omega
     simp [b1,b2,g2]
 · have b1:((s.size:Int)<1):=by omega
   simp [b1,g1]
theorem l9 (n:Nat) (a b:BA) (ha:a.size≤1000000) (hb:b.size≤1000000) (hn:10000000≤n):QE n (a,b,())=some (CY (bs a)&&N4 (bs b)):=by
 unfold QE mM
 rw [d4 n a ha hn,Option.bind_some]
 cases hl:CY (bs a)
 · simp
 · rw [if_pos rfl,bZ n b hb hn];simp
open Go
abbrev Box:=BA×(BA×Unit)
def TV:Box:=((⟨#[]⟩:BA),((⟨#[]⟩:BA),()))
def q5 (l:List Int):Option (List Int×List Int):=(loc l).bind fun x=>if x.1.length≤64∧x.2.head?=some 64∧l7 ((x.2.drop 1).map low)=true then some (x.1,(x.2.drop 1).map low) else none
theorem X0 {l:List Int} {x:List Int×List Int} (h:loc l=some x):x.1.length≤2*l.length+2∧x.2.length≤l.length:=by
 unfold loc at h
 split at h
 · obtain ⟨y,hy,rfl⟩:=Option.map_eq_some_iff.1 h
   have h1:=sQ _ _ (Nat.le_refl _) y hy
   have h2:=Q9 y.1
   rw [List.length_drop] at h1
   exact ⟨by simp;omega,by simp;omega⟩
 · split at h
   · cases h
   · split at h
     · cases h;simp;omega
     · cases h
theorem oS {t:BA}:bs (t.extract 1 t.size)=(bs t).drop 1:=by rw [Ah,←za,List.take_length]
theorem X7 (n:Nat) (s:BA) (hs:s.size≤400000) (hn:10000000≤n):match q5 (bs s) with
  | none=>ur n s=some (.error 8)
  | some (a,d)=>∃ t1 t2,ur n s=some (.ok (t1,(t2,())))∧bs t1=a∧bs t2=d:=by
 have hm':(jc n true)=some (.ok ()):=wx n true
 have hm2:(jc n false)=some (.error 8):=wx n false
 have hl:=Z4 n s (by omega) hn
 unfold q5
 cases hx:loc (bs s) with
 | none=>
  rw [hx] at hl
  simp only at hl
  simp only [Option.bind_none]
  unfold ur Xn
  rw [hl];rfl
 | some x=>
  rw [hx] at hl
  obtain ⟨t1,t2,j1,j2,j3⟩:=hl
  have hlen:=X0 hx
  rw [←j2,←j3,za,za,za] at hlen
  simp only [Option.bind_some]
  rw [←j2,←j3,za]
  by_cases g1:t1.size≤64
  · have b1:(t1.size:Int)≤64:=by omega
    have hP:=Wk n t2 (⟨#[64]⟩:BA) (c:=64) rfl
    by_cases g2:(bs t2).head?=some 64
    · rw [decide_eq_true g2] at hP
      have hne:1≤t2.size:=by
       rw [←za]
       cases hb:bs t2 with
       | nil=>rw [hb] at g2;cases g2
       | cons _ _=>simp
      have b2:(1:Int)≤(t2.size:Int):=by omega
      have b3:(0:Int)≤1:=by decide
      obtain ⟨t3,k1,k2⟩:=J5 n (t2.extract 1 t2.size) (by have:=yg t2 1 t2.size;omega) hn
      have hsz:t3.size≤t2.size:=by rw [←za t3,k2,List.length_map,za];exact yg _ _ _
      have hD:=gV n t3 (by omega) hn
      rw [k2,oS] at hD
      rw [oS] at k2
      have k1':Wt n (t2.extract (Int.toNat (1:Int)) t2.size)=some t3:=k1
      by_cases g3:l7 (((bs t2).drop 1).map low)=true
      · rw [if_pos ⟨g1,g2,g3⟩]
        refine ⟨t1,t3,?_,rfl,k2⟩
        unfold ur Xn
        rw [j1]
        simp only [Option.bind_some,onX,b1,decide_true,hP,hm',b2,b3,Int.toNat_natCast,k1',hD,g3]
        rfl
      · rw [if_neg fun h=>g3 h.2.2]
        simp only
        have g3':l7 (((bs t2).drop 1).map low)=false:=by simpa using g3
        unfold ur Xn
        rw [j1]
        simp only [Option.bind_some,onX,b1,decide_true,hP,hm',hm2,b2,b3,Int.toNat_natCast,k1',hD,g3']
        rfl
    · rw [decide_eq_false g2] at hP
      rw [if_neg fun h=>g2 h.2.1]
      simp only
      unfold ur Xn
      rw [j1]
      simp only [Option.bind_some,onX,b1,decide_true,hP,hm2]
      rfl
  · have b1:¬((t1.size:Int)≤64):=by omega
    rw [if_neg fun h=>g1 h.1]
    simp only
    unfold ur Xn
    rw [j1]
    simp only [Option.bind_some,onX,b1,decide_false,hm2]
    rfl
theorem o4 (n:Nat) (s:BA) (hs:s.size≤400000) (hn:10000000≤n):match q5 (bs s) with
  | none=>Rt n s=some (TV,8,())
  | some (a,d)=>∃ t1 t2,Rt n s=some ((t1,(t2,())),0,())∧bs t1=a∧bs t2=d:=by
 have h:=X7 n s hs hn
 cases hx:q5 (bs s) with
 | none=>
  rw [hx] at h
  simp only at h ⊢
  unfold Rt er
  rw [h];rfl
 | some x=>
  rw [hx] at h
  obtain ⟨t1,t2,j1,j2,j3⟩:=h
  refine ⟨t1,t2,?_,j2,j3⟩
  unfold Rt er
  rw [j1];rfl
def D3 (n:Nat) (A Z:BA):Option (Box×Bool×Unit):=
 if (Z.toList==(⟨#[]⟩:BA).toList)=false then
  if 0≤(0:Int)∧(0:Int)<(Z.size:Int) then
   if ((bt Z (0:Int)) !=(64:Int))=true then
    some (((⟨#[]⟩:BA),((⟨#[]⟩:BA),())),(false,()))
   else
    if 0≤(1:Int)∧(1:Int)≤(Z.size:Int) then
     (dm n (Z.extract (Int.toNat (1:Int)) (Int.toNat ((Z.size):Int)))).bind fun v3=>
     (QE n (A,(v3,()))).bind fun v4=>
     if (!v4)=true then
      some (((⟨#[]⟩:BA),((⟨#[]⟩:BA),())),(false,()))
     else
      some ((A,(v3,())),(true,()))
    else
     none
  else
   none
 else
  some (((⟨#[]⟩:BA),((⟨#[]⟩:BA),())),(false,()))
def WU (a z:List Int):Option (List Int×List Int):=if z.head?=some 64∧(CY a&&N4 ((z.drop 1).map low))=true then some (a,(z.drop 1).map low) else none
def jV (e:Option (Box×Bool×Unit)):Option (List Int×List Int)→Prop
 | none=>e=some (TV,false,())
 | some (a,d)=>∃ t1 t2,e=some ((t1,(t2,())),true,())∧bs t1=a∧bs t2=d
theorem ES (n:Nat) (A Z:BA) (hA:A.size≤1000000) (hZ:Z.size≤1000000) (hn:10000000≤n):jV (D3 n A Z) (WU (bs A) (bs Z)):=by
 unfold D3 WU
 rw [dx,show bs (⟨#[]⟩:BA)=[] from rfl]
 by_cases g0:bs Z=[]
 · rw [g0]
   simp [jV,TV]
 · have hne:1≤Z.size:=by
    rw [←za]
    exact List.length_pos_iff.2 g0
   obtain ⟨c,hc,hb⟩:=sF (s:=Z) (by omega)
   have b1:(0:Int)<(Z.size:Int):=by omega
   have b2:(1:Int)≤(Z.size:Int):=by omega
   have b3:(0:Int)≤1:=by decide
   obtain ⟨t3,k1,k2⟩:=m4 n (Z.extract 1 Z.size) (by have:=yg Z 1 Z.size;omega) hn
   have hsz:t3.size≤Z.size:=by rw [←za t3,k2,List.length_map,za];exact yg _ _ _
   rw [oS] at k2
   have hM:=l9 n A t3 hA (by omega) hn
   rw [k2] at hM
   have k1':dm n (Z.extract (Int.toNat (1:Int)) Z.size)=some t3:=k1
   rw [hc]
   simp only [g0,decide_false,b1,hb,b2,b3,Int.toNat_natCast,k1',Option.bind_some,hM]
   by_cases g1:c=64
   · subst g1
     cases hg:(CY (bs A)&&N4 (((bs Z).drop 1).map low)) with
     | false=>simp [jV,TV]
     | true=>
      simp only [bne_self_eq_false]
      exact ⟨A,t3,rfl,rfl,k2⟩
   · have:(c !=64)=true:=by simpa using g1
     simp [this,g1,jV,TV]
def tw:List Int→Nat
 | []=>0
 | c::r=>if c=64 then 0 else tw r+1
theorem X9:∀ l:List Int,tw l≤l.length
 | []=>Nat.le_refl _
 | c::r=>by
  have:=X9 r
  simp only [tw]
  split<;>simp<;>omega
theorem AU (n:Nat) (s:BA) (hs:s.size≤1000000) (x1 x2 x3 x4:BA):∀ (r:List Int) (k m:Nat),(bs s).drop k=r→k≤s.size→r.length<m→
  nd n m s k x1 x2 x3 x4=some (.out (s,((k+tw r:Nat):Int),x1,x2,x3,x4))
 | [],k,m,h,hk,hm=>by
  obtain ⟨m,rfl⟩:∃ q,m=q+1:=⟨m - 1,by omega⟩
  have:=pp h
  simp [nd,Bk,this,tw]
 | c::r,k,m,h,hk,hm=>by
  obtain ⟨m,rfl⟩:∃ q,m=q+1:=⟨m - 1,by omega⟩
  obtain ⟨h1,h2,h3,h4,h5⟩:=Rh h
  have e1:=wr1 (k:=k) (by omega)
  have a1:(0:Int)≤(k:Int):=by omega
  have ih:=AU n s hs x1 x2 x3 x4 r (k+1) m h3 (by omega) (by simp at hm;omega)
  simp only [tw]
  by_cases g:c=64
  · subst g
    simp only [nd,Bk,h1,h2,a1,decide_true]
    rfl
  · have g1:(c !=64)=true:=by simpa using g
    rw [if_neg g,show k+(tw r+1)=k+1+tw r by omega,←ih]
    simp only [nd,Bk,h1,h2,a1,e1,g1,decide_true]
    rfl
def wab (l:List Int):Option (List Int×List Int):=if l.head?=some 34 then (qd (l.drop 1)).bind fun x=>WU (qs x.1) x.2 else WU (l.take (tw l)) (l.drop (tw l))
theorem Y1:∀ (N:Nat) (r:List Int),r.length≤N→∀ x,qd r=some x→∃ p,r=p++x.2
 | _,[],_,x,h=>by cases h
 | 0,c::r,h,_,_=>by simp at h
 | N+1,c::r,hN,x,h=>by
  rw [yh] at h
  split at h
  · cases h;exact ⟨[c],rfl⟩
  · split at h
    · cases r with
      | nil=>cases h
      | cons d r=>
       simp only at h
       split at h
       · obtain ⟨y,hy,rfl⟩:=Option.map_eq_some_iff.1 h
         obtain ⟨p,hp⟩:=Y1 N r (by simp at hN;omega) y hy
         exact ⟨c::d::p,by rw [hp];rfl⟩
       · cases h
    · split at h
      · obtain ⟨y,hy,rfl⟩:=Option.map_eq_some_iff.1 h
        obtain ⟨p,hp⟩:=Y1 N r (by simp at hN;omega) y hy
        exact ⟨c::p,by rw [hp];rfl⟩
      · cases h
theorem V7 (l:List Int) (x:List Int×List Int) (h:qd (l.drop 1)=some x):l.drop (l.length - x.2.length)=x.2:=by
 obtain ⟨p,hp⟩:=Y1 _ _ (Nat.le_refl _) x h
 have hl:l.length=(l.take 1).length+(p.length+x.2.length):=by
  conv=>lhs;rw [←List.take_append_drop 1 l,hp]
  simp
 have e:l=(l.take 1++p)++x.2:=by
  conv=>lhs;rw [←List.take_append_drop 1 l,hp]
  simp
 rw [show l.length - x.2.length=(l.take 1++p).length by rw [List.length_append];omega]
 conv=>lhs;rw [e]
 exact List.drop_left' (by simp [←e])
theorem N2 (n:Nat) (s:BA) (hs:s.size≤400000) (hn:10000000≤n):jV (Oj n s) (wab (bs s)):=by
 unfold wab
 by_cases h:(bs s).head?=some 34
 · rw [if_pos h]
   have h1:1≤s.size:=by
    rw [←za]
    cases hb:bs s with
    | nil=>rw [hb] at h;cases h
    | cons _ _=>simp
   obtain ⟨c,hc,hb⟩:=sF (s:=s) (by omega)
   rw [h] at hc
   cases hc
   have b1:(s.size:Int)>0:=by omega
   have b2:(0:Int)<(s.size:Int):=by omega
   have hq:=vX n s (by omega) h1 hn
   cases hx:qd ((bs s).drop 1) with
   | none=>
    rw [hx] at hq
    simp only at hq
    simp only [Option.bind_none,jV]
    unfold Oj an
    simp only [b1,b2,hb,hq,decide_true,Option.bind_some]
    rfl
   | some x=>
    rw [hx] at hq
    obtain ⟨t,j1,j2⟩:=hq
    have hl:=sQ _ _ (Nat.le_refl _) x hx
    rw [List.length_drop,za] at hl
    have hts:t.size≤s.size:=by rw [←za t,j2];omega
    obtain ⟨t3,k1,k2⟩:=DU n t (by omega) hn
    have hpt:=fO n t (by omega) hn
    rw [EJ,j2] at hpt
    have hq2:=V7 (bs s) x hx
    have hz:bs (s.extract (s.size - x.2.length) s.size)=x.2:=by
     rw [Ah,←za,List.take_length];exact hq2
    have a1:(0:Int)≤((s.size - x.2.length:Nat):Int):=by omega
    have a2:((s.size - x.2.length:Nat):Int)≤(s.size:Int):=by omega
    simp only [Option.bind_some]
    by_cases hp:pl 0 x.1=true
    · have hE:Oj n s=D3 n t (s.extract (s.size - x.2.length) s.size):=by
       unfold Oj an
       simp only [b1,b2,hb,j1,decide_true,Option.bind_some,a1,a2,k1,hpt,hp,Int.toNat_natCast]
       rfl
      rw [hE]
      have:=ES n t (s.extract (s.size - x.2.length) s.size) (by omega) (by have:=yg s (s.size - x.2.length) s.size;omega) hn
      rw [hz,j2] at this
      rw [show qs x.1=x.1 from if_pos hp]
      exact this
    · have hE:Oj n s=D3 n t3 (s.extract (s.size - x.2.length) s.size):=by
       unfold Oj an
       simp only [b1,b2,hb,j1,decide_true,Option.bind_some,a1,a2,k1,hpt,hp,Int.toNat_natCast]
       rfl
      rw [hE]
      have h3:t3.size≤1000000:=by
       have:=G6 x.1
       rw [←za,k2,j2];omega
      have:=ES n t3 (s.extract (s.size - x.2.length) s.size) h3 (by have:=yg s (s.size - x.2.length) s.size;omega) hn
      rw [hz,k2,j2] at this
      rw [show qs x.1=qt x.1 from if_neg hp]
      exact this
 · rw [if_neg h]
   have htw:=X9 (bs s)
   rw [za] at htw
   have hL:=AU n s (by omega) (⟨#[]⟩:BA) (⟨#[]⟩:BA) (⟨#[]⟩:BA) (⟨#[]⟩:BA) (bs s) 0 n (by simp) (by omega) (by rw [za];omega)
   rw [show ((0:Nat):Int)=0 from rfl,Nat.zero_add] at hL
   have a1:(0:Int)≤((tw (bs s):Nat):Int):=by omega
   have a2:((tw (bs s):Nat):Int)≤(s.size:Int):=by omega
   have hb0:bs (s.extract 0 (tw (bs s)))=(bs s).take (tw (bs s)):=by rw [Ah];rfl
   have hb1:bs (s.extract (tw (bs s)) s.size)=(bs s).drop (tw (bs s)):=by
    conv=>lhs;rw [Ah,show (bs s).take s.size=bs s by rw [←za,List.take_length]]
   have hE:Oj n s=D3 n (s.extract 0 (tw (bs s))) (s.extract (tw (bs s)) s.size):=by
    unfold Oj an
    by_cases g:(s.size:Int)>0
    · obtain ⟨c,hc,hb⟩:=sF (s:=s) (by omega)
      have b2:(0:Int)<(s.size:Int):=g
      have g34:(c==34)=false:=by
       simp only [beq_eq_false_iff_ne]
       exact fun e=>h (by rw [hc,e])
      simp only [g,b2,hb,g34,hL,decide_true,Option.bind_some,onL,a1,a2,Int.toNat_natCast]
      rfl
    · simp only [g,hL,decide_false,Option.bind_some,onL,a1,a2,Int.toNat_natCast]
      rfl
   rw [hE]
   have:=ES n (s.extract 0 (tw (bs s))) (s.extract (tw (bs s)) s.size) (by have:=yg s 0 (tw (bs s));omega) (by have:=yg s (tw (bs s)) s.size;omega) hn
   rwa [hb0,hb1] at this
open Go Go.RowKit
theorem T7:∀ (N:Nat) (r:List Int),r.length≤N→∀ x,qd r=some x→x.1.all okc=true
 | _,[],_,x,h=>by cases h
 | 0,c::r,h,_,_=>by simp at h
 | N+1,c::r,hN,x,h=>by
  rw [yh] at h
  split at h
  · cases h;rfl
  · split at h
    · cases r with
      | nil=>cases h
      | cons d r=>
       simp only at h
       split at h
       · rename_i hd
         obtain ⟨y,hy,rfl⟩:=Option.map_eq_some_iff.1 h
         have:=T7 N r (by simp at hN;omega) y hy
         rw [List.all_cons,hd,this];rfl
       · cases h
    · split at h
      · rename_i hd
        obtain ⟨y,hy,rfl⟩:=Option.map_eq_some_iff.1 h
        have:=T7 N r (by simp at hN;omega) y hy
        rw [List.all_cons,hd,this];rfl
      · cases h
theorem F6:∀ (l:List Int),l.all okc=true→∀ z,qd (esc l++34::z)=some (l,z)
 | [],_,z=>by rw [show esc []++34::z=34::z from rfl,yh];rfl
 | c::r,h,z=>by
  rw [List.all_cons,Bool.and_eq_true] at h
  have ih:=F6 r h.2 z
  rw [oH]
  by_cases g:c=34∨c=92
  · rw [if_pos g]
    rw [show ([92,c]++esc r)++34::z=92::c::(esc r++34::z) by simp,yh]
    simp only [h.1,ih]
    rfl
  · rw [if_neg g]
    rw [show ([c]++esc r)++34::z=c::(esc r++34::z) by simp,yh,if_neg fun e=>g (.inl e),if_neg fun e=>g (.inr e),if_pos h.1,ih]
    rfl
theorem T1 {l:List Int} (h:pl 0 l=true):1≤l.length∧l.head?≠some 34:=by
 cases l with
 | nil=>simp [pl] at h
 | cons c r=>
  refine ⟨by simp,fun e=>?_⟩
  simp at e
  subst e
  have:aX 34=false:=by decide
  simp [pl,this] at h
theorem J7 {m:List Int} (h:m.all okc=true):CY (qs m)=decide ((qs m).length≤64):=by
 unfold qs
 by_cases hp:pl 0 m=true
 · rw [if_pos hp]
   obtain ⟨h1,h2⟩:=T1 hp
   unfold CY
   rw [if_neg h2,hp]
   simp [h1]
 · rw [if_neg hp]
   have hp':pl 0 m=false:=by simpa using hp
   unfold CY
   have hd:(qt m).drop 1=esc m++34::[]:=rfl
   rw [if_pos (by rfl:(qt m).head?=some 34),hd,F6 m h []]
   simp [hp',qt]
theorem M6:∀ l:List Int,(idx 64 l= -1→tw l=l.length)∧(idx 64 l≠ -1→idx 64 l=(tw l:Int)∧(l.drop (tw l)).head?=some 64)
 | []=>by simp [idx,tw]
 | c::r=>by
  have ih:=M6 r
  have hge:=(Ar (c:=64) r).2
  simp only [idx,tw]
  by_cases g:c=64
  · simp [g]
  · rw [if_neg g,if_neg g]
    by_cases g2:idx 64 r= -1
    · rw [if_pos g2]
      exact ⟨fun _=>by rw [ih.1 g2];rfl,fun h=>absurd rfl h⟩
    · rw [if_neg g2]
      have:=ih.2 g2
      exact ⟨fun h=>by omega,fun _=>⟨by rw [this.1];rfl,by rw [List.drop_succ_cons];exact this.2⟩⟩
theorem s5 (l:List Int):q5 l=wab l:=by
 unfold q5 wab loc
 by_cases h:l.head?=some 34
 · rw [if_pos h,if_pos h]
   cases hx:qd (l.drop 1) with
   | none=>rfl
   | some x=>
    simp only [Option.map_some,Option.bind_some]
    unfold WU
    rw [J7 (T7 _ _ (Nat.le_refl _) x hx),gX]
    by_cases g1:(qs x.1).length≤64<;>by_cases g2:x.2.head?=some 64<;>cases N4 ((x.2.drop 1).map low)<;>simp [g1,g2]
 · rw [if_neg h,if_neg h]
   have ht:=M6 l
   have hge:=(Ar (c:=64) l).2
   by_cases g:idx 64 l= -1
   · rw [if_pos g,ht.1 g,List.drop_length]
     simp [WU]
   · rw [if_neg g]
     obtain ⟨e1,e2⟩:=ht.2 g
     rw [e1,Int.toNat_natCast]
     by_cases hp:pl 0 (l.take (tw l))=true
     · rw [if_pos hp]
       obtain ⟨h1,h2⟩:=T1 hp
       simp only [Option.bind_some]
       unfold WU
       have hloc:CY (l.take (tw l))=decide ((l.take (tw l)).length≤64):=by
        unfold CY
        rw [if_neg h2,hp]
        simp only [h1,decide_true,Bool.true_and,Bool.and_true]
       rw [hloc,gX,e2]
       by_cases g1:(l.take (tw l)).length≤64<;>cases N4 (((l.drop (tw l)).drop 1).map low)<;>simp only [g1,decide_true,decide_false]<;>simp
     · rw [if_neg hp]
       simp only [Option.bind_none]
       have hloc:CY (l.take (tw l))=false:=by
        unfold CY
        by_cases h34:(l.take (tw l)).head?=some 34
        · exfalso
          apply h
          cases l with
          | nil=>simp at h34
          | cons c r=>
           cases htw:tw (c::r) with
           | zero=>rw [htw] at h34;simp at h34
           | succ k=>rw [htw] at h34;simpa using h34
        · rw [if_neg h34]
          have:pl 0 (l.take (tw l))=false:=by simpa using hp
          rw [this];simp
       unfold WU
       rw [hloc]
       simp
theorem XW (n:Nat) (a b:BA) (ha:a.size≤100000) (hb:b.size≤100000):AK n (a,(b,()))=some ((a++(⟨#[64]⟩:BA))++b)∧Ws n (a,(b,()))=some ((a++(⟨#[64]⟩:BA))++b):=by
 have h64:(⟨#[64]⟩:BA).size=1:=rfl
 have f1:Ca a (⟨#[64]⟩:BA)=true:=WO (by omega)
 have f2:Ca (a++(⟨#[64]⟩:BA)) b=true:=WO (by rw [ByteArray.size_append];omega)
 unfold AK dM Ws oI
 rw [if_pos f1,if_pos f2]
 exact ⟨rfl,rfl⟩
end Go.Proofs.YtddefjokgaajfaaGreatDoor.AM
