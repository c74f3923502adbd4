/- Strings as lists of numbers: what the typed functions do to them. -/
import Derived.Test.YtdhehcnfkcibiaaGreatDoorXA
import Derived.Lib.Strings
import Derived.Lib.Bytealg
import Derived.IntWalk
import Derived.Test.YtdhehcnfkcibiaaGreatDoorXFz
import Derived.Lib.ItoaNum
import Derived.Test.YtdhehcnfkcibiaaGreatDoorXB2
set_option linter.all false
set_option linter.unusedVariables false
set_option linter.unusedSimpArgs false
namespace Go.Proofs.YtdhehcnfkcibiaaGreatDoor.AM
open Go
def bs (s:BA):List Int:=s.data.toList.map fun c=>(c.toNat:Int)
theorem Da (s:BA):(bs s).length=s.size:=by simp [bs,ByteArray.size_data]
theorem iS:∀ {a b:List UInt8},(a.map fun c=>(c.toNat:Int))=(b.map fun c=>(c.toNat:Int))→a=b
 | [],[],_=>rfl
 | [],_::_,h=>by simp at h
 | _::_,[],h=>by simp at h
 | x::xs,y::ys,h=>by
  simp only [List.map_cons,List.cons.injEq] at h
  rw [iS h.2,UInt8.toNat_inj.1 (by have:=h.1;omega:x.toNat=y.toNat)]
theorem Rjb {a b:BA} (h:bs a=bs b):a=b:=by
 have:=iS h
 exact ByteArray.ext (Array.toList_inj.1 this)
theorem gw (a b:BA):(a.toList==b.toList)=decide (bs a=bs b):=by
 rw [Lib.toList_data,Lib.toList_data]
 by_cases h:bs a=bs b
 · rw [decide_eq_true h,Rjb h];simp
 · rw [decide_eq_false h]
   have:a.data.toList≠b.data.toList:=fun e=>h (by unfold bs;rw [e])
   simpa using this
theorem bE (a b:BA):bs (a++b)=bs a++bs b:=by simp [bs,ByteArray.data_append]
theorem Pm (a:BA) (i j:Nat):bs (a.extract i j)=((bs a).take j).drop i:=by
 simp [bs,ByteArray.data_extract,List.map_drop,List.map_take,List.extract,List.drop_take]
theorem ecb {s:BA} {c:Int} (h:c∈bs s):0≤c∧c<256:=by
 simp only [bs,List.mem_map] at h
 obtain ⟨x,_,rfl⟩:=h
 have:=x.toNat_lt
 omega
theorem P6 {s:BA} {k:Nat} {c:Int} (h:(bs s)[k]?=some c):bt s (k:Int)=c:=by
 have hl:k<s.size:=by have:=(List.getElem?_eq_some_iff.1 h).1;rwa [Da] at this
 unfold bt
 rw [dif_pos (by simpa using hl)]
 simp only [bs,List.getElem?_map] at h
 rw [Array.getElem?_toList,Array.getElem?_eq_getElem (by rwa [ByteArray.size_data])] at h
 simp at h
 exact h
theorem di {s:BA} {k:Nat} {c:Int} {r:List Int} (h:(bs s).drop k=c::r):(k:Int)<(s.size:Int)∧bt s (k:Int)=c∧(bs s).drop (k+1)=r∧0≤c∧c<256:=by
 have h1:(bs s)[k]?=some c:=by
  have:=congrArg (fun l=>l[0]?) h
  simpa using this
 have hl:k<s.size:=by have:=(List.getElem?_eq_some_iff.1 h1).1;rwa [Da] at this
 refine ⟨by omega,P6 h1,?_,ecb (List.mem_of_getElem? h1)⟩
 rw [←List.drop_drop,h];rfl
theorem yn {s:BA} {k:Nat} (h:(bs s).drop k=[]):¬((k:Int)<(s.size:Int)):=by
 have:=List.drop_eq_nil_iff.1 h
 rw [Da] at this
 omega
theorem wr {x:Int} (h1: -9223372036854775808≤x) (h2:x≤9223372036854775807):IntKind.wrap .i64 x=x:=by
 rw [IntKind.wrap_i64]
 omega
theorem wr1 {k:Nat} (h:k<4611686018427387904):IntKind.wrap .i64 ((k:Int)+1)=((k+1:Nat):Int):=by
 rw [wr (by omega) (by omega)];rfl
theorem QX:∀ (l:List Int) (r:BA),(∀ x∈l,0≤x∧x<256)→bs (l.foldl (fun r c=>r.push (UInt8.ofNat c.toNat)) r)=bs r++l
 | [],r,_=>by simp
 | x::l,r,h=>by
  rw [List.foldl_cons,QX l _ fun y hy=>h y (List.mem_cons_of_mem _ hy)]
  have hx:=h x List.mem_cons_self
  have:bs (r.push (UInt8.ofNat x.toNat))=bs r++[x]:=by
   have e:(UInt8.ofNat x.toNat).toNat=x.toNat:=by simp [UInt8.toNat_ofNat'];omega
   simp [bs,ByteArray.push,e]
   omega
  rw [this];simp
theorem yY {n:Nat} {f:Nat→Int} (h:∀ i,i<n→0≤f i∧f i<256):bs (MN n f)=(List.range n).map f:=by
 unfold MN
 rw [QX _ _ fun x hx=>by
  simp only [List.mem_map,List.mem_range] at hx
  obtain ⟨i,hi,rfl⟩:=hx
  exact h i hi]
 rfl
def idx (c:Int):List Int→Int
 | []=> -1
 | b::l=>if b=c then 0 else if idx c l= -1 then -1 else idx c l+1
theorem Mgb {c:Int} (h0:0≤c) (h1:c<256):∀ l:List UInt8,Lib.indexByte l (Nat.toUInt8 (Int.toNat c))=idx c (l.map fun c=>(c.toNat:Int))
 | []=>rfl
 | b::l=>by
  have e:(Nat.toUInt8 (Int.toNat c)).toNat=c.toNat:=by simp [Nat.toUInt8,UInt8.toNat_ofNat'];omega
  simp only [Lib.indexByte,List.map_cons,idx,Mgb h0 h1 l]
  have hb:(b==Nat.toUInt8 (Int.toNat c))=decide ((b.toNat:Int)=c):=by
   by_cases hh:(b.toNat:Int)=c
   · rw [decide_eq_true hh]
     have:b=Nat.toUInt8 (Int.toNat c):=UInt8.toNat_inj.1 (by rw [e];omega)
     simp [←this]
   · rw [decide_eq_false hh]
     have:b≠Nat.toUInt8 (Int.toNat c):=fun h=>hh (by rw [h,e];omega)
     simpa using this
  rw [hb]
  by_cases hh:(b.toNat:Int)=c<;>simp [hh]
theorem neb {c:Int} (h0:0≤c) (h1:c<256) (l:List UInt8):Lib.countByte l (Nat.toUInt8 (Int.toNat c))=(l.map fun c=>(c.toNat:Int)).count c:=by
 have e:(Nat.toUInt8 (Int.toNat c)).toNat=c.toNat:=by simp [Nat.toUInt8,UInt8.toNat_ofNat'];omega
 unfold Lib.countByte
 induction l with
 | nil=>rfl
 | cons b l ih=>
  simp only [List.map_cons,List.count_cons,ih]
  by_cases hh:(b.toNat:Int)=c
  · have:b=Nat.toUInt8 (Int.toNat c):=UInt8.toNat_inj.1 (by rw [e];omega)
    simp [hh,←this]
  · have:b≠Nat.toUInt8 (Int.toNat c):=fun h=>hh (by rw [h,e];omega)
    simp [hh,this]
open Go
def sgn (c:Int):Bool:=decide (97≤c)&&decide (c≤122) || decide (48≤c)&&decide (c≤57)
def tq:List Int:=[33,35,36,37,38,39,42,43,45,47,61,63,94,95,96,123,124,125,126]
def i6 (c:Int):Bool:=sgn c || decide (65≤c)&&decide (c≤90) || decide (c∈tq)
theorem Cdb (n:Nat) (c:Int):iJ n c=some (sgn c):=by
 unfold iJ bL sgn
 by_cases h1:97≤c<;>by_cases h2:c≤122<;>by_cases h3:48≤c<;>by_cases h4:c≤57<;>simp [h1,h2,h3,h4]<;>omega
theorem Fu {c:Int}:∀ l:List Int,(0≤idx c l↔c∈l)∧ -1≤idx c l
 | []=>by simp [idx]
 | b::l=>by
  have:=Fu (c:=c) l
  simp only [idx]
  by_cases h:b=c
  · simp [h]
  · rw [if_neg h]
    have hc:c≠b:=fun e=>h e.symm
    by_cases h2:idx c l= -1
    · rw [if_pos h2]
      have:¬c∈l:=fun hm=>by have:=this.1.2 hm;omega
      simp [hc,this]
    · rw [if_neg h2]
      have h3:0≤idx c l:=by omega
      have:=this.1.1 h3
      constructor
      · constructor
        · intro _;exact List.mem_cons_of_mem _ this
        · intro _;omega
      · omega
theorem pQ (n:Nat) (s:BA) {c:Int} (h0:0≤c) (h1:c<256):Yh n s c=some (idx c (bs s)):=by
 unfold Yh Aq Jq jq
 simp [Mgb h0 h1,bs]
theorem rK:bs (⟨#[33,35,36,37,38,39,42,43,45,47,61,63,94,95,96,123,124,125,126]⟩:BA)=tq:=by decide
theorem rhb (n:Nat) {c:Int} (h0:0≤c) (h1:c<256):dJ n c=some (i6 c):=by
 unfold dJ FK i6
 rw [Cdb,pQ _ _ h0 h1,rK]
 have:=(Fu (c:=c) tq).1
 have hd:decide (idx c tq≥0)=decide (c∈tq):=by rw [decide_eq_decide];exact this
 cases hs:sgn c<;>by_cases h2:65≤c<;>by_cases h3:c≤90<;>simp [h2,h3,hd]<;>omega
def pl:Nat→List Int→Bool
 | w,[]=>decide (0<w)
 | w,c::r=>if c=46 then (if w=0 then false else pl 0 r) else if i6 c=true then pl (w+1) r else false
def plX:Nat→List Int→Lx Int Bool
 | w,[]=>.out w
 | w,c::r=>if c=46 then (if w=0 then .ret false else plX 0 r) else if i6 c=true then plX (w+1) r else .ret false
theorem M9 (n:Nat) (s:BA) (hs:s.size<4611686018427387904):∀ (r:List Int) (k w m:Nat),(bs s).drop k=r→k≤s.size→w≤k→r.length<m→Gf n m s w s.size k=some (plX w r)
 | [],k,w,m,h,hk,hw,hm=>by
  obtain ⟨m,rfl⟩:∃ q,m=q+1:=⟨m - 1,by omega⟩
  have:=yn h
  simp [Gf,yp,this,plX]
 | c::r,k,w,m,h,hk,hw,hm=>by
  obtain ⟨m,rfl⟩:∃ q,m=q+1:=⟨m - 1,by omega⟩
  obtain ⟨h1,h2,h3,h4,h5⟩:=di h
  have ih:=fun w hw=>M9 n s hs r (k+1) w m h3 (by omega) hw (by simpa using hm)
  have hk0:(0:Int)≤(k:Int):=by omega
  have e1:=wr1 (k:=k) (by omega)
  have e2:=wr1 (k:=w) (by omega)
  simp only [Gf,yp,h1,h2,hk0,rhb n h4 h5,e1,e2,plX]
  by_cases hc:c=46
  · subst hc
    by_cases hw0:w=0
    · subst hw0;simp
    · have:((w:Int)==0)=false:=by simpa using hw0
      have:=ih 0 (by omega)
      simp_all
  · have hc':(c==46)=false:=by simpa using hc
    cases ha:i6 c with
    | true=>simp [hc,hc',ha];exact ih (w+1) (by omega)
    | false=>simp [hc,hc',ha]
theorem mdb:∀ (r:List Int) (w:Nat),onL (plX w r) (fun a=>decide (a>(0:Int))) (fun b=>b) (fun _=>false)=pl w r
 | [],w=>by simp [plX,pl,onL]
 | c::r,w=>by
  simp only [plX,pl]
  split
  · split
    · rfl
    · exact mdb r 0
  · split
    · exact mdb r (w+1)
    · rfl
theorem MT:∀ (r:List Int) (w:Nat) (p:Int),plX w r≠.pan p
 | [],w,p=>by simp [plX]
 | c::r,w,p=>by
  simp only [plX]
  split
  · split
    · simp
    · exact MT r 0 p
  · split
    · exact MT r (w+1) p
    · simp
theorem O9 (n:Nat) (s:BA) (hs:s.size<4611686018427387904) (hn:s.size<n):Aw n s=some (pl 0 (bs s)):=by
 unfold Aw cG
 have:=M9 n s hs (bs s) 0 0 n (by simp) (by omega) (by omega) (by rw [Da];exact hn)
 rw [show ((0:Nat):Int)=0 from rfl] at this
 rw [this,Option.bind_some,←mdb]
 cases h:plX 0 (bs s) with
 | out a=>rfl
 | ret b=>rfl
 | pan p=>exact absurd h (MT _ _ _)
open Go
def sqL {α β:Type} (f:α→β) (q:Sq α):List β:=(List.range q.n).map fun i=>f (q.at' i)
theorem Wr {α β:Type} (f:α→β) (q:Sq α):(sqL f q).length=q.n:=by simp [sqL]
theorem MP {α β:Type} {f:α→β} {q:Sq α} {i:Nat} (h:i<q.n):(sqL f q)[i]?=some (f (q.at' i)):=by simp [sqL,h]
theorem CN {α β:Type} (f:α→β) (q:Sq α) (y z:α):sqL f (⟨q.n+1,fun i=>if i<q.n then q.at' i else (fun i=>List.getD [y] i z) (i - q.n)⟩:Sq α)=sqL f q++[f y]:=by
 unfold sqL
 simp only [List.range_succ,List.map_append,List.map_cons,List.map_nil]
 congr 1
 · apply List.map_congr_left
   intro i hi
   simp only [List.mem_range] at hi
   simp [hi]
 · simp
theorem pS {α β:Type} {f:α→β} {q:Sq α} {k:Nat} {x:β} {r:List β} (h:(sqL f q).drop k=x::r):k<q.n∧f (q.at' k)=x∧(sqL f q).drop (k+1)=r:=by
 have h1:(sqL f q)[k]?=some x:=by
  have:=congrArg (fun l=>l[0]?) h
  simpa using this
 have hl:k<q.n:=by have:=(List.getElem?_eq_some_iff.1 h1).1;rwa [Wr] at this
 refine ⟨hl,?_,?_⟩
 · rw [MP hl] at h1;exact Option.some.inj h1
 · rw [←List.drop_drop,h];rfl
theorem o0 {α β:Type} {f:α→β} {q:Sq α} {k:Nat} (h:(sqL f q).drop k=[]):q.n≤k:=by
 have:=List.drop_eq_nil_iff.1 h
 rwa [Wr] at this
theorem cmb {n:Nat} (h:n≤4000000):Rb (n+1) 16=true:=by
 unfold Rb
 simp only [Bool.and_eq_true,Nat.ble_eq]
 omega
theorem bkb {n:Nat} (h:n≤4000000):Rb (n+1) 1=true:=by
 unfold Rb
 simp only [Bool.and_eq_true,Nat.ble_eq]
 omega
def Xb (d:Int):List Int→List Int→List (List Int)
 | cur,[]=>[cur]
 | cur,c::r=>if c=d then cur::Xb d [] r else Xb d (cur++[c]) r
theorem W8 {s:BA} {f k:Nat} {c:Int} {r:List Int} (h:(bs s).drop k=c::r) (hf:f≤k):bs (s.extract f (k+1))=bs (s.extract f k)++[c]:=by
 rw [Pm,Pm]
 have h1:(bs s)[k]?=some c:=by
  have:=congrArg (fun l=>l[0]?) h
  simpa using this
 have hk:k<(bs s).length:=(List.getElem?_eq_some_iff.1 h1).1
 rw [List.take_add_one,h1]
 rw [List.drop_append_of_le_length (by rw [List.length_take];omega)]
 rfl
theorem IY {s:BA} (k:Nat):bs (s.extract k k)=[]:=by
 rw [Pm]
 simp
theorem eY (n:Nat) (s:BA) (d:Int) (hs:s.size≤1000000):∀ (r:List Int) (k f m:Nat) (l:Sq BA),(bs s).drop k=r→k≤s.size→f≤k→l.n≤k→r.length+2≤m→
  ∃ q,Of n m s d f k l=some (.out q)∧sqL bs q=sqL bs l++Xb d (bs (s.extract f k)) r
 | [],k,f,m,l,h,hk,hf,hl,hm=>by
  obtain ⟨m,rfl⟩:∃ q,m=q+2:=⟨m - 2,by simp at hm;omega⟩
  have hn:=yn h
  have hks:k=s.size:=by omega
  have e1:=wr1 (k:=k) (by omega)
  have a1:((k:Int)≤(s.size:Int)):=by omega
  have a2:((k:Int)==(s.size:Int))=true:=by rw [hks];simp
  have a3:(0:Int)≤(k:Int):=by omega
  have a4:(0:Int)≤(f:Int):=by omega
  have a5:(f:Int)≤(k:Int):=by omega
  have a6:=cmb (n:=l.n) (by omega)
  have a7:¬(((k+1:Nat):Int)≤(s.size:Int)):=by omega
  refine ⟨(⟨(l.n+1),fun q=>if q<l.n then l.at' q else (fun q=>List.getD (α:=BA) [(s.extract f k)] q (Ba .str)) (q - l.n)⟩:Sq BA),?_,?_⟩
  · simp only [Of,Jp,a1,a2,a3,a4,a5,a6,a7,e1]
    simp
  · refine (CN bs l (s.extract f k) _).trans ?_;simp [Xb]
 | c::r,k,f,m,l,h,hk,hf,hl,hm=>by
  obtain ⟨m,rfl⟩:∃ q,m=q+1:=⟨m - 1,by simp at hm;omega⟩
  obtain ⟨h1,h2,h3,h4,h5⟩:=di h
  have e1:=wr1 (k:=k) (by omega)
  have a1:((k:Int)≤(s.size:Int)):=by omega
  have a2:((k:Int)==(s.size:Int))=false:=by simp;omega
  have a3:(0:Int)≤(k:Int):=by omega
  have a4:(0:Int)≤(f:Int):=by omega
  have a5:(f:Int)≤(k:Int):=by omega
  have a6:=cmb (n:=l.n) (by omega)
  simp only [Of,Jp,a1,a2,a3,a4,a5,a6,h1,h2,e1]
  by_cases hc:c=d
  · subst hc
    obtain ⟨q,hq,hl'⟩:=eY n s c hs r (k+1) (k+1) m (⟨(l.n+1),fun q=>if q<l.n then l.at' q else (fun q=>List.getD (α:=BA) [(s.extract f k)] q (Ba .str)) (q - l.n)⟩:Sq BA) h3 (by omega) (by omega) (by simp;omega) (by simp at hm;omega)
    refine ⟨q,by simpa using hq,?_⟩
    rw [hl',IY,show sqL bs (⟨(l.n+1),fun q=>if q<l.n then l.at' q else (fun q=>List.getD (α:=BA) [(s.extract f k)] q (Ba .str)) (q - l.n)⟩:Sq BA)=sqL bs l++[bs (s.extract f k)] from CN bs l (s.extract f k) _]
    simp [Xb]
  · have hc':(c==d)=false:=by simpa using hc
    obtain ⟨q,hq,hl'⟩:=eY n s d hs r (k+1) f m l h3 (by omega) (by omega) (by omega) (by simp at hm;omega)
    refine ⟨q,by simpa [hc'] using hq,?_⟩
    rw [hl',W8 h hf]
    simp [Xb,hc]
theorem fY (n:Nat) (s:BA) (d:Int) (hs:s.size≤1000000) (hn:10000000≤n):∃ q,ux n s d=some q∧sqL bs q=Xb d [] (bs s):=by
 obtain ⟨q,h1,h2⟩:=eY n s d hs (bs s) 0 0 n (⟨0,fun _=>Ba .str⟩:Sq BA) (by simp) (by omega) (by omega) (Nat.le_refl _) (by rw [Da];omega)
 refine ⟨q,?_,by rw [h2,IY];rfl⟩
 unfold ux qG
 rw [show ((0:Nat):Int)=0 from rfl] at h1
 rw [h1];rfl
theorem Rcb (n:Nat) (c:Int):ZA n c=some (decide (97≤c)&&decide (c≤122) || decide (65≤c)&&decide (c≤90)):=by
 unfold ZA iC
 by_cases h1:97≤c<;>by_cases h2:c≤122<;>by_cases h3:65≤c<;>by_cases h4:c≤90<;>simp [h1,h2,h3,h4]<;>omega
theorem T8 (n:Nat) (c:Int):Ax n c=some (decide (48≤c)&&decide (c≤57)):=by
 unfold Ax wG
 by_cases h3:48≤c<;>by_cases h4:c≤57<;>simp [h3,h4]
theorem cab (n:Nat) (s:BA) (c:Int) (hs:s.size≤1000000):∀ (r:List Int) (k m:Nat),(bs s).drop k=r→r.length<m→k≤s.size→Eh n m c s k=some (if c∈r then .ret true else .out ())
 | [],k,m,h,hm,hk=>by
  obtain ⟨m,rfl⟩:∃ q,m=q+1:=⟨m - 1,by simp at hm;omega⟩
  have:=yn h
  simp [Eh,mu,this]
 | d::r,k,m,h,hm,hk=>by
  obtain ⟨m,rfl⟩:∃ q,m=q+1:=⟨m - 1,by simp at hm;omega⟩
  obtain ⟨h1,h2,h3,h4,h5⟩:=di h
  have e1:=wr1 (k:=k) (by omega)
  have a3:(0:Int)≤(k:Int):=by omega
  have ih:=cab n s c hs r (k+1) m h3 (by simpa using hm) (by omega)
  simp only [Eh,mu,h1,h2,a3,e1]
  by_cases hc:d=c
  · subst hc;simp
  · have hc':(d==c)=false:=by simpa using hc
    have hc2:¬c=d:=fun e=>hc e.symm
    simpa [hc',hc2] using ih
theorem dfb (n:Nat) (c:Int) (hn:10000000≤n):pP n c=some (decide (c∈tq)):=by
 unfold pP gN
 have h:=cab n (⟨#[33,35,36,37,38,39,42,43,45,47,61,63,94,95,96,123,124,125,126]⟩:BA) c (by decide) _ 0 n rfl (by rw [List.drop_zero,rK];show 19<n;omega) (by decide)
 rw [show ((0:Nat):Int)=0 from rfl,List.drop_zero,rK] at h
 rw [h]
 by_cases hc:c∈tq<;>simp [hc,onL]
theorem N9 (n:Nat) (l:Sq BA) (i:Nat) (hi:i<l.n) (hn:10000000≤n) (hs:(l.at' i).size≤1000000):∀ (r:List Int) (k m:Nat),(bs (l.at' i)).drop k=r→r.length<m→k≤(l.at' i).size→
  Sf n m l i k=some (if r.all i6=true then .out (l,(i:Int)) else .ret false)
 | [],k,m,h,hm,hk=>by
  obtain ⟨m,rfl⟩:∃ q,m=q+1:=⟨m - 1,by simp at hm;omega⟩
  have:=yn h
  have a3:(0:Int)≤(i:Int):=by omega
  have a4:(i:Int)<(l.n:Int):=by omega
  simp [Sf,Qp,this,a3,a4]
 | c::r,k,m,h,hm,hk=>by
  obtain ⟨m,rfl⟩:∃ q,m=q+1:=⟨m - 1,by simp at hm;omega⟩
  obtain ⟨h1,h2,h3,h4,h5⟩:=di h
  have e1:=wr1 (k:=k) (by omega)
  have a1:(0:Int)≤(i:Int):=by omega
  have a2:(i:Int)<(l.n:Int):=by omega
  have a3:(0:Int)≤(k:Int):=by omega
  have ih:=N9 n l i hi hn hs r (k+1) m h3 (by simpa using hm) (by omega)
  simp only [Sf,Qp,a1,a2,a3,Int.toNat_natCast,h1,h2,e1,Rcb,T8,dfb _ _ hn]
  have hat:i6 c=((decide (97≤c)&&decide (c≤122) || decide (65≤c)&&decide (c≤90)) || (decide (48≤c)&&decide (c≤57)) || decide (c∈tq)):=by
   unfold i6 sgn
   cases decide (97≤c)<;>cases decide (c≤122)<;>cases decide (65≤c)<;>cases decide (c≤90)<;>cases decide (48≤c)<;>cases decide (c≤57)<;>cases decide (c∈tq)<;>rfl
  simp only [List.all_cons,hat]
  cases hx:(decide (97≤c)&&decide (c≤122) || decide (65≤c)&&decide (c≤90))<;>cases hy:(decide (48≤c)&&decide (c≤57))<;>cases hz:decide (c∈tq)<;>first | (simp;done) | (simpa using ih)
def Lk (W:List (List Int)):Bool:=W.all fun w=>!w.isEmpty&&w.all i6
theorem D4 (n:Nat) (l:Sq BA) (hn:10000000≤n) (hl:l.n≤2000000) (hs:∀ i,i<l.n→(l.at' i).size≤1000000):∀ (W:List (List Int)) (i m:Nat),(sqL bs l).drop i=W→W.length<m→i≤l.n→
  Rf n m l i=some (if Lk W=true then .out () else .ret false)
 | [],i,m,h,hm,hi=>by
  obtain ⟨m,rfl⟩:∃ q,m=q+1:=⟨m - 1,by simp at hm;omega⟩
  have:=o0 h
  have a4:¬((i:Int)<(l.n:Int)):=by omega
  simp [Rf,Pp,a4,Lk]
 | w::W,i,m,h,hm,hi=>by
  obtain ⟨m,rfl⟩:∃ q,m=q+1:=⟨m - 1,by simp at hm;omega⟩
  obtain ⟨h1,h2,h3⟩:=pS h
  have e1:=wr1 (k:=i) (by omega)
  have a1:(0:Int)≤(i:Int):=by omega
  have a2:(i:Int)<(l.n:Int):=by omega
  have ih:=D4 n l hn hl hs W (i+1) m h3 (by simpa using hm) (by omega)
  have hw:=N9 n l i h1 hn (hs i h1) (bs (l.at' i)) 0 n (by simp) (by rw [Da];have:=hs i h1;omega) (by omega)
  rw [show ((0:Nat):Int)=0 from rfl,h2] at hw
  simp only [Rf,Pp,a1,a2,Int.toNat_natCast,gw,h2,hw]
  rw [show bs (⟨#[]⟩:BA)=[] from rfl]
  cases w with
  | nil=>simp [Lk]
  | cons c w=>
   cases ha:(c::w).all i6 with
   | false=>simp [Lk,ha,onL]
   | true=>
    have:Lk ((c::w)::W)=Lk W:=by
     unfold Lk
     rw [List.all_cons,ha];simp
    simpa [this,onL,e1] using ih
theorem DP (d:Int):∀ (r cur:List Int),(Xb d cur r).length≤r.length+1∧∀ w∈Xb d cur r,w.length≤cur.length+r.length
 | [],cur=>by simp [Xb]
 | c::r,cur=>by
  simp only [Xb]
  split
  · have:=DP d r []
    refine ⟨by simp;omega,fun w hw=>?_⟩
    rcases List.mem_cons.1 hw with rfl | hw
    · omega
    · have:=this.2 w hw;simp at this ⊢;omega
  · have:=DP d r (cur++[c])
    refine ⟨by simp;omega,fun w hw=>?_⟩
    have:=this.2 w hw;simp at this ⊢;omega
theorem sC {q:Sq BA} {s:BA} {d:Int} (h:sqL bs q=Xb d [] (bs s)):q.n≤s.size+1∧∀ i,i<q.n→(q.at' i).size≤s.size:=by
 have h0:=DP d (bs s) []
 rw [Da,←h,Wr] at h0
 refine ⟨h0.1,fun i hi=>?_⟩
 have:=h0.2 (bs (q.at' i)) (List.mem_of_getElem? (MP hi))
 rw [Da] at this
 simpa using this
theorem y5 (n:Nat) (s:BA) (hs:s.size≤1000000) (hn:10000000≤n):jC n s=some (Lk (Xb 46 [] (bs s))):=by
 obtain ⟨q,h1,h2⟩:=fY n s 46 hs hn
 obtain ⟨h3,h4⟩:=sC h2
 have h:=D4 n q hn (by omega) (fun i hi=>Nat.le_trans (h4 i hi) hs) _ 0 n rfl (by rw [List.drop_zero,Wr];omega) (by omega)
 rw [show ((0:Nat):Int)=0 from rfl,List.drop_zero,h2] at h
 unfold jC yG
 rw [h1,Option.bind_some,h,Option.bind_some]
 cases Lk (Xb 46 [] (bs s))<;>rfl
theorem e6 (d:Int):∀ (r cur:List Int),cur.all i6=false→Lk (Xb d cur r)=false
 | [],cur,h=>by simp [Xb,Lk,h]
 | c::r,cur,h=>by
  simp only [Xb]
  split
  · unfold Lk;rw [List.all_cons,h];simp
  · exact e6 d r (cur++[c]) (by rw [List.all_append,h];rfl)
theorem L0:∀ (r cur:List Int),cur.all i6=true→Lk (Xb 46 cur r)=pl cur.length r
 | [],cur,h=>by
  simp only [Xb,pl,Lk,List.all_cons,List.all_nil,h]
  cases cur<;>simp
 | c::r,cur,h=>by
  simp only [Xb,pl]
  split
  · rw [show Lk (cur::Xb 46 [] r)=((!cur.isEmpty&&cur.all i6)&&Lk (Xb 46 [] r)) from rfl,L0 r [] rfl,h]
    cases cur<;>simp
  · split
    · rename_i ha
      rw [L0 r (cur++[c]) (by rw [List.all_append,h];simp [ha])]
      simp
    · rename_i ha
      exact e6 46 r _ (by rw [List.all_append];simp [ha])
theorem HX (l:List Int):Lk (Xb 46 [] l)=pl 0 l:=L0 l [] rfl
open Go
def dig (c:Int):Bool:=decide (48≤c)&&decide (c≤57)
def X5:Int→List Int→Int
 | n,[]=>n
 | n,c::r=>X5 (10*n+(c - 48)) r
def okR (w:List Int):Bool:=!w.isEmpty&&decide (w.length≤16)&&!(decide (1<w.length)&&decide (w.head?=some 48))&&w.all dig&&decide (X5 0 w≤255)
def dd3 (u:Nat):List UInt8:=if u<10 then [UInt8.ofNat (48+u)] else if u<100 then [UInt8.ofNat (48+u / 10),UInt8.ofNat (48+u%10)] else [UInt8.ofNat (48+u / 100),UInt8.ofNat (48+u / 10%10),UInt8.ofNat (48+u%10)]
theorem Dgb {u:Nat} (h:u<1000):Lib.decDigits u=dd3 u:=by
 unfold dd3
 split
 · rename_i h1;rw [Lib.decDigits_one h1]
 · rename_i h1
   split
   · rename_i h2;rw [Lib.decDigits_two h1 h2]
   · rename_i h2
     rw [Lib.decDigits,dif_neg h1,Lib.decDigits_two (by omega) (by omega)]
     simp only [List.cons_append,List.nil_append]
     congr 3
     omega
def J3 (l:List UInt8):List Int:=l.map fun c=>(c.toNat:Int)
theorem Sjb:∀ v:Fin 256,okR (J3 (dd3 v.val))=true:=by decide+kernel
theorem ok1:∀ a:Fin 10,okR [48+(a.val:Int)]=true→Lib.atoiAll [UInt8.ofNat (48+a.val)]=.ok (a.val:Int)∧dd3 a.val=[UInt8.ofNat (48+a.val)]:=by decide+kernel
theorem ok2:∀ a b:Fin 10,okR [48+(a.val:Int),48+(b.val:Int)]=true→Lib.atoiAll [UInt8.ofNat (48+a.val),UInt8.ofNat (48+b.val)]=.ok ((10*a.val+b.val:Nat):Int)∧dd3 (10*a.val+b.val)=[UInt8.ofNat (48+a.val),UInt8.ofNat (48+b.val)]:=by decide+kernel
theorem ok3:∀ a b c:Fin 10,okR [48+(a.val:Int),48+(b.val:Int),48+(c.val:Int)]=true→
  100*a.val+10*b.val+c.val<256∧Lib.atoiAll [UInt8.ofNat (48+a.val),UInt8.ofNat (48+b.val),UInt8.ofNat (48+c.val)]=.ok ((100*a.val+10*b.val+c.val:Nat):Int)∧dd3 (100*a.val+10*b.val+c.val)=[UInt8.ofNat (48+a.val),UInt8.ofNat (48+b.val),UInt8.ofNat (48+c.val)]:=by decide+kernel
theorem Odb:∀ (r:List Int) (n:Int),0≤n→r.all dig=true→n≤X5 n r∧(∀ m:Int,m≤n→0≤m→∀ k,k≤r.length→m*10^k≤X5 n r)
 | [],n,h,_=>⟨by simp [X5],fun m hm h0 k hk=>by
  have:k=0:=by simpa using hk
  subst this;simpa [X5] using hm⟩
 | c::r,n,h,hd=>by
  simp only [List.all_cons,Bool.and_eq_true] at hd
  have hc:48≤c∧c≤57:=by simpa [dig] using hd.1
  have ih:=Odb r (10*n+(c - 48)) (by omega) hd.2
  simp only [X5]
  refine ⟨by have:=ih.1;omega,fun m hm h0 k hk=>?_⟩
  cases k with
  | zero=>have:=ih.1;simp;omega
  | succ k=>
   have:=ih.2 (10*m) (by omega) (by omega) k (by simpa using hk)
   rw [Int.pow_succ]
   have e:m*(10^k*10)=10*m*10^k:=by
    rw [Int.mul_comm (10^k) 10,←Int.mul_assoc,Int.mul_comm m 10]
   rw [e];exact this
def okP (l:List UInt8):Bool:=match Lib.atoiAll l with
 | .ok v=>decide (0≤v)&&decide (v≤255)&&decide (Lib.itoa v=l)
 | _=>false
theorem oO {c:Int} (h:dig c=true):∃ a:Fin 10,c=48+(a.val:Int):=by
 have hc:48≤c∧c≤57:=by simpa [dig] using h
 exact ⟨⟨(c - 48).toNat,by omega⟩,by simp;omega⟩
theorem d7:∀ {l:List UInt8} {l':List UInt8},J3 l=J3 l'→l=l':=fun h=>iS h
theorem JY (a:Fin 10):((UInt8.ofNat (48+a.val)).toNat:Int)=48+(a.val:Int):=by
 have:=a.isLt
 simp [UInt8.toNat_ofNat']
 omega
theorem gdb {l:List UInt8} {v:Nat} (hv:v<256) (h1:Lib.atoiAll l=.ok (v:Int)) (h2:dd3 v=l):okP l=true:=by
 unfold okP
 rw [h1]
 have:Lib.itoa (v:Int)=l:=by
  unfold Lib.itoa
  rw [if_neg (by omega)]
  rw [Int.toNat_natCast,Dgb (by omega),h2]
 simp [this]
 omega
theorem ikb (l:List UInt8):okP l=okR (J3 l):=by
 apply Bool.eq_iff_iff.2
 constructor
 · intro h
   unfold okP at h
   split at h
   · rename_i v hv
     simp only [Bool.and_eq_true,decide_eq_true_eq] at h
     obtain ⟨⟨h0,h1⟩,h2⟩:=h
     obtain ⟨u,rfl⟩:∃ u:Nat,v=(u:Int):=⟨v.toNat,by omega⟩
     have e:l=dd3 u:=by
      rw [←h2,Lib.itoa,if_neg (by omega),Int.toNat_natCast,Dgb (by omega)]
     rw [e]
     exact Sjb ⟨u,by omega⟩
   · cases h
 · intro h
   have h':=h
   unfold okR at h'
   simp only [Bool.and_eq_true,Bool.not_eq_true',decide_eq_true_eq] at h'
   obtain ⟨⟨⟨⟨h1,h2⟩,h3⟩,h4⟩,h5⟩:=h'
   rcases hl:l with _ | ⟨a,_ | ⟨b,_ | ⟨c,_ | ⟨d,r⟩⟩⟩⟩
   · subst hl;simp [J3] at h1
   · subst hl
     simp only [J3,List.map_cons,List.map_nil,List.all_cons,List.all_nil,Bool.and_true] at h4
     obtain ⟨x,hx⟩:=oO h4
     have ea:[a]=[UInt8.ofNat (48+x.val)]:=d7 (by simp only [J3,List.map_cons,List.map_nil,JY,hx])
     have ho:okR [48+(x.val:Int)]=true:=by simpa [J3,hx] using h
     obtain ⟨p1,p2⟩:=ok1 x ho
     rw [ea]
     exact gdb (by have:=x.isLt;omega) p1 p2
   · subst hl
     simp only [J3,List.map_cons,List.map_nil,List.all_cons,List.all_nil,Bool.and_true,Bool.and_eq_true] at h4
     obtain ⟨x,hx⟩:=oO h4.1
     obtain ⟨y,hy⟩:=oO h4.2
     have ea:[a,b]=[UInt8.ofNat (48+x.val),UInt8.ofNat (48+y.val)]:=d7 (by simp only [J3,List.map_cons,List.map_nil,JY,hx,hy])
     have ho:okR [48+(x.val:Int),48+(y.val:Int)]=true:=by simpa [J3,hx,hy] using h
     obtain ⟨p1,p2⟩:=ok2 x y ho
     rw [ea]
     exact gdb (by have:=x.isLt;have:=y.isLt;omega) p1 p2
   · subst hl
     simp only [J3,List.map_cons,List.map_nil,List.all_cons,List.all_nil,Bool.and_true,Bool.and_eq_true] at h4
     obtain ⟨x,hx⟩:=oO h4.1
     obtain ⟨y,hy⟩:=oO h4.2.1
     obtain ⟨z,hz⟩:=oO h4.2.2
     have ea:[a,b,c]=[UInt8.ofNat (48+x.val),UInt8.ofNat (48+y.val),UInt8.ofNat (48+z.val)]:=d7 (by simp only [J3,List.map_cons,List.map_nil,JY,hx,hy,hz])
     have ho:okR [48+(x.val:Int),48+(y.val:Int),48+(z.val:Int)]=true:=by simpa [J3,hx,hy,hz] using h
     obtain ⟨p0,p1,p2⟩:=ok3 x y z ho
     rw [ea]
     exact gdb p0 p1 p2
   · exfalso
     subst hl
     simp only [J3,List.map_cons,List.length_cons,List.head?_cons,List.all_cons,Bool.and_eq_true] at h3 h4 h5
     have hne:(a.toNat:Int)≠48:=fun e=>by simp [e] at h3
     have ha:48≤(a.toNat:Int)∧(a.toNat:Int)≤57:=by simpa [dig] using h4.1
     simp only [X5] at h5
     have hd:=h4.2
     have hb:48≤(b.toNat:Int)∧(b.toNat:Int)≤57:=by simpa [dig] using hd.1
     have hc:48≤(c.toNat:Int)∧(c.toNat:Int)≤57:=by simpa [dig] using hd.2.1
     have hdd:48≤(d.toNat:Int)∧(d.toNat:Int)≤57:=by simpa [dig] using hd.2.2.1
     have:=(Odb (List.map (fun c:UInt8=>(c.toNat:Int)) r) (10*(10*(10*(10*0+((a.toNat:Int) - 48))+((b.toNat:Int) - 48))+((c.toNat:Int) - 48))+((d.toNat:Int) - 48)) (by omega) hd.2.2.2).1
     omega
theorem wr8 {x:Int} (h1:0≤x) (h2:x<256):IntKind.wrap .u8 x=x:=by
 unfold IntKind.wrap
 simp only [IntKind.bits,IntKind.signed]
 simp
 omega
def rgb (n:Int) (r:List Int):Lx Int (Int×Bool):=if r.all dig=true then .out (X5 n r) else .ret (0,false)
theorem M8 (n:Nat) (s:BA) (hs:s.size≤16):∀ (r:List Int) (k m:Nat) (v:Int),(bs s).drop k=r→k≤s.size→r.length<m→0≤v→v<10^k→Dd n m s v k=some (rgb v r)
 | [],k,m,v,h,hk,hm,h0,hv=>by
  obtain ⟨m,rfl⟩:∃ q,m=q+1:=⟨m - 1,by simp at hm;omega⟩
  have:=yn h
  simp [Dd,wk,this,rgb,X5]
 | c::r,k,m,v,h,hk,hm,h0,hv=>by
  obtain ⟨m,rfl⟩:∃ q,m=q+1:=⟨m - 1,by simp at hm;omega⟩
  obtain ⟨h1,h2,h3,h4,h5⟩:=di h
  have e1:=wr1 (k:=k) (by omega)
  have a3:(0:Int)≤(k:Int):=by omega
  have hp:(10:Int)^k≤10^16:=by
   have:(10:Nat)^k≤10^16:=Nat.pow_le_pow_right (by decide) (by omega)
   exact_mod_cast this
  have hp2:(10:Int)^16=10000000000000000:=by decide
  by_cases hd:dig c=true
  · have hc:48≤c∧c≤57:=by simpa [dig] using hd
    have ih:=M8 n s hs r (k+1) m (10*v+(c - 48)) h3 (by omega) (by simpa using hm) (by omega) (by rw [Int.pow_succ];omega)
    have b1:¬c<48:=by omega
    have b2:¬c>57:=by omega
    have w1:=wr8 (x:=c - 48) (by omega) (by omega)
    have w2:=wr (x:=c - 48) (by omega) (by omega)
    have w3:=wr (x:=10*v) (by omega) (by omega)
    have w4:=wr (x:=10*v+(c - 48)) (by omega) (by omega)
    simp only [Dd,wk,h1,h2,a3,e1,b1,b2,w1,w2,w3,w4]
    have:rgb v (c::r)=rgb (10*v+(c - 48)) r:=by simp only [rgb,List.all_cons,hd,Bool.true_and,X5]
    rw [this]
    simpa using ih
  · have:rgb v (c::r)=.ret (0,false):=by simp only [rgb,List.all_cons,hd,Bool.false_and];simp
    rw [this]
    by_cases b1:c<48
    · simp [Dd,wk,h1,h2,a3,b1]
    · have b2:c>57:=by simp [dig] at hd;omega
      simp [Dd,wk,h1,h2,a3,b1,b2]
def okV (w:List Int):Bool:=!w.isEmpty&&decide (w.length≤16)&&!(decide (1<w.length)&&decide (w.head?=some 48))&&w.all dig
theorem deb (n:Nat) (s:BA) (hn:10000000≤n):rG n s=some (if okV (bs s)=true then (X5 0 (bs s),true,()) else (0,false,())):=by
 unfold rG sG okV
 rw [gw,show bs (⟨#[]⟩:BA)=[] from rfl]
 have hlen:=Da s
 by_cases he:bs s=[]
 · simp [he]
 · by_cases h16:s.size≤16
   · have hL:=M8 n s h16 (bs s) 0 n 0 (by simp) (by omega) (by rw [hlen];omega) (by omega) (by simp)
     rw [show ((0:Nat):Int)=0 from rfl] at hL
     rw [hL]
     have hX:((some (rgb 0 (bs s))).bind fun x_4=>onL x_4 (fun a_5=>some (a_5,(true,()))) (fun a_6=>some (a_6.1,(a_6.2,()))) (fun _=>none))=some (if (bs s).all dig=true then (X5 0 (bs s),true,()) else (0,false,())):=by
      unfold rgb
      cases (bs s).all dig<;>rfl
     rw [hX]
     have hne:(bs s).isEmpty=false:=by cases hb:bs s with
      | nil=>exact absurd hb he
      | cons _ _=>rfl
     have g16:¬((s.size:Int)>16):=by omega
     rw [hlen]
     by_cases h1:1<s.size
     · obtain ⟨c,r,hcr⟩:∃ c r,bs s=c::r:=by cases hb:bs s with
        | nil=>exact absurd hb he
        | cons c r=>exact ⟨c,r,rfl⟩
       have hb0:bt s ((0:Nat):Int)=c:=P6 (by rw [hcr];rfl)
       rw [show ((0:Nat):Int)=0 from rfl] at hb0
       have g1:(s.size:Int)>1:=by omega
       have g2:(0:Int)<(s.size:Int):=by omega
       simp only [he,g16,g1,g2,hb0,hne,h1,h16]
       by_cases h48:c=48
       · subst h48;simp [hcr]
       · have:(c==48)=false:=by simpa using h48
         simp [hcr,h48,this]
     · have g1:¬((s.size:Int)>1):=by omega
       simp [he,g16,g1,hne,h1,h16]
   · have g16:(s.size:Int)>16:=by omega
     have:¬(bs s).length≤16:=by omega
     simp [he,g16,this]
theorem omb (w:List Int):okR w=(okV w&&decide (X5 0 w≤255)):=rfl
open Go
theorem r9:∀ (l:List UInt8) (k:Int),Ibb l [46] k=if idx 46 (l.map fun c=>(c.toNat:Int))= -1 then -1 else idx 46 (l.map fun c=>(c.toNat:Int))+k
 | [],k=>by simp [Ibb,idx]
 | b::l,k=>by
  have ih:=r9 l (k+1)
  have hge:=(Fu (c:=46) (l.map fun c=>(c.toNat:Int))).2
  unfold Ibb
  by_cases h:b=46
  · subst h
    have e:idx 46 (((46:UInt8)::l).map fun c=>(c.toNat:Int))=0:=by simp [idx]
    rw [e];simp
  · have h1:¬((b.toNat:Int)=46):=fun e=>h (by
     have:b.toNat=(46:UInt8).toNat:=by show b.toNat=46;omega
     exact UInt8.toNat_inj.1 this)
    have h2:(List.isPrefixOf [(46:UInt8)] (b::l))=false:=by
     simp only [List.isPrefixOf,Bool.and_true]
     simpa using fun e=>h e.symm
    rw [if_neg (by rw [h2];simp),ih,List.map_cons]
    by_cases h3:idx 46 (l.map fun c=>(c.toNat:Int))= -1
    · have e:idx 46 ((b.toNat:Int)::l.map fun c=>(c.toNat:Int))= -1:=by simp only [idx,h1,if_false,h3,if_true]
      rw [e,h3];simp
    · have e:idx 46 ((b.toNat:Int)::l.map fun c=>(c.toNat:Int))=idx 46 (l.map fun c=>(c.toNat:Int))+1:=by simp only [idx,h1,if_false,h3]
      rw [e,if_neg h3,if_neg (by omega)];omega
theorem G8 (n:Nat) (s:BA) (hs:s.size≤1000000):zq n s Dom.dot=some (idx 46 (bs s)):=by
 unfold zq JG uI
 rw [if_pos (by omega),Option.bind_some]
 congr 1
 have h:=r9 s.data.toList 0
 rw [Int.add_zero] at h
 show Ibb s.data.toList [46] 0=_
 rw [h]
 unfold bs
 split
 · rename_i h1;exact h1.symm
 · rfl
theorem DG (d:Int):∀ (l cur:List Int),Xb d cur l=if idx d l= -1 then [cur++l] else (cur++l.take (idx d l).toNat)::Xb d [] (l.drop ((idx d l).toNat+1))
 | [],cur=>by simp [Xb,idx]
 | c::l,cur=>by
  have ih:=DG d l (cur++[c])
  have hge:=(Fu (c:=d) l).2
  by_cases h:c=d
  · have e:idx d (c::l)=0:=by simp [idx,h]
    simp [Xb,h,e]
    simp [idx]
  · by_cases h2:idx d l= -1
    · have e:idx d (c::l)= -1:=by simp [idx,h,h2]
      simp [Xb,h,e,ih,h2]
    · have e:idx d (c::l)=idx d l+1:=by simp [idx,h,h2]
      have e2:(idx d l+1).toNat=(idx d l).toNat+1:=by omega
      have e3:¬(idx d l+1= -1):=by omega
      simp only [Xb,h,e,ih,h2,e2,e3,if_false]
      simp
theorem G3 (d:Int):∀ (l:List Int),idx d l<l.length∧(idx d l= -1→l.count d=0)∧(idx d l≠ -1→l.count d=(l.drop ((idx d l).toNat+1)).count d+1)
 | []=>by simp [idx]
 | c::l=>by
  have ih:=G3 d l
  have hge:=(Fu (c:=d) l).2
  simp only [idx]
  by_cases h:c=d
  · first | (simp [h];done) | (simp [h];omega)
  · rw [if_neg h]
    have hc:(c==d)=false:=by simpa using h
    by_cases h2:idx d l= -1
    · have:=ih.2.1 h2
      simp [h2,List.count_cons,this,hc]
      omega
    · rw [if_neg h2]
      have e:(idx d l+1).toNat=(idx d l).toNat+1:=by omega
      have:=ih.2.2 h2
      refine ⟨by simp;omega,fun h=>by omega,fun _=>?_⟩
      rw [e,List.count_cons,this]
      simp [hc]
theorem iT (n:Nat) (N:Nat) (hN:N≤1000000):∀ (c i m:Nat) (s:BA) (a:Sq BA),s.size≤1000000→(bs s).count 46=c→i+c=N→a.n=N+1→c<m→
  ∃ s' a',Dc n m s Dom.dot 0 N i a=some (.out (s',(N:Int),a'))∧a'.n=N+1∧(∀ j,j<i→a'.at' j=a.at' j)∧
   ∃ P:List (List Int),Xb 46 [] (bs s)=P++[bs s']∧P.length=c∧∀ j w,P[j]?=some w→bs (a'.at' (i+j))=w
 | 0,i,m,s,a,hs,hc,hi,ha,hm=>by
  obtain ⟨m,rfl⟩:∃ q,m=q+1:=⟨m - 1,by omega⟩
  have hiN:i=N:=by omega
  subst hiN
  refine ⟨s,a,?_,ha,fun _ _=>rfl,[],?_,rfl,fun j w h=>by simp at h⟩
  · simp [Dc,qj]
  · have hx:idx 46 (bs s)= -1:=by
     have:=G3 46 (bs s)
     have hge:=(Fu (c:=46) (bs s)).2
     refine Classical.byContradiction fun h=>?_
     have:=this.2.2 h
     omega
    rw [DG,if_pos hx];rfl
 | c+1,i,m,s,a,hs,hc,hi,ha,hm=>by
  obtain ⟨m,rfl⟩:∃ q,m=q+1:=⟨m - 1,by omega⟩
  have hlt:=G3 46 (bs s)
  have hge:=(Fu (c:=46) (bs s)).2
  have hx:idx 46 (bs s)≠ -1:=fun h=>by have:=hlt.2.1 h;omega
  obtain ⟨k,hk⟩:∃ k:Nat,idx 46 (bs s)=(k:Int):=⟨(idx 46 (bs s)).toNat,by omega⟩
  have hks:k<s.size:=by have:=hlt.1;rw [Da] at this;omega
  have hcount:=hlt.2.2 hx
  rw [hk,Int.toNat_natCast,hc] at hcount
  have hbe:bs (s.extract (k+1) s.size)=(bs s).drop (k+1):=by
   rw [Pm,←Da,List.take_length]
  have hsz:(s.extract (k+1) s.size).size≤1000000:=by
   rw [←Da,hbe,List.length_drop,Da];omega
  obtain ⟨s',a',h1,h2,h3,P,h4,h5,h6⟩:=iT n N hN c (i+1) m (s.extract (k+1) s.size)
   (⟨a.n,fun q=>if q=i∧q<a.n then s.extract 0 k else a.at' q⟩:Sq BA) hsz (by rw [hbe];omega) (by omega) ha (by omega)
  refine ⟨s',a',?_,h2,fun j hj=>?_,(bs s).take k::P,?_,by simp [h5],fun j w hw=>?_⟩
  · have a1:(i:Int)<(N:Int):=by omega
    have a2:¬((k:Int)<0):=by omega
    have a3:(0:Int)≤(i:Int):=by omega
    have a4:(i:Int)<(a.n:Int):=by omega
    have a5:(0:Int)≤(k:Int):=by omega
    have a6:(k:Int)≤(s.size:Int):=by omega
    have e0:IntKind.wrap .i64 ((k:Int)+0)=(k:Int):=by rw [Int.add_zero];exact wr (by omega) (by omega)
    have e1:(Dom.dot.size:Int)=1:=rfl
    have e2:=wr1 (k:=k) (by omega)
    have e3:=wr1 (k:=i) (by omega)
    have a7:(0:Int)≤((k+1:Nat):Int):=by omega
    have a8:((k+1:Nat):Int)≤(s.size:Int):=by omega
    simp only [Dc,qj,G8 n s hs,hk,a1,a2,a3,a4,a5,a6,e0,e1,e2,e3,a7,a8,Int.toNat_natCast]
    have e0':IntKind.wrap .i64 (k:Int)=(k:Int):=wr (by omega) (by omega)
    have e2':IntKind.wrap .i64 ((k:Int)+1)=(k:Int)+1:=e2
    have a7':(0:Int)≤(k:Int)+1:=by omega
    have a8':(k:Int)+1≤(s.size:Int):=by omega
    have e9:((k:Int)+1).toNat=k+1:=by omega
    simpa [a2,a3,a4,a5,a6,e0',e2',a7',a8',e9] using h1
  · rw [h3 j (by omega)]
    simp [show ¬j=i by omega]
  · rw [DG,if_neg hx,hk,Int.toNat_natCast,←hbe,h4];simp
  · cases j with
    | zero=>
     simp at hw
     rw [Nat.add_zero,h3 i (by omega),←hw]
     simp only [show i<a.n by omega,and_self,if_true]
     rw [Pm];simp
    | succ j=>
     have:=h6 j w (by simpa using hw)
     rwa [show i+(j+1)=i+1+j by omega]
theorem gfb (n:Nat) (s:BA) (hs:s.size≤1000000) (hn:10000000≤n):∃ q,KG n s (⟨#[46]⟩:BA)=some q∧sqL bs q=Xb 46 [] (bs s):=by
 have hcl:(bs s).count 46≤s.size:=by rw [←Da];exact List.count_le_length
 obtain ⟨c,hc⟩:∃ c,(bs s).count 46=c:=⟨_,rfl⟩
 rw [hc] at hcl
 have hcount:HG n s Dom.dot=some (c:Int):=by
  unfold HG IG
  have e2:bt Dom.dot 0=46:=rfl
  have:=neb (c:=46) (by decide) (by decide) s.data.toList
  rw [e2,this,show (Dom.dot.size:Int)=1 from rfl,←hc]
  rfl
 obtain ⟨s',a',h1,h2,h3,P,h4,h5,h6⟩:=iT n c (by omega) c 0 n s (⟨c+1,fun _=>(⟨#[]⟩:BA)⟩:Sq BA) hs hc (by omega) rfl (by omega)
 refine ⟨(⟨c+1,fun i=>(fun q=>if q=c∧q<a'.n then s' else a'.at' q) (0+i)⟩:Sq BA),?_,?_⟩
 · have e1:=wr1 (k:=s.size) (by omega)
   have e2:=wr1 (k:=c) (by omega)
   have hif:(if ((s.size+1:Nat):Int)<((c+1:Nat):Int) then ((s.size+1:Nat):Int) else ((c+1:Nat):Int))=((c+1:Nat):Int):=if_neg (by omega)
   have e3:IntKind.wrap .i64 (((c+1:Nat):Int) - 1)=(c:Int):=by rw [wr (by omega) (by omega)];omega
   have f1:=cmb (n:=c) (by omega)
   have f0:(0:Int)≤((c+1:Nat):Int):=by omega
   have f2:(c:Int)<(a'.n:Int):=by omega
   have f3:((c+1:Nat):Int)≤(a'.n:Int):=by omega
   have f4:(0:Int)≤(c:Int):=by omega
   have hne:(decide (bs Dom.dot=bs (⟨#[]⟩:BA)))=false:=by decide
   unfold KG LG fw cu
   rw [show (⟨#[46]⟩:BA)=Dom.dot from rfl,gw,hne,hcount]
   rw [show ((0:Nat):Int)=0 from rfl] at h1
   simp only [Option.bind_some,e1,e2,hif,e3,f1,f0,Int.toNat_natCast,h1,onL,f2,f3,f4]
   simp
 · unfold sqL
   rw [List.range_succ,List.map_append,h4]
   congr 1
   · apply List.ext_getElem?
     intro j
     rw [List.getElem?_map]
     by_cases hj:j<c
     · rw [List.getElem?_range hj,List.getElem?_eq_getElem (by omega)]
       have:=h6 j _ (List.getElem?_eq_getElem (by omega))
       rw [Nat.zero_add] at this
       simp [show ¬j=c by omega,this]
     · rw [List.getElem?_eq_none (by simp;omega),List.getElem?_eq_none (by omega)];rfl
   · simp [show c<a'.n by omega]
theorem Pgb (n:Nat) (l:Sq BA) (hl:l.n≤2000000) (hs:∀ i,i<l.n→(l.at' i).size≤1000000):∀ (W:List (List Int)) (i m:Nat),(sqL bs l).drop i=W→W.length<m→i≤l.n→
  td n m l l l.n i=some (if W.all okR=true then .out l else .ret false)
 | [],i,m,h,hm,hi=>by
  obtain ⟨m,rfl⟩:∃ q,m=q+1:=⟨m - 1,by omega⟩
  have:=o0 h
  have a4:¬((i:Int)<(l.n:Int)):=by omega
  simp [td,Mk,a4]
 | w::W,i,m,h,hm,hi=>by
  obtain ⟨m,rfl⟩:∃ q,m=q+1:=⟨m - 1,by omega⟩
  obtain ⟨h1,h2,h3⟩:=pS h
  have e1:=wr1 (k:=i) (by omega)
  have a1:(0:Int)≤(i:Int):=by omega
  have a2:(i:Int)<(l.n:Int):=by omega
  have ih:=Pgb n l hl hs W (i+1) m h3 (by simpa using hm) (by omega)
  have hw:=ikb (l.at' i).data.toList
  rw [show J3 (l.at' i).data.toList=w from h2] at hw
  have hsz:(l.at' i).size≤281474976710656:=by have:=hs i h1;omega
  simp only [td,Mk,a1,a2,Int.toNat_natCast,e1,List.all_cons,←hw,geb,hsz]
  unfold okP
  rcases hv:Lib.atoiAll (l.at' i).data.toList with v | _ | _
  · have hb:=Lib.atoiAll_bounds hv
    by_cases g0:v<0
    · have:¬(0≤v):=by omega
      simp [g0,this]
    · by_cases g1:v>255
      · have:¬(v≤255):=by omega
        simp [g0,g1,this]
      · have q0:0≤v:=by omega
        have q1:v≤255:=by omega
        have q2: -9223372036854775808≤v∧v≤9223372036854775807:=⟨by omega,by omega⟩
        have hb:bs (⟨(Lib.itoa v).toArray⟩:BA)=J3 (Lib.itoa v):=rfl
        have hdp:bs (⟨(Lib.itoa v).toArray⟩:BA)=bs (l.at' i)↔Lib.itoa v=(l.at' i).data.toList:=⟨fun h=>iS h,fun h=>by rw [hb,h];rfl⟩
        have hd:decide (bs (⟨(Lib.itoa v).toArray⟩:BA)=bs (l.at' i))=decide (Lib.itoa v=(l.at' i).data.toList):=decide_eq_decide.2 hdp
        simp only [g0,g1,q0,q1,Ocb,q2,gw,hd]
        by_cases hi:Lib.itoa v=(l.at' i).data.toList
        · simpa [hi,q0,q1,q2.1,q2.2] using ih
        · have:¬bs (⟨(Lib.itoa v).toArray⟩:BA)=bs (l.at' i):=fun h=>hi (hdp.1 h)
          simp [hi,q0,q1,q2.1,q2.2,this]
  · simp
  · simp
def Aeb (l:List Int):Bool:=(Xb 46 [] l).all okR&&decide ((Xb 46 [] l).length=4)
theorem Vab (n:Nat) (s:BA) (hs:s.size≤1000000) (hn:10000000≤n):xp n s=some (Aeb (bs s)):=by
 obtain ⟨q,h1,h2⟩:=gfb n s hs hn
 obtain ⟨h3,h4⟩:=sC h2
 have h:=Pgb n q (by omega) (fun i hi=>Nat.le_trans (h4 i hi) hs) _ 0 n rfl (by rw [List.drop_zero,Wr];omega) (by omega)
 rw [show ((0:Nat):Int)=0 from rfl,List.drop_zero,h2] at h
 unfold xp zw Aeb
 rw [h1,Option.bind_some,h,Option.bind_some,←h2,Wr]
 cases (sqL bs q).all okR
 · rfl
 · by_cases h4:q.n=4
   · simp [onL,h4]
   · have:¬((q.n:Int)=4):=by omega
     simp [onL,h4,this]
theorem ydb (n:Nat) (hn:10000000≤n) (l:Sq BA) (hl:l.n≤2000000):∀ (W:List (List Int)) (i m:Nat),(sqL bs l).drop i=W→W.length<m→i≤l.n→
  Ed n m l i=some (if W.all okR=true then .out l else .ret false)
 | [],i,m,h,hm,hi=>by
  obtain ⟨m,rfl⟩:∃ q,m=q+1:=⟨m - 1,by omega⟩
  have:=o0 h
  have a4:¬((i:Int)<(l.n:Int)):=by omega
  simp [Ed,yl,a4]
 | w::W,i,m,h,hm,hi=>by
  obtain ⟨m,rfl⟩:∃ q,m=q+1:=⟨m - 1,by omega⟩
  obtain ⟨h1,h2,h3⟩:=pS h
  have e1:=wr1 (k:=i) (by omega)
  have a1:(0:Int)≤(i:Int):=by omega
  have a2:(i:Int)<(l.n:Int):=by omega
  have ih:=ydb n hn l hl W (i+1) m h3 (by simpa using hm) (by omega)
  simp only [Ed,yl,a1,a2,Int.toNat_natCast,e1,List.all_cons,deb _ _ hn,h2,omb]
  by_cases hv:okV w=true
  · by_cases g:X5 0 w≤255
    · have:¬(X5 0 w>255):=by omega
      simpa [hv,g,this] using ih
    · have:X5 0 w>255:=by omega
      simp [hv,g,this]
  · simp [hv]
open Go
def ZQ (l:List Int):List Int:=(l.take (l.length - 1)).drop 1
def Ceb (l:List Int):Bool:=decide (2≤l.length)&&decide (l.head?=some 91)&&decide (l.getLast?=some 93)&&Aeb (ZQ l)
theorem xY (s:BA):bs (s.extract 1 (s.size - 1))=ZQ (bs s):=by rw [Pm,ZQ,Da]
theorem wt (s:BA) (i j:Nat):(s.extract i j).size≤s.size:=by
 rw [←Da,←Da,Pm,List.length_drop,List.length_take];omega
theorem N6 {s:BA} (h:0<s.size):∃ c,(bs s).head?=some c∧bt s 0=c:=by
 obtain ⟨c,hc⟩:∃ c,(bs s)[0]?=some c:=⟨_,List.getElem?_eq_getElem (by rw [Da];exact h)⟩
 exact ⟨c,by rw [List.head?_eq_getElem?];exact hc,P6 (k:=0) hc⟩
theorem O6 {s:BA} (h:0<s.size):∃ c,(bs s).getLast?=some c∧bt s ((s.size - 1:Nat):Int)=c:=by
 obtain ⟨c,hc⟩:∃ c,(bs s)[s.size - 1]?=some c:=⟨_,List.getElem?_eq_getElem (by rw [Da];omega)⟩
 exact ⟨c,by rw [List.getLast?_eq_getElem?,Da];exact hc,P6 hc⟩
theorem wrm {k:Nat} (h0:0<k) (h:k<4611686018427387904):IntKind.wrap .i64 ((k:Int) - 1)=((k - 1:Nat):Int):=by
 rw [wr (by omega) (by omega)];omega
theorem uU (n:Nat) (s:BA) (hs:s.size≤1000000) (hn:10000000≤n):Np n s=some (Ceb (bs s)):=by
 unfold Np zx Ceb
 rw [Da]
 by_cases h2:2≤s.size
 · obtain ⟨c,hc,hb⟩:=N6 (s:=s) (by omega)
   obtain ⟨d,hd,hb2⟩:=O6 (s:=s) (by omega)
   have e1:=wrm (k:=s.size) (by omega) (by omega)
   have a1:¬((s.size:Int)<2):=by omega
   have a2:(0:Int)<(s.size:Int):=by omega
   have a3:(0:Int)≤((s.size - 1:Nat):Int):=by omega
   have a4:((s.size - 1:Nat):Int)<(s.size:Int):=by omega
   have a5:((s.size - 1:Nat):Int)≤(s.size:Int):=by omega
   have a6:(1:Int)≤((s.size - 1:Nat):Int):=by omega
   have hin:(s.extract (Int.toNat (1:Int)) (s.size - 1))=s.extract 1 (s.size - 1):=rfl
   obtain ⟨q,q1,q2⟩:=fY n (s.extract 1 (s.size - 1)) 46 (Nat.le_trans (wt _ _ _) hs) hn
   obtain ⟨q3,q4⟩:=sC q2
   have hq:=wt s 1 (s.size - 1)
   have hL:=ydb n hn q (by omega) _ 0 n rfl (by rw [List.drop_zero,Wr];omega) (by omega)
   rw [show ((0:Nat):Int)=0 from rfl,List.drop_zero,q2,xY] at hL
   simp only [a1,a2,hb,e1,a3,a4,a5,a6,hb2,hc,hd,Int.toNat_natCast,hin,q1,Option.bind_some,hL]
   by_cases g1:c=91
   · by_cases g2:d=93
     · subst g1 g2
       unfold Aeb
       have hl4:(Xb 46 [] (ZQ (bs s))).length=q.n:=by rw [←xY,←q2,Wr]
       rw [hl4]
       by_cases ha:(Xb 46 [] (ZQ (bs s))).all okR=true
       · by_cases h4:q.n=4
         · simp [onL,ha,h4,h2]
         · have:¬((q.n:Int)=4):=by omega
           simp [onL,ha,h4,this,h2]
       · simp [onL,ha,h2]
     · have:(d !=93)=true:=by simpa using g2
       simp [g1,g2,this]
   · have:(c !=91)=true:=by simpa using g1
     simp [g1,this]
 · have a1:(s.size:Int)<2:=by omega
   simp [a1,h2]
def lch (c:Int):Bool:=sgn c || decide (c=45)
def j6 (w:List Int):Bool:=decide (1≤w.length)&&decide (w.length≤63)&&decide (w.head?≠some 45)&&decide (w.getLast?≠some 45)&&w.all lch
theorem Ggb (n:Nat) (l:Sq BA) (i:Nat) (w:BA) (hs:w.size≤1000000):∀ (r:List Int) (k m:Nat),(bs w).drop k=r→k≤w.size→r.length<m→
  Be n m l i w k=some (if r.all lch=true then .out (l,(i:Int)) else .ret false)
 | [],k,m,h,hk,hm=>by
  obtain ⟨m,rfl⟩:∃ q,m=q+1:=⟨m - 1,by omega⟩
  have:=yn h
  simp [Be,Zm,this]
 | c::r,k,m,h,hk,hm=>by
  obtain ⟨m,rfl⟩:∃ q,m=q+1:=⟨m - 1,by omega⟩
  obtain ⟨h1,h2,h3,h4,h5⟩:=di h
  have e1:=wr1 (k:=k) (by omega)
  have a3:(0:Int)≤(k:Int):=by omega
  have ih:=Ggb n l i w hs r (k+1) m h3 (by omega) (by simpa using hm)
  simp only [Be,Zm,h1,h2,a3,e1,T8,List.all_cons]
  have hl:lch c=((decide (97≤c)&&decide (c≤122)) || (decide (48≤c)&&decide (c≤57)) || decide (c=45)):=rfl
  simp only [hl]
  by_cases b1:97≤c<;>by_cases b2:c≤122<;>by_cases b3:48≤c<;>by_cases b4:c≤57<;>by_cases b5:c=45<;>first
   | (exfalso;omega)
   | (simp [b1,b2,b3,b4,b5];done)
   | (simpa [b1,b2,b3,b4,b5] using ih)
theorem Fgb (n:Nat) (hn:10000000≤n) (l:Sq BA) (hl:l.n≤2000000) (hs:∀ i,i<l.n→(l.at' i).size≤1000000):∀ (W:List (List Int)) (i m:Nat),(sqL bs l).drop i=W→W.length<m→i≤l.n→
  Ae n m l i=some (if W.all j6=true then .out () else .ret false)
 | [],i,m,h,hm,hi=>by
  obtain ⟨m,rfl⟩:∃ q,m=q+1:=⟨m - 1,by omega⟩
  have:=o0 h
  have a4:¬((i:Int)<(l.n:Int)):=by omega
  simp [Ae,Ym,a4]
 | w::W,i,m,h,hm,hi=>by
  obtain ⟨m,rfl⟩:∃ q,m=q+1:=⟨m - 1,by omega⟩
  obtain ⟨h1,h2,h3⟩:=pS h
  have e1:=wr1 (k:=i) (by omega)
  have a1:(0:Int)≤(i:Int):=by omega
  have a2:(i:Int)<(l.n:Int):=by omega
  have ih:=Fgb n hn l hl hs W (i+1) m h3 (by simpa using hm) (by omega)
  have hsz:=hs i h1
  have hw:=Ggb n l i (l.at' i) hsz (bs (l.at' i)) 0 n (by simp) (by omega) (by rw [Da];omega)
  rw [show ((0:Nat):Int)=0 from rfl,h2] at hw
  have hlen:w.length=(l.at' i).size:=by rw [←h2,Da]
  simp only [Ae,Ym,a1,a2,Int.toNat_natCast,hw,e1,List.all_cons]
  have hlab:j6 w=(decide (1≤(l.at' i).size)&&decide ((l.at' i).size≤63)&&decide (w.head?≠some 45)&&decide (w.getLast?≠some 45)&&w.all lch):=by unfold j6;rw [hlen]
  simp only [hlab]
  by_cases g1:1≤(l.at' i).size
  · by_cases g2:(l.at' i).size≤63
    · obtain ⟨c,hc,hb⟩:=N6 (s:=l.at' i) (by omega)
      obtain ⟨d,hd,hb2⟩:=O6 (s:=l.at' i) (by omega)
      rw [h2] at hc hd
      have e2:=wrm (k:=(l.at' i).size) (by omega) (by omega)
      have b1:¬(((l.at' i).size:Int)<1):=by omega
      have b2:¬(((l.at' i).size:Int)>63):=by omega
      have b3:(0:Int)<((l.at' i).size:Int):=by omega
      have b4:(0:Int)≤(((l.at' i).size - 1:Nat):Int):=by omega
      have b5:(((l.at' i).size - 1:Nat):Int)<((l.at' i).size:Int):=by omega
      simp only [b1,b2,b3,hb,e2,b4,b5,hb2,hc,hd,g1,g2]
      by_cases x1:c=45
      · simp [x1]
      · by_cases x2:d=45
        · simp [x1,x2]
        · by_cases x3:w.all lch=true
          · simp only [x3,if_true,Option.bind_some,onL]
            have e1':IntKind.wrap .i64 ((i:Int)+1)=(i:Int)+1:=e1
            simpa [x1,x2,x3,e1'] using ih
          · simp [x1,x2,x3,onL]
    · have b1:¬(((l.at' i).size:Int)<1):=by omega
      have b2:(((l.at' i).size:Int)>63):=by omega
      simp [b1,b2,g2]
  · have b1:(((l.at' i).size:Int)<1):=by omega
    simp [b1,g1]
def DK (l:List Int):Bool:=decide (l.length≤255)&&(Ceb l || (Xb 46 [] l).all j6)
theorem OX (n:Nat) (s:BA) (hs:s.size≤1000000) (hn:10000000≤n):Iv n s=some (DK (bs s)):=by
 obtain ⟨q,q1,q2⟩:=fY n s 46 hs hn
 obtain ⟨q3,q4⟩:=sC q2
 have hL:=Fgb n hn q (by omega) (fun i hi=>Nat.le_trans (q4 i hi) hs) _ 0 n rfl (by rw [List.drop_zero,Wr];omega) (by omega)
 rw [show ((0:Nat):Int)=0 from rfl,List.drop_zero,q2] at hL
 unfold Iv eC DK
 rw [Da,uU n s hs hn,q1,Option.bind_some,Option.bind_some,hL]
 by_cases g:s.size≤255
 · have:¬((s.size:Int)>255):=by omega
   by_cases h1:Ceb (bs s)=true
   · simp [g,this,h1]
   · by_cases h2:(Xb 46 [] (bs s)).all j6=true
     · simp [g,this,h1,h2,onL]
     · simp [g,this,h1,h2,onL]
 · have:((s.size:Int)>255):=by omega
   simp [g,this]
def lbB (L:Nat):Nat→List Int→Bool
 | _,[]=>true
 | i,c::r=>if sgn c=true then lbB L (i+1) r else if c≠45 then false else if i=0 then false else if i=L - 1 then false else lbB L (i+1) r
theorem w9 (n:Nat) (s:BA) (hs:s.size≤1000000):∀ (r:List Int) (k m:Nat),(bs s).drop k=r→k≤s.size→r.length<m→Ef n m s s.size k=some (if lbB s.size k r=true then .out s else .ret false)
 | [],k,m,h,hk,hm=>by
  obtain ⟨m,rfl⟩:∃ q,m=q+1:=⟨m - 1,by omega⟩
  have:=yn h
  simp [Ef,vp,this,lbB]
 | c::r,k,m,h,hk,hm=>by
  obtain ⟨m,rfl⟩:∃ q,m=q+1:=⟨m - 1,by omega⟩
  obtain ⟨h1,h2,h3,h4,h5⟩:=di h
  have e1:=wr1 (k:=k) (by omega)
  have e2:=wrm (k:=s.size) (by omega) (by omega)
  have a3:(0:Int)≤(k:Int):=by omega
  have ih:=w9 n s hs r (k+1) m h3 (by omega) (by simpa using hm)
  simp only [Ef,vp,h1,h2,a3,e1,e2,Cdb,Option.bind_some,lbB]
  by_cases g1:sgn c=true
  · simpa [g1] using ih
  · by_cases g2:c=45
    · have h45:sgn 45=false:=by decide
      by_cases g3:k=0
      · subst g3;simp [g1,g2,h45]
      · have x3:((k:Int)==0)=false:=by simpa using g3
        by_cases g4:k=s.size - 1
        · have:((k:Int)==((s.size - 1:Nat):Int))=true:=by rw [g4];simp
          simp [g1,g2,g3,x3,this,←g4,h45]
        · have:((k:Int)==((s.size - 1:Nat):Int))=false:=by simp only [beq_eq_false_iff_ne];omega
          simpa [g1,g2,g3,g4,x3,this,h45] using ih
    · have:(c !=45)=true:=by simpa using g2
      simp [g1,g2,this]
theorem Ngb:∀ (r:List Int) (i L:Nat),i+r.length=L→lbB L i r=(r.all lch&&decide (i=0→r.head?≠some 45)&&decide (r.getLast?≠some 45))
 | [],i,L,h=>by simp [lbB]
 | c::r,i,L,h=>by
  simp only [List.length_cons] at h
  have ih:=Ngb r (i+1) L (by omega)
  have hlast:(c::r).getLast?=if r=[] then some c else r.getLast?:=by
   cases r with
   | nil=>rfl
   | cons d r=>simp [List.getLast?_cons_cons]
  simp only [lbB,List.all_cons,List.head?_cons,hlast]
  have h45:sgn 45=false:=by decide
  by_cases g2:c=45
  · subst g2
    simp only [h45,lch]
    by_cases g3:i=0
    · subst g3;simp
    · by_cases g4:r=[]
      · subst g4
        have:i=L - 1:=by simp at h;omega
        simp [g3,←this]
      · have:¬i=L - 1:=by
         have:0<r.length:=List.length_pos_iff.2 g4
         omega
        simp [g3,g4,this,ih]
  · by_cases g1:sgn c=true
    · by_cases g4:r=[]
      · subst g4;simp [g1,g2,lch,lbB]
      · simp [g1,g2,g4,lch,ih]
    · simp [g1,g2,lch]
theorem y9 (n:Nat) (s:BA) (hs:s.size≤1000000) (hn:10000000≤n):yw n s=some (j6 (bs s)):=by
 have hL:=w9 n s hs (bs s) 0 n (by simp) (by omega) (by rw [Da];omega)
 rw [show ((0:Nat):Int)=0 from rfl] at hL
 have hx:j6 (bs s)=(decide (1≤s.size)&&decide (s.size≤63)&&lbB s.size 0 (bs s)):=by
  rw [Ngb (bs s) 0 s.size (by rw [Da];omega)]
  unfold j6
  rw [Da]
  by_cases g4:(bs s).head?=some 45<;>by_cases g5:(bs s).getLast?=some 45<;>cases decide (1≤s.size)<;>cases decide (s.size≤63)<;>cases (bs s).all lch<;>simp [g4,g5]
 unfold yw bG
 rw [hL,hx]
 have e1:(decide ((s.size:Int)≥1))=decide (1≤s.size):=by rw [decide_eq_decide];omega
 have e2:(decide ((s.size:Int)≤63))=decide (s.size≤63):=by rw [decide_eq_decide];omega
 cases hb:lbB s.size 0 (bs s)
 · simp [onL]
 · simp only [if_true,Option.bind_some,onL,e1,e2]
   cases decide (1≤s.size)<;>simp
open Go
theorem Y0 (n:Nat) (s p:BA):Ee n s p=some (decide ((bs s).take p.size=bs p)):=by
 unfold Ee xq Hq gq
 by_cases h:p.size≤s.size
 · have a1:(s.size:Int)≥(p.size:Int):=by omega
   have a2:(0:Int)≤(p.size:Int):=by omega
   have a3:(p.size:Int)≤(s.size:Int):=by omega
   simp only [a1,a2,a3,gw,Int.toNat_natCast,Pm]
   simp
 · have a1:¬((s.size:Int)≥(p.size:Int)):=by omega
   have:¬(bs s).take p.size=bs p:=fun e=>by
    have:=congrArg List.length e
    rw [List.length_take,Da,Da] at this
    omega
   simp [a1,this]
theorem lfb {l:List Int} {c:Int}:l.take 1=[c]↔l.head?=some c:=by cases l<;>simp
theorem Xs (n:Nat) (s p:BA) {c:Int} (hp:bs p=[c]):Ee n s p=some (decide ((bs s).head?=some c)):=by
 have h1:p.size=1:=by rw [←Da,hp];rfl
 rw [Y0,h1,hp]
 congr 1
 rw [decide_eq_decide]
 exact lfb
theorem aY (n:Nat) (s p:BA) (hs:s.size≤1000000) {c:Int} (hp:bs p=[c]):Xh n s p=some (decide ((bs s).getLast?=some c)):=by
 have h1:p.size=1:=by rw [←Da,hp];rfl
 unfold Xh yq Iq iq
 by_cases h:1≤s.size
 · have e1:=wrm (k:=s.size) (by omega) (by omega)
   have a1:(s.size:Int)≥((1:Nat):Int):=by omega
   have a2:(0:Int)≤((s.size - 1:Nat):Int):=by omega
   have a3:((s.size - 1:Nat):Int)≤(s.size:Int):=by omega
   obtain ⟨d,hd,_⟩:=O6 (s:=s) (by omega)
   have hx:((bs s).take s.size).drop (s.size - 1)=[d]:=by
    rw [show (bs s).take s.size=bs s by rw [←Da,List.take_length]]
    have hl:s.size - 1<(bs s).length:=by rw [Da];omega
    rw [List.drop_eq_getElem_cons hl]
    rw [List.getLast?_eq_getElem?,Da,List.getElem?_eq_getElem hl] at hd
    rw [Option.some.inj hd,List.drop_eq_nil_of_le (by rw [Da];omega)]
   rw [h1] at*
   rw [show ((1:Nat):Int)=1 from rfl] at*
   simp only [a1,e1,a2,a3,gw,Int.toNat_natCast,Pm,hx,hp,hd]
   simp
 · have a1:¬((s.size:Int)≥((1:Nat):Int)):=by omega
   have:(bs s)=[]:=by
    apply List.eq_nil_of_length_eq_zero
    rw [Da];omega
   rw [h1]
   simp only [a1,this]
   simp
theorem rcb (n:Nat) (hn:10000000≤n):∀ (m:Nat) (s:BA),s.size≤1000000→s.size<m→Dom.domL (fun x=>zq n x Dom.dot) (yw n) m s=some ((Xb 46 [] (bs s)).all j6)
 | 0,s,hs,hm=>absurd hm (Nat.not_lt_zero _)
 | m+1,s,hs,hm=>by
  have hlt:=G3 46 (bs s)
  have hge:=(Fu (c:=46) (bs s)).2
  rw [Dom.domL]
  simp only [G8 n s hs,Option.bind_some]
  rw [DG]
  by_cases hx:idx 46 (bs s)= -1
  · rw [if_pos hx,hx,if_pos (by decide),y9 n s hs hn]
    simp
  · obtain ⟨k,hk⟩:∃ k:Nat,idx 46 (bs s)=(k:Int):=⟨(idx 46 (bs s)).toNat,by omega⟩
    have hks:k<s.size:=by have:=hlt.1;rw [Da] at this;omega
    have hbe:bs (s.extract (k+1) s.size)=(bs s).drop (k+1):=by rw [Pm,←Da,List.take_length]
    have hb0:bs (s.extract 0 k)=(bs s).take k:=by rw [Pm];rfl
    have ih:=rcb n hn m (s.extract (k+1) s.size) (Nat.le_trans (wt _ _ _) hs) (by rw [←Da,hbe,List.length_drop,Da];omega)
    rw [if_neg hx,hk,if_neg (by omega),if_pos ⟨by omega,by omega⟩,Int.toNat_natCast,y9 n _ (Nat.le_trans (wt _ _ _) hs) hn,Option.bind_some,ih,hb0,hbe]
    simp only [List.nil_append,List.all_cons]
    cases j6 ((bs s).take k)<;>simp
def Egb (l:List Int):Bool:=if l.head?=some 91 then decide (l.getLast?=some 93)&&Aeb (ZQ l) else (Xb 46 [] l).all j6&&decide (l.length≤255)
theorem bQ (n:Nat) (s:BA):qg n s=some (decide ((bs s).head?=some 91)):=by
 unfold qg dq
 rw [Xs n s _ (c:=91) rfl];rfl
theorem tS (n:Nat) (s:BA) (hs:s.size≤1000000) (hn:10000000≤n):Lj n s=some (Egb (bs s)):=by
 unfold Lj Egb
 rw [bQ,Option.bind_some]
 by_cases h:(bs s).head?=some 91
 · rw [if_pos (by simpa using h),if_pos h,aY n s _ hs (c:=93) rfl,Option.bind_some]
   by_cases h2:(bs s).getLast?=some 93
   · have hsz:2≤s.size:=by
      rw [←Da]
      cases hb:bs s with
      | nil=>rw [hb] at h;cases h
      | cons c r=>cases r with
       | nil=>rw [hb] at h h2;simp at h h2;omega
       | cons d r=>simp
     rw [if_pos (by simpa using h2),if_pos ⟨by omega,by omega⟩,Vab n _ (Nat.le_trans (wt _ _ _) hs) hn,xY]
     simp [h2]
   · rw [if_neg (by simpa using h2)];simp [h2]
 · rw [if_neg (by simpa using h),if_neg h]
   unfold Dom.domT
   rw [rcb n hn n s hs (by omega),Option.bind_some]
   have e:(decide ((s.size:Int)≤255))=decide ((bs s).length≤255):=by rw [Da,decide_eq_decide];omega
   rw [e]
   cases (Xb 46 [] (bs s)).all j6<;>simp
theorem gib {w:List Int} (h:okR w=true):w.length≤16:=by
 unfold okR at h
 simp only [Bool.and_eq_true,decide_eq_true_eq] at h
 exact h.1.1.1.2
theorem EP (d:Int):∀ (r cur:List Int),cur.length+r.length+1=((Xb d cur r).map fun w=>w.length+1).sum
 | [],cur=>by simp [Xb]
 | c::r,cur=>by
  simp only [Xb]
  split
  · have:=EP d r []
    simp at this ⊢;omega
  · have:=EP d r (cur++[c])
    simp at this ⊢;omega
theorem Beb {l:List Int} (h:Aeb l=true):l.length≤100:=by
 unfold Aeb at h
 simp only [Bool.and_eq_true,decide_eq_true_eq,List.all_eq_true] at h
 have hs:=EP 46 l []
 obtain ⟨h1,h2⟩:=h
 have key:∀ W:List (List Int),(∀ w∈W,w.length≤16)→(W.map fun w=>w.length+1).sum≤17*W.length:=fun W=>by
  induction W with
  | nil=>intro _;simp
  | cons w W ih=>
   intro hw
   have a:=hw w List.mem_cons_self
   have b:=ih fun x hx=>hw x (List.mem_cons_of_mem _ hx)
   simp only [List.map_cons,List.sum_cons,List.length_cons];omega
 have:=key _ fun w hw=>gib (h1 w hw)
 simp at hs
 omega
theorem Uhb {w:List Int} (h:w.head?=some 91):j6 w=false:=by
 cases w with
 | nil=>cases h
 | cons c r=>
  simp at h;subst h
  have:lch 91=false:=by decide
  simp [j6,this]
theorem CU (d:Int):∀ (r cur:List Int),cur≠[]→∃ w W,Xb d cur r=w::W∧w.head?=cur.head?
 | [],cur,h=>⟨cur,[],rfl,rfl⟩
 | c::r,cur,h=>by
  simp only [Xb]
  split
  · exact ⟨cur,_,rfl,rfl⟩
  · obtain ⟨w,W,h1,h2⟩:=CU d r (cur++[c]) (by simp)
    refine ⟨w,W,h1,h2.trans ?_⟩
    cases cur with
    | nil=>exact absurd rfl h
    | cons x xs=>rfl
theorem fS (l:List Int):Egb l=DK l:=by
 unfold Egb DK Ceb
 by_cases h:l.head?=some 91
 · rw [if_pos h]
   have hsp:(Xb 46 [] l).all j6=false:=by
    cases l with
    | nil=>cases h
    | cons c r=>
     simp at h;subst h
     simp only [Xb]
     rw [if_neg (by decide)]
     obtain ⟨w,W,h1,h2⟩:=CU 46 r ([]++[91]) (by simp)
     rw [h1,List.all_cons,Uhb (by rw [h2];rfl)];rfl
   rw [hsp]
   by_cases h2:l.getLast?=some 93
   · have hl:2≤l.length:=by
      cases l with
      | nil=>cases h
      | cons c r=>cases r with
       | nil=>simp at h h2;omega
       | cons d r=>simp
     cases hp:Aeb (ZQ l) with
     | false=>simp [h2]
     | true=>
      have:=Beb hp
      have hle:l.length≤255:=by
       unfold ZQ at this
       rw [List.length_drop,List.length_take] at this
       omega
      simp [h,h2,hl,hle]
   · simp [h2]
 · rw [if_neg h]
   simp [h,Bool.and_comm]
/-! Small letters. -/
def low (c:Int):Int:=if 65≤c∧c≤90 then c+32 else c
theorem tmb (s:BA):sqL id (⟨s.size,fun q=>bt s q⟩:Sq Int)=bs s:=by
 apply List.ext_getElem?
 intro j
 unfold sqL
 rw [List.getElem?_map]
 by_cases h:j<s.size
 · rw [List.getElem?_range h]
   obtain ⟨c,hc⟩:∃ c,(bs s)[j]?=some c:=⟨_,List.getElem?_eq_getElem (by rw [Da];exact h)⟩
   rw [hc]
   simp [P6 hc]
 · rw [List.getElem?_eq_none (by simp;omega),List.getElem?_eq_none (by rw [Da];omega)];rfl
theorem sib {b:Sq Int} {k:Nat} {v:Int}:sqL id (⟨b.n,fun q=>if q=k∧q<b.n then v else b.at' q⟩:Sq Int)=(sqL id b).set k v:=by
 apply List.ext_getElem?
 intro j
 unfold sqL
 rw [List.getElem?_map,List.getElem?_set]
 by_cases h:j<b.n
 · rw [List.getElem?_range h]
   by_cases hk:k=j
   · subst hk;simp [h]
   · have:¬j=k:=fun e=>hk e.symm
     simp [hk,this,h]
 · rw [List.getElem?_eq_none (by simp;omega)]
   by_cases hk:k=j
   · subst hk;simp [h]
   · simp [hk,h]
theorem NZ (n:Nat) (t:Nat) (ht:t≤1000000):∀ (r P:List Int) (m:Nat) (b:Sq Int),sqL id b=P++r→b.n=t→(∀ c∈P++r,0≤c∧c<256)→r.length<m→
  ∃ b',ud n m t P.length b=some (.out b')∧sqL id b'=P++r.map low∧b'.n=t
 | [],P,m,b,hb,hbn,hr,hm=>by
  obtain ⟨m,rfl⟩:∃ q,m=q+1:=⟨m - 1,by omega⟩
  have hl:=Wr id b
  rw [hb,List.append_nil,hbn] at hl
  refine ⟨b,?_,by simpa using hb,hbn⟩
  have:¬((P.length:Int)<(t:Int)):=by omega
  simp [ud,Nj,this]
 | c::r,P,m,b,hb,hbn,hr,hm=>by
  obtain ⟨m,rfl⟩:∃ q,m=q+1:=⟨m - 1,by omega⟩
  have hl:=Wr id b
  rw [hb,hbn] at hl
  simp at hl
  have hat:b.at' P.length=c:=by
   have h1:=MP (f:=id) (q:=b) (i:=P.length) (by omega)
   rw [hb,List.getElem?_append_right (Nat.le_refl _),Nat.sub_self] at h1
   simpa using h1.symm
  have hc:=hr c (by simp)
  have e1:=wr1 (k:=P.length) (by omega)
  have a1:(P.length:Int)<(t:Int):=by omega
  have a2:(0:Int)≤(P.length:Int):=by omega
  have a3:(P.length:Int)<(b.n:Int):=by omega
  by_cases hlow:65≤c∧c≤90
  · have w1:=wr8 (x:=c+97) (by omega) (by omega)
    have w2:=wr8 (x:=c+97 - 65) (by omega) (by omega)
    obtain ⟨b',h1,h2,h3⟩:=NZ n t ht r (P++[c+32]) m (⟨b.n,fun q=>if q=P.length∧q<b.n then c+97 - 65 else b.at' q⟩:Sq Int)
     (by rw [sib,hb,List.set_append_right _ _ (Nat.le_refl _),Nat.sub_self,show c+97 - 65=c+32 by omega];simp) hbn
     (fun x hx=>by
      simp only [List.append_assoc,List.mem_append,List.mem_cons,List.mem_nil_iff,or_false,false_or,List.cons_append,List.nil_append] at hx
      rcases hx with h | h | h
      · exact hr x (by simp [h])
      · omega
      · exact hr x (by simp [h])) (by simpa using hm)
    refine ⟨b',?_,by rw [h2];simp [low,hlow],h3⟩
    have b1:c≥65:=hlow.1
    simp only [ud,Nj,a1,a2,a3,Int.toNat_natCast,hat,e1,w1,w2,b1,hlow.2]
    simpa using h1
  · obtain ⟨b',h1,h2,h3⟩:=NZ n t ht r (P++[c]) m b (by rw [hb];simp) hbn (fun x hx=>hr x (by simpa using hx)) (by simpa using hm)
    refine ⟨b',?_,by rw [h2];simp [low,hlow],h3⟩
    have h1':ud n m t ((P.length+1:Nat):Int) b=some (.out b'):=by simpa using h1
    by_cases b1:c≥65
    · have b2:¬c≤90:=fun h=>hlow ⟨b1,h⟩
      simp only [ud,Nj,a1,a2,a3,Int.toNat_natCast,hat,e1,b1,b2]
      simpa using h1'
    · simp only [ud,Nj,a1,a2,a3,Int.toNat_natCast,hat,e1,b1]
      simpa using h1'
theorem Yhb {c:Int} (h:0≤c∧c<256):0≤low c∧low c<256:=by unfold low;split<;>omega
theorem ffb (n:Nat) (s:BA) (hs:s.size≤1000000) (hn:10000000≤n):∃ t,Bw n s=some t∧bs t=(bs s).map low:=by
 obtain ⟨b',h1,h2,h3⟩:=NZ n s.size hs (bs s) [] n (⟨s.size,fun q=>bt s q⟩:Sq Int) (tmb s) rfl (fun c hc=>ecb (by simpa using hc)) (by rw [Da];omega)
 refine ⟨MN b'.n b'.at',?_,?_⟩
 · unfold Bw fG
   rw [show (([]:List Int).length:Int)=0 from rfl] at h1
   rw [h1];rfl
 · rw [yY fun i hi=>?_]
   · have:sqL id b'=(List.range b'.n).map b'.at':=rfl
     rw [←this,h2];rfl
   · have:=MP (f:=id) (q:=b') hi
     rw [h2] at this
     have hm:=List.mem_of_getElem? this
     simp only [List.nil_append,List.mem_map] at hm
     obtain ⟨c,hc,e⟩:=hm
     have:=Yhb (ecb hc)
     rw [e] at this
     exact this
open Go
def esc:List Int→List Int
 | []=>[]
 | c::r=>if c=34∨c=92 then 92::c::esc r else c::esc r
def okc (c:Int):Bool:=decide (32≤c)&&decide (c≤126)
def qd:List Int→Option (List Int×List Int)
 | []=>none
 | c::r=>if c=34 then some ([],r) else if c=92 then (match r with
   | []=>none
   | d::r'=>if okc d=true then (qd r').map fun x=>(d::x.1,x.2) else none)
  else if okc c=true then (qd r).map fun x=>(c::x.1,x.2) else none
theorem tk (c:Int) (r:List Int):qd (c::r)=if c=34 then some ([],r) else if c=92 then (match r with
   | []=>none
   | d::r'=>if okc d=true then (qd r').map fun x=>(d::x.1,x.2) else none)
  else if okc c=true then (qd r).map fun x=>(c::x.1,x.2) else none:=by
 conv=>lhs;unfold qd
theorem xcb:∀ l:List Int,(esc l).length≤2*l.length
 | []=>by simp [esc]
 | c::r=>by
  have:=xcb r
  simp only [esc]
  split<;>simp<;>omega
theorem PB (n:Nat) (b:Bool):Xc n b=some (if b=true then .ok () else .error 8):=by
 unfold Xc QK
 cases b<;>rfl
theorem B1 (n:Nat) (c:Int) (r1:Sq Int) (h:r1.n≤4000000):∃ r2,pb n c r1=some (r2,())∧sqL id r2=sqL id r1++[c]∧r2.n=r1.n+1:=by
 refine ⟨_,?_,CN id r1 c (Ba (.int .u8)),rfl⟩
 unfold pb Al Gh Bl
 rw [Option.bind_some,if_pos (bkb h)]
theorem Wbb (n:Nat) (c:Int):∃ r2,Sc n c=some (r2,())∧sqL id r2=[c]∧r2.n=1:=by
 refine ⟨_,rfl,?_,rfl⟩
 show [_]=[c]
 rfl
theorem Tbb (n:Nat) (r1:Sq Int) (h:r1.n≤4000000) (hr:∀ c∈sqL id r1,0≤c∧c<256):∃ t,Uh n r1=some (t,())∧bs t=sqL id r1:=by
 refine ⟨MN r1.n r1.at',?_,?_⟩
 · unfold Uh sq
   rw [if_pos ⟨rfl,by omega⟩]
 · exact yY (f:=r1.at') fun i hi=>hr _ (List.mem_of_getElem? (MP (f:=id) hi))
theorem map_none {α β:Type} {f:α→β} {x:Option α} (h:x.map f=none):x=none:=by cases x with
 | none=>rfl
 | some _=>cases h
theorem eM (n:Nat) (s:BA) (hs:s.size≤1000000):∀ (N:Nat) (r:List Int) (k m:Nat) (r1:Sq Int),r.length≤N→(bs s).drop k=r→k≤s.size→r1.n≤k→(∀ c∈sqL id r1,0≤c∧c<256)→r.length<m→
  match qd r with
  | none=>Fa n m s k r1=some (.pan 8)
  | some (mean,rest)=>∃ t1 t2,Fa n m s k r1=some (.ret (t1,t2))∧bs t1=sqL id r1++mean∧bs t2=rest
 | N,[],k,m,r1,hN,h,hk,hr1,hb,hm=>by
  obtain ⟨m,rfl⟩:∃ q,m=q+1:=⟨m - 1,by omega⟩
  have:=yn h
  simp only [qd]
  simp [Fa,ld,this,PB,onX]
 | 0,c::r,k,m,r1,hN,_,_,_,_,_=>by simp at hN
 | N+1,c::r,k,m,r1,hN,h,hk,hr1,hb,hm=>by
  obtain ⟨m,rfl⟩:∃ q,m=q+1:=⟨m - 1,by omega⟩
  obtain ⟨h1,h2,h3,h4,h5⟩:=di h
  have e1:=wr1 (k:=k) (by omega)
  have a1:(0:Int)≤(k:Int):=by omega
  have a2:(0:Int)≤((k+1:Nat):Int):=by omega
  have a3:((k+1:Nat):Int)≤(s.size:Int):=by omega
  have hm':(Xc n true)=some (.ok ()):=PB n true
  have hm2:(Xc n false)=some (.error 8):=PB n false
  have hd1:decide ((k:Int)<(s.size:Int))=true:=decide_eq_true h1
  by_cases g1:c=34
  · subst g1
    obtain ⟨t,ht,htb⟩:=Tbb n r1 (by omega) hb
    have hq:qd (34::r)=some ([],r):=by rw [tk];rfl
    rw [hq]
    refine ⟨t,s.extract (k+1) s.size,?_,by rw [htb,List.append_nil],by rw [Pm,show (bs s).take s.size=bs s by rw [←Da,List.take_length]];exact h3⟩
    simp only [Fa,ld,hd1,decide_true,decide_false,hm',h1,h2,a1,e1,a2,a3,ht,Option.bind_some,onX,Int.toNat_natCast]
    simp
  · have g1':(c==34)=false:=by simpa using g1
    by_cases g2:c=92
    · subst g2
      cases r with
      | nil=>
       have hq:qd [92]=none:=by rw [tk];rfl
       rw [hq]
       have hn:=yn h3
       have hd2:decide (((k+1:Nat):Int)<(s.size:Int))=false:=decide_eq_false hn
       simp only [Fa,ld,hd1,decide_true,decide_false,hm',h1,h2,a1,e1,hd2,hm2,Option.bind_some,onX]
       simp
      | cons d r=>
       obtain ⟨i1,i2,i3,i4,i5⟩:=di h3
       have e2:=wr1 (k:=k+1) (by omega)
       have hd2:decide (((k+1:Nat):Int)<(s.size:Int))=true:=decide_eq_true i1
       have hq:qd (92::d::r)=if okc d=true then (qd r).map fun x=>(d::x.1,x.2) else none:=by rw [tk];rfl
       rw [hq]
       by_cases g3:okc d=true
       · have hdd:32≤d∧d≤126:=by simpa [okc] using g3
         obtain ⟨r2,w1,w2,w3⟩:=B1 n d r1 (by omega)
         have ih:=eM n s hs N r (k+2) m r2 (by simp at hN;omega) (by rw [←i3]) (by omega) (by omega) (fun x hx=>by
          rw [w2] at hx
          rcases List.mem_append.1 hx with hx | hx
          · exact hb x hx
          · simp at hx;subst hx;omega) (by simp at hm;omega)
         have b1:decide (d≥32)=true:=decide_eq_true hdd.1
         have b2:decide (d≤126)=true:=decide_eq_true hdd.2
         have hstep:Fa n (m+1) s k r1=Fa n m s ((k+1+1:Nat):Int) r2:=by
          simp only [Fa,ld,hd1,decide_true,decide_false,hm',h1,h2,a1,e1,hd2,i1,i2,a2,b1,b2,w1,e2,Option.bind_some,onX]
          simp
         rw [hstep,if_pos g3]
         cases hqr:qd r with
         | none=>rw [hqr] at ih;exact ih
         | some x=>
          rw [hqr] at ih
          obtain ⟨t1,t2,j1,j2,j3⟩:=ih
          exact ⟨t1,t2,j1,by rw [j2,w2];simp,j3⟩
       · rw [if_neg g3]
         by_cases b1:d≥32
         · have b2:¬d≤126:=fun hb=>g3 (by simp [okc];omega)
           have b1':decide (d≥32)=true:=decide_eq_true b1
           have b2':decide (d≤126)=false:=decide_eq_false b2
           simp only [Fa,ld,hd1,decide_true,decide_false,hm',h1,h2,a1,e1,hd2,i1,i2,a2,b1',b2',hm2,Option.bind_some,onX]
           simp
         · have b1':decide (d≥32)=false:=decide_eq_false b1
           simp only [Fa,ld,hd1,decide_true,decide_false,hm',h1,h2,a1,e1,hd2,i1,i2,a2,b1',hm2,Option.bind_some,onX]
           simp
    · have g2':(c==92)=false:=by simpa using g2
      have hq:qd (c::r)=if okc c=true then (qd r).map fun x=>(c::x.1,x.2) else none:=by rw [tk,if_neg g1,if_neg g2]
      rw [hq]
      by_cases g3:okc c=true
      · have hdd:32≤c∧c≤126:=by simpa [okc] using g3
        obtain ⟨r2,w1,w2,w3⟩:=B1 n c r1 (by omega)
        have ih:=eM n s hs N r (k+1) m r2 (by simp at hN;omega) h3 (by omega) (by omega) (fun x hx=>by
         rw [w2] at hx
         rcases List.mem_append.1 hx with hx | hx
         · exact hb x hx
         · simp at hx;subst hx;omega) (by simp at hm;omega)
        have b1:decide (c≥32)=true:=decide_eq_true hdd.1
        have b2:decide (c≤126)=true:=decide_eq_true hdd.2
        have hstep:Fa n (m+1) s k r1=Fa n m s ((k+1:Nat):Int) r2:=by
         simp only [Fa,ld,hd1,decide_true,decide_false,hm',h1,h2,a1,e1,g1',g2',b1,b2,w1,Option.bind_some,onX]
         simp
        rw [hstep,if_pos g3]
        cases hqr:qd r with
        | none=>rw [hqr] at ih;exact ih
        | some x=>
         rw [hqr] at ih
         obtain ⟨t1,t2,j1,j2,j3⟩:=ih
         exact ⟨t1,t2,j1,by rw [j2,w2];simp,j3⟩
      · rw [if_neg g3]
        by_cases b1:c≥32
        · have b2:¬c≤126:=fun hb=>g3 (by simp [okc];omega)
          have b1':decide (c≥32)=true:=decide_eq_true b1
          have b2':decide (c≤126)=false:=decide_eq_false b2
          simp only [Fa,ld,hd1,decide_true,decide_false,hm',h1,h2,a1,e1,g1',g2',b1',b2',hm2,Option.bind_some,onX]
          simp
        · have b1':decide (c≥32)=false:=decide_eq_false b1
          simp only [Fa,ld,hd1,decide_true,decide_false,hm',h1,h2,a1,e1,g1',g2',b1',hm2,Option.bind_some,onX]
          simp
open Go
theorem qdb (n:Nat) (s:BA) (hs:s.size≤1000000) (hn:10000000≤n):match qd ((bs s).drop 1) with
  | none=>Hf n s=some (.error 8)
  | some (mean,rest)=>∃ t1 t2,Hf n s=some (.ok (t1,t2,()))∧bs t1=mean∧bs t2=rest:=by
 have hm':(Xc n true)=some (.ok ()):=PB n true
 have hm2:(Xc n false)=some (.error 8):=PB n false
 have w2:IntKind.wrap .i64 ((1:Int)+(1:Int))=((2:Nat):Int):=wr1 (k:=1) (by decide)
 have w3:IntKind.wrap .i64 (((2:Nat):Int)+(1:Int))=((3:Nat):Int):=wr1 (k:=2) (by decide)
 have a0:(0:Int)≤1:=by decide
 have a2:(0:Int)≤((2:Nat):Int):=by decide
 cases h:(bs s).drop 1 with
 | nil=>
  have hk:¬((1:Int)<(s.size:Int)):=yn (k:=1) h
  rw [show qd []=none from rfl]
  unfold Hf Fg
  simp only [hk,decide_false,hm2,Option.bind_some,onX]
 | cons c r=>
  obtain ⟨h1',h2',h3,h4,h5⟩:=di h
  have h1:(1:Int)<(s.size:Int):=h1'
  have h2:bt s (1:Int)=c:=h2'
  have a3:((2:Nat):Int)≤(s.size:Int):=by omega
  by_cases g1:c=34
  · subst g1
    rw [show qd (34::r)=some ([],r) by rw [tk];rfl]
    refine ⟨_,s.extract 2 s.size,?_,(rfl:bs (⟨#[]⟩:BA)=[]),by rw [Pm,show (bs s).take s.size=bs s by rw [←Da,List.take_length]];exact h3⟩
    unfold Hf Fg an rq
    simp only [h1,decide_true,decide_false,hm',h2,a0,w2,a2,a3,Option.bind_some,onX,Int.toNat_natCast]
    rfl
  · have g1':(c==34)=false:=by simpa using g1
    by_cases g2:c=92
    · subst g2
      cases r with
      | nil=>
       have hn':¬(((2:Nat):Int)<(s.size:Int)):=yn (k:=2) h3
       rw [show qd [92]=none by rw [tk];rfl]
       unfold Hf Fg
       simp only [h1,hn',decide_true,decide_false,hm',hm2,h2,a0,w2,Option.bind_some,onX]
       rfl
      | cons d r=>
       obtain ⟨i1',i2',i3,i4,i5⟩:=di h3
       have i1:((2:Nat):Int)<(s.size:Int):=i1'
       have i2:bt s ((2:Nat):Int)=d:=i2'
       have hq:qd (92::d::r)=if okc d=true then (qd r).map fun x=>(d::x.1,x.2) else none:=by rw [tk];rfl
       rw [hq]
       by_cases g3:okc d=true
       · have hdd:32≤d∧d≤126:=by simpa [okc] using g3
         obtain ⟨r2,x1,x2,x3⟩:=Wbb n d
         have ih:=eM n s hs r.length r 3 n r2 (Nat.le_refl _) i3 (by omega) (by omega) (fun x hx=>by rw [x2] at hx;simp at hx;subst hx;omega) (by
          have:=congrArg List.length i3
          rw [List.length_drop,Da] at this;omega)
         have b1:d≥32:=hdd.1
         have b2:d≤126:=hdd.2
         have hstep:Hf n s=(Fa n n s ((3:Nat):Int) r2).bind fun x=>onL x (fun _=>none) (fun a=>some (.ok (a.1,a.2,()))) (fun p=>some (.error p)):=by
          unfold Hf Fg
          simp only [h1,i1,i2,b1,b2,decide_true,decide_false,hm',h2,a0,w2,a2,x1,w3,Option.bind_some,onX]
          rfl
         rw [hstep,if_pos g3]
         cases hqr:qd r with
         | none=>rw [hqr] at ih;rw [ih];rfl
         | some x=>
          rw [hqr] at ih
          obtain ⟨t1,t2,j1,j2,j3⟩:=ih
          exact ⟨t1,t2,by rw [j1];rfl,by rw [j2,x2];rfl,j3⟩
       · rw [if_neg g3]
         unfold Hf Fg
         by_cases b1:d≥32
         · have b2:¬d≤126:=fun hb=>g3 (by simp [okc];omega)
           simp only [h1,i1,i2,b1,b2,decide_true,decide_false,hm',hm2,h2,a0,w2,a2,Option.bind_some,onX]
           rfl
         · simp only [h1,i1,i2,b1,decide_true,decide_false,hm',hm2,h2,a0,w2,a2,Option.bind_some,onX]
           rfl
    · have g2':(c==92)=false:=by simpa using g2
      have hq:qd (c::r)=if okc c=true then (qd r).map fun x=>(c::x.1,x.2) else none:=by rw [tk,if_neg g1,if_neg g2]
      rw [hq]
      by_cases g3:okc c=true
      · have hdd:32≤c∧c≤126:=by simpa [okc] using g3
        obtain ⟨r2,x1,x2,x3⟩:=Wbb n c
        have ih:=eM n s hs r.length r 2 n r2 (Nat.le_refl _) h3 (by omega) (by omega) (fun x hx=>by rw [x2] at hx;simp at hx;subst hx;omega) (by
         have:=congrArg List.length h3
         rw [List.length_drop,Da] at this;omega)
        have b1:c≥32:=hdd.1
        have b2:c≤126:=hdd.2
        have hstep:Hf n s=(Fa n n s ((2:Nat):Int) r2).bind fun x=>onL x (fun _=>none) (fun a=>some (.ok (a.1,a.2,()))) (fun p=>some (.error p)):=by
         unfold Hf Fg
         simp only [h1,b1,b2,decide_true,decide_false,hm',h2,g1',g2',a0,w2,x1,Option.bind_some,onX]
         rfl
        rw [hstep,if_pos g3]
        cases hqr:qd r with
        | none=>rw [hqr] at ih;rw [ih];rfl
        | some x=>
         rw [hqr] at ih
         obtain ⟨t1,t2,j1,j2,j3⟩:=ih
         exact ⟨t1,t2,by rw [j1];rfl,by rw [j2,x2];rfl,j3⟩
      · rw [if_neg g3]
        unfold Hf Fg
        by_cases b1:c≥32
        · have b2:¬c≤126:=fun hb=>g3 (by simp [okc];omega)
          simp only [h1,b1,b2,decide_true,decide_false,hm',hm2,h2,g1',g2',a0,Option.bind_some,onX]
          rfl
        · simp only [h1,b1,decide_true,decide_false,hm',hm2,h2,g1',g2',a0,Option.bind_some,onX]
          rfl
theorem qN {b b':Sq Int} {c:Int} (h:sqL id b'=sqL id b++[c]) (hb:∀ c∈sqL id b,0≤c∧c<256) (hc:0≤c∧c<256):∀ c∈sqL id b',0≤c∧c<256:=fun x hx=>by
 rw [h] at hx
 rcases List.mem_append.1 hx with hx | hx
 · exact hb x hx
 · simp at hx;subst hx;exact hc
theorem LY (n:Nat) (s:BA) (hs:s.size≤1000000):∀ (N:Nat) (r:List Int) (k m:Nat) (b:Sq Int),r.length≤N→(bs s).drop k=r→k≤s.size→b.n≤k→(∀ c∈sqL id b,0≤c∧c<256)→r.length<m→
  match qd r with
  | none=>ob n m s k b=some (.out ())
  | some (mean,rest)=>∃ t,ob n m s k b=some (.ret (t,((s.size - rest.length:Nat):Int),true))∧bs t=sqL id b++mean
 | N,[],k,m,b,hN,h,hk,hr1,hb,hm=>by
  obtain ⟨m,rfl⟩:∃ q,m=q+1:=⟨m - 1,by omega⟩
  have:=yn h
  rw [show qd []=none from rfl]
  simp [ob,je,this]
 | 0,c::r,k,m,b,hN,_,_,_,_,_=>by simp at hN
 | N+1,c::r,k,m,b,hN,h,hk,hr1,hb,hm=>by
  obtain ⟨m,rfl⟩:∃ q,m=q+1:=⟨m - 1,by omega⟩
  obtain ⟨h1,h2,h3,h4,h5⟩:=di h
  have e1:=wr1 (k:=k) (by omega)
  have a1:(0:Int)≤(k:Int):=by omega
  have a2:(0:Int)≤((k+1:Nat):Int):=by omega
  have f1:=bkb (n:=b.n) (by omega)
  by_cases g1:c=34
  · subst g1
    rw [show qd (34::r)=some ([],r) by rw [tk];rfl]
    have hl:s.size - r.length=k+1:=by
     have:=congrArg List.length h3
     rw [List.length_drop,Da] at this;omega
    refine ⟨MN b.n b.at',?_,?_⟩
    · rw [hl]
      simp only [ob,je,h1,h2,a1,e1,decide_true]
      rfl
    · rw [List.append_nil]
      exact yY (f:=b.at') fun i hi=>hb _ (List.mem_of_getElem? (MP (f:=id) hi))
  · have g1':(c==34)=false:=by simpa using g1
    by_cases g2:c=92
    · subst g2
      cases r with
      | nil=>
       have hn':=yn h3
       have hn2:((k+1:Nat):Int)≥(s.size:Int):=by omega
       rw [show qd [92]=none by rw [tk];rfl]
       simp only [ob,je,h1,h2,a1,e1,hn2,decide_true,decide_false]
       rfl
      | cons d r=>
       obtain ⟨i1,i2,i3,i4,i5⟩:=di h3
       have e2:=wr1 (k:=k+1) (by omega)
       have hn2:¬(((k+1:Nat):Int)≥(s.size:Int)):=by omega
       have hq:qd (92::d::r)=if okc d=true then (qd r).map fun x=>(d::x.1,x.2) else none:=by rw [tk];rfl
       rw [hq]
       by_cases g3:okc d=true
       · have hdd:32≤d∧d≤126:=by simpa [okc] using g3
         have hsn:=CN id b d (Ba (.int .u8))
         have ih:=LY n s hs N r (k+2) m _ (by simp at hN;omega) (by rw [←i3]) (by omega) (by show b.n+1≤k+2;omega) (qN hsn hb ⟨i4,i5⟩) (by simp at hm;omega)
         have b1:¬d<32:=by omega
         have b2:¬d>126:=by omega
         have hstep:ob n (m+1) s k b=ob n m s ((k+1+1:Nat):Int) (⟨b.n+1,fun i=>if i<b.n then b.at' i else (fun i=>List.getD [d] i (Ba (.int .u8))) (i - b.n)⟩:Sq Int):=by
          simp only [ob,je,h1,h2,a1,e1,hn2,i1,i2,a2,b1,b2,f1,e2,decide_true,decide_false]
          rfl
         rw [hstep,if_pos g3]
         cases hqr:qd r with
         | none=>rw [hqr] at ih;exact ih
         | some x=>
          rw [hqr] at ih
          obtain ⟨t1,j1,j2⟩:=ih
          exact ⟨t1,j1,by rw [j2];refine (congrArg (· ++x.1) hsn).trans ?_;simp⟩
       · rw [if_neg g3]
         by_cases b1:d<32
         · simp only [ob,je,h1,h2,a1,e1,hn2,i1,i2,a2,b1,decide_true,decide_false]
           rfl
         · have b2:d>126:=by simp [okc] at g3;omega
           simp only [ob,je,h1,h2,a1,e1,hn2,i1,i2,a2,b1,b2,decide_true,decide_false]
           rfl
    · have g2':(c==92)=false:=by simpa using g2
      have hq:qd (c::r)=if okc c=true then (qd r).map fun x=>(c::x.1,x.2) else none:=by rw [tk,if_neg g1,if_neg g2]
      rw [hq]
      by_cases g3:okc c=true
      · have hdd:32≤c∧c≤126:=by simpa [okc] using g3
        have hsn:=CN id b c (Ba (.int .u8))
        have ih:=LY n s hs N r (k+1) m _ (by simp at hN;omega) h3 (by omega) (by show b.n+1≤k+1;omega) (qN hsn hb ⟨h4,h5⟩) (by simp at hm;omega)
        have b1:¬c<32:=by omega
        have b2:¬c>126:=by omega
        have hstep:ob n (m+1) s k b=ob n m s ((k+1:Nat):Int) (⟨b.n+1,fun i=>if i<b.n then b.at' i else (fun i=>List.getD [c] i (Ba (.int .u8))) (i - b.n)⟩:Sq Int):=by
         simp only [ob,je,h1,h2,a1,e1,g1',g2',b1,b2,f1,decide_true,decide_false]
         rfl
        rw [hstep,if_pos g3]
        cases hqr:qd r with
        | none=>rw [hqr] at ih;exact ih
        | some x=>
         rw [hqr] at ih
         obtain ⟨t1,j1,j2⟩:=ih
         exact ⟨t1,j1,by rw [j2];refine (congrArg (· ++x.1) hsn).trans ?_;simp⟩
      · rw [if_neg g3]
        by_cases b1:c<32
        · simp only [ob,je,h1,h2,a1,e1,g1',g2',b1,decide_true,decide_false]
          rfl
        · have b2:c>126:=by simp [okc] at g3;omega
          simp only [ob,je,h1,h2,a1,e1,g1',g2',b1,b2,decide_true,decide_false]
          rfl
theorem web (n:Nat) (s:BA) (hs:s.size≤1000000) (h1:1≤s.size) (hn:10000000≤n):match qd ((bs s).drop 1) with
  | none=>gC n s=some ((⟨#[]⟩:BA),(0:Int),false,())
  | some (mean,rest)=>∃ t,gC n s=some (t,((s.size - rest.length:Nat):Int),true,())∧bs t=mean:=by
 have h:=LY n s hs ((bs s).drop 1).length _ 1 n (⟨0,fun _=>Ba (.int .u8)⟩:Sq Int) (Nat.le_refl _) rfl h1 (Nat.zero_le _) (fun c hc=>by simp [sqL] at hc) (by rw [List.length_drop,Da];omega)
 unfold gC xG
 rw [show ((1:Nat):Int)=1 from rfl] at h
 cases hq:qd ((bs s).drop 1) with
 | none=>rw [hq] at h;simp only at h ⊢;rw [h];rfl
 | some x=>
  rw [hq] at h
  obtain ⟨t,j1,j2⟩:=h
  exact ⟨t,by rw [j1];rfl,by rw [j2];rfl⟩
open Go
theorem Lhb {a b:BA} (h:a.size+b.size≤9000000000):zj a b=true:=by
 unfold zj
 rw [Nat.ble_eq];omega
theorem yL (c:Int) (r:List Int):esc (c::r)=(if c=34∨c=92 then [92,c] else [c])++esc r:=by
 simp only [esc];split<;>rfl
theorem Khb {s:BA} {k:Nat} {c:Int} {r:List Int} (h:(bs s).drop k=c::r):bs (s.extract k (k+1))=[c]:=by
 rw [W8 h (Nat.le_refl _),IY];rfl
theorem yU (n:Nat) (s:BA) (hs:s.size≤1000000):∀ (r:List Int) (k m:Nat) (q:BA),(bs s).drop k=r→k≤s.size→q.size≤2*k+1→r.length<m→
  ∃ q',ke n m s q k=some (.out q')∧bs q'=bs q++esc r∧q'.size≤2*s.size+1
 | [],k,m,q,h,hk,hq,hm=>by
  obtain ⟨m,rfl⟩:∃ q,m=q+1:=⟨m - 1,by omega⟩
  have:=yn h
  exact ⟨q,by simp [ke,zk,this],by simp [esc],by omega⟩
 | c::r,k,m,q,h,hk,hq,hm=>by
  obtain ⟨m,rfl⟩:∃ q,m=q+1:=⟨m - 1,by omega⟩
  obtain ⟨h1,h2,h3,h4,h5⟩:=di h
  have e1:=wr1 (k:=k) (by omega)
  have a1:(0:Int)≤(k:Int):=by omega
  have a2:(0:Int)≤((k+1:Nat):Int):=by omega
  have a3:((k+1:Nat):Int)≤(s.size:Int):=by omega
  have a4:(k:Int)≤((k+1:Nat):Int):=by omega
  have hx:=Khb h
  have hxs:(s.extract k (k+1)).size=1:=by rw [←Da,hx];rfl
  have h92:bs (⟨#[92]⟩:BA)=[92]:=rfl
  have h92s:(⟨#[92]⟩:BA).size=1:=rfl
  by_cases g:c=34∨c=92
  · have hsz:((q++(⟨#[92]⟩:BA))++s.extract k (k+1)).size=q.size+2:=by
     rw [←Da,bE,bE,List.length_append,List.length_append,Da,hx,h92];rfl
    have hsz1:(q++(⟨#[92]⟩:BA)).size=q.size+1:=by rw [←Da,bE,List.length_append,Da,h92];rfl
    have f1:zj q (⟨#[92]⟩:BA)=true:=Lhb (by rw [h92s];omega)
    have f2:zj (q++(⟨#[92]⟩:BA)) (s.extract k (k+1))=true:=Lhb (by omega)
    obtain ⟨q',j1,j2,j3⟩:=yU n s hs r (k+1) m ((q++(⟨#[92]⟩:BA))++s.extract k (k+1)) h3 (by omega) (by omega) (by simp at hm;omega)
    refine ⟨q',?_,by rw [j2,bE,bE,hx,h92,yL,if_pos g];simp,j3⟩
    rw [←j1]
    rcases g with rfl | rfl
    · simp only [ke,zk,h1,h2,a1,e1,a2,a3,a4,f1,f2,Int.toNat_natCast,decide_true]
      rfl
    · simp only [ke,zk,h1,h2,a1,e1,a2,a3,a4,f1,f2,Int.toNat_natCast,decide_true]
      rfl
  · have hsz:(q++s.extract k (k+1)).size=q.size+1:=by rw [←Da,bE,List.length_append,Da,hx];rfl
    have f2:zj q (s.extract k (k+1))=true:=Lhb (by omega)
    obtain ⟨q',j1,j2,j3⟩:=yU n s hs r (k+1) m (q++s.extract k (k+1)) h3 (by omega) (by omega) (by simp at hm;omega)
    refine ⟨q',?_,by rw [j2,bE,hx,yL,if_neg g];simp,j3⟩
    have g1:(c==34)=false:=by simp;exact fun e=>g (.inl e)
    have g2:(c==92)=false:=by simp;exact fun e=>g (.inr e)
    rw [←j1]
    simp only [ke,zk,h1,h2,g1,g2,a1,e1,a2,a3,a4,f2,Int.toNat_natCast,decide_true]
    rfl
def qt (l:List Int):List Int:=34::esc l++[34]
theorem Adb (n:Nat) (s:BA) (hs:s.size≤1000000) (hn:10000000≤n):∃ t,zG n s=some t∧bs t=qt (bs s):=by
 obtain ⟨q',j1,j2,j3⟩:=yU n s hs (bs s) 0 n (⟨#[34]⟩:BA) (by simp) (by omega) (by decide) (by rw [Da];omega)
 refine ⟨q'++(⟨#[34]⟩:BA),?_,by rw [bE,j2];rfl⟩
 unfold zG AG
 rw [show ((0:Nat):Int)=0 from rfl] at j1
 rw [j1,Option.bind_some]
 simp only [onL]
 rw [if_pos (Lhb (by rw [show (⟨#[34]⟩:BA).size=1 from rfl];omega))]
theorem gZ (n:Nat) (s:BA) (hs:s.size≤1000000):∀ (r:List Int) (k m:Nat) (q:Sq Int),(bs s).drop k=r→k≤s.size→q.n≤2*k+1→(∀ c∈sqL id q,0≤c∧c<256)→r.length<m→
  ∃ q',Yd n m s s.size k q=some (.out q')∧sqL id q'=sqL id q++esc r∧q'.n≤2*s.size+1∧(∀ c∈sqL id q',0≤c∧c<256)
 | [],k,m,q,h,hk,hq,hb,hm=>by
  obtain ⟨m,rfl⟩:∃ q,m=q+1:=⟨m - 1,by omega⟩
  have:=yn h
  exact ⟨q,by simp [Yd,Mj,this],by simp [esc],by omega,hb⟩
 | c::r,k,m,q,h,hk,hq,hb,hm=>by
  obtain ⟨m,rfl⟩:∃ q,m=q+1:=⟨m - 1,by omega⟩
  obtain ⟨h1,h2,h3,h4,h5⟩:=di h
  have e1:=wr1 (k:=k) (by omega)
  have a1:(0:Int)≤(k:Int):=by omega
  by_cases g:c=34∨c=92
  · obtain ⟨q1,w1,w2,w3⟩:=B1 n 92 q (by omega)
    obtain ⟨q2,x1,x2,x3⟩:=B1 n c q1 (by omega)
    have hb1:=qN w2 hb ⟨by decide,by decide⟩
    have hb2:=qN x2 hb1 ⟨h4,h5⟩
    obtain ⟨q',j1,j2,j3,j4⟩:=gZ n s hs r (k+1) m q2 h3 (by omega) (by omega) hb2 (by simp at hm;omega)
    refine ⟨q',?_,by rw [j2,x2,w2,yL,if_pos g];simp,j3,j4⟩
    rw [←j1]
    rcases g with rfl | rfl
    · simp only [Yd,Mj,h1,h2,a1,e1,w1,x1,decide_true,Option.bind_some]
      rfl
    · simp only [Yd,Mj,h1,h2,a1,e1,w1,x1,decide_true,Option.bind_some]
      rfl
  · obtain ⟨q2,x1,x2,x3⟩:=B1 n c q (by omega)
    have hb2:=qN x2 hb ⟨h4,h5⟩
    obtain ⟨q',j1,j2,j3,j4⟩:=gZ n s hs r (k+1) m q2 h3 (by omega) (by omega) hb2 (by simp at hm;omega)
    refine ⟨q',?_,by rw [j2,x2,yL,if_neg g];simp,j3,j4⟩
    have g1:(c==34)=false:=by simp;exact fun e=>g (.inl e)
    have g2:(c==92)=false:=by simp;exact fun e=>g (.inr e)
    rw [←j1]
    simp only [Yd,Mj,h1,h2,g1,g2,a1,e1,x1,decide_true,Option.bind_some]
    rfl
def qs (l:List Int):List Int:=if pl 0 l=true then l else qt l
theorem Peb (n:Nat) (s:BA) (hs:s.size≤1000000) (hn:10000000≤n):∃ t,dG n s=some t∧bs t=qs (bs s):=by
 unfold dG eG qs
 rw [O9 n s (by omega) (by omega),Option.bind_some]
 by_cases hp:pl 0 (bs s)=true
 · rw [if_pos hp,if_pos hp]
   exact ⟨s,rfl,rfl⟩
 · rw [if_neg hp,if_neg hp]
   obtain ⟨q0,w1,w2,w3⟩:=Wbb n 34
   have hb0:∀ c∈sqL id q0,0≤c∧c<256:=fun c hc=>by rw [w2] at hc;simp at hc;subst hc;omega
   obtain ⟨q',j1,j2,j3,j4⟩:=gZ n s hs (bs s) 0 n q0 (by simp) (by omega) (by omega) hb0 (by rw [Da];omega)
   obtain ⟨t,s1,s2⟩:=Tbb n q' (by omega) j4
   have hts:t.size≤2*s.size+1:=by
    have:=congrArg List.length s2
    rw [Da,Wr] at this;omega
   refine ⟨t++(⟨#[34]⟩:BA),?_,by rw [bE,s2,j2,w2];rfl⟩
   rw [show ((0:Nat):Int)=0 from rfl] at j1
   rw [w1,Option.bind_some,j1,Option.bind_some]
   simp only [onL]
   rw [s1,Option.bind_some,if_pos (Lhb (by show t.size+(⟨#[34]⟩:BA).size≤9000000000;rw [show (⟨#[34]⟩:BA).size=1 from rfl];omega))]
theorem kkb (l:List Int):(qt l).length≤2*l.length+2:=by
 have:=xcb l
 simp [qt];omega
theorem jkb (l:List Int):(qs l).length≤2*l.length+2:=by
 unfold qs
 split
 · omega
 · exact kkb l
theorem H4:∀ (N:Nat) (r:List Int),r.length≤N→∀ x,qd r=some x→x.1.length+x.2.length+1≤r.length
 | _,[],_,x,h=>by cases h
 | 0,c::r,h,_,_=>by simp at h
 | N+1,c::r,hN,x,h=>by
  rw [tk] at h
  split at h
  · cases h;simp
  · split at h
    · cases r with
      | nil=>cases h
      | cons d r=>
       simp only at h
       split at h
       · obtain ⟨y,hy,rfl⟩:=Option.map_eq_some_iff.1 h
         have:=H4 N r (by simp at hN;omega) y hy
         simp;omega
       · cases h
    · split at h
      · obtain ⟨y,hy,rfl⟩:=Option.map_eq_some_iff.1 h
        have:=H4 N r (by simp at hN;omega) y hy
        simp;omega
      · cases h
def loc (l:List Int):Option (List Int×List Int):=if l.head?=some 34 then (qd (l.drop 1)).map fun x=>(qs x.1,x.2)
 else if idx 64 l= -1 then none else if pl 0 (l.take (idx 64 l).toNat)=true then some (l.take (idx 64 l).toNat,l.drop (idx 64 l).toNat) else none
theorem Eeb (n:Nat) (s:BA) (hs:s.size≤1000000) (hn:10000000≤n):match loc (bs s) with
  | none=>xn n s=some (.error 8)
  | some (a,b)=>∃ t1 t2,xn n s=some (.ok (t1,t2,()))∧bs t1=a∧bs t2=b:=by
 have hm':(Xc n true)=some (.ok ()):=PB n true
 have hm2:(Xc n false)=some (.error 8):=PB n false
 unfold loc
 by_cases h:(bs s).head?=some 34
 · rw [if_pos h]
   have hq:=qdb n s hs hn
   have hP:Ee n s (⟨#[34]⟩:BA)=some true:=by rw [Xs n s _ (c:=34) rfl,decide_eq_true h]
   cases hx:qd ((bs s).drop 1) with
   | none=>
    rw [hx] at hq
    simp only at hq
    simp only [Option.map_none]
    unfold xn Om
    rw [hP,Option.bind_some,if_pos rfl,hq];rfl
   | some x=>
    rw [hx] at hq
    obtain ⟨t1,t2,j1,j2,j3⟩:=hq
    have hl:=H4 _ _ (Nat.le_refl _) x hx
    rw [List.length_drop,Da,←j2,Da] at hl
    obtain ⟨t3,k1,k2⟩:=Peb n t1 (by omega) hn
    simp only [Option.map_some]
    refine ⟨t3,t2,?_,by rw [k2,j2],j3⟩
    unfold xn Om
    rw [hP,Option.bind_some,if_pos rfl,j1,Option.bind_some]
    simp only [onX]
    rw [k1];rfl
 · rw [if_neg h]
   have hP:Ee n s (⟨#[34]⟩:BA)=some false:=by rw [Xs n s _ (c:=34) rfl,decide_eq_false h]
   have hI:=pQ n s (c:=64) (by decide) (by decide)
   have hge:=(Fu (c:=64) (bs s)).2
   have hlt:=G3 64 (bs s)
   by_cases hx:idx 64 (bs s)= -1
   · rw [if_pos hx]
     simp only
     have b1:¬((-1:Int)≥0):=by decide
     unfold xn Om
     rw [hP,Option.bind_some,if_neg (by decide),hI,hx]
     simp only [b1,hm2,decide_false,Option.bind_some,onX]
     rfl
   · rw [if_neg hx]
     obtain ⟨k,hk⟩:∃ k:Nat,idx 64 (bs s)=(k:Int):=⟨(idx 64 (bs s)).toNat,by omega⟩
     have hks:k<s.size:=by have:=hlt.1;rw [Da] at this;omega
     rw [hk,Int.toNat_natCast]
     have hb0:bs (s.extract 0 k)=(bs s).take k:=by rw [Pm];rfl
     have hb1:bs (s.extract k s.size)=(bs s).drop k:=by rw [Pm,←Da,List.take_length]
     have hpl:=O9 n (s.extract 0 k) (by have:=wt s 0 k;omega) (by have:=wt s 0 k;omega)
     rw [hb0] at hpl
     have a1:(k:Int)≥0:=by omega
     have a2:(0:Int)≤(k:Int):=by omega
     have a3:(k:Int)≤(s.size:Int):=by omega
     have hpl':Aw n (s.extract (Int.toNat (0:Int)) k)=some (pl 0 ((bs s).take k)):=hpl
     by_cases hp:pl 0 ((bs s).take k)=true
     · rw [if_pos hp]
       refine ⟨s.extract 0 k,s.extract k s.size,?_,hb0,hb1⟩
       unfold xn Om
       rw [hP,Option.bind_some,if_neg (by decide),hI,hk]
       simp only [a1,a2,a3,hpl',hp,hm',decide_true,Option.bind_some,onX,Int.toNat_natCast]
       rfl
     · rw [if_neg hp]
       simp only
       unfold xn Om
       rw [hP,Option.bind_some,if_neg (by decide),hI,hk]
       have hp':pl 0 ((bs s).take k)=false:=by simpa using hp
       simp only [a1,a2,a3,hpl',hp',hm2,decide_true,Option.bind_some,onX,Int.toNat_natCast]
       rfl
def yO (l:List Int):Bool:=decide (1≤l.length)&&decide (l.length≤64)&&(if l.head?=some 34 then (match qd (l.drop 1) with
  | none=>false
  | some x=>decide (x.2=[])&&!pl 0 x.1&&decide (qt x.1=l)) else pl 0 l)
theorem beb (n:Nat) (s:BA) (hs:s.size≤1000000) (hn:10000000≤n):uG n s=some (yO (bs s)):=by
 unfold uG vG yO
 rw [Da]
 by_cases g1:1≤s.size
 · have b1:¬((s.size:Int)<1):=by omega
   by_cases g2:s.size≤64
   · have b2:¬((s.size:Int)>64):=by omega
     have b3:(0:Int)<(s.size:Int):=by omega
     obtain ⟨c,hc,hb⟩:=N6 (s:=s) (by omega)
     have hpl:=y5 n s hs hn
     rw [HX] at hpl
     simp only [b1,b2,b3,hb,g1,g2,hc,decide_true,decide_false]
     by_cases g3:c=34
     · subst g3
       have hq:=web n s hs g1 hn
       cases hx:qd ((bs s).drop 1) with
       | none=>
        rw [hx] at hq
        simp only at hq
        rw [hq];rfl
       | some x=>
        rw [hx] at hq
        obtain ⟨t,j1,j2⟩:=hq
        have hl:=H4 _ _ (Nat.le_refl _) x hx
        rw [List.length_drop,Da,←j2,Da] at hl
        have hpt:=y5 n t (by omega) hn
        rw [HX,j2] at hpt
        obtain ⟨t3,k1,k2⟩:=Adb n t (by omega) hn
        rw [j1]
        simp only [Option.bind_some,if_true]
        by_cases g4:x.2=[]
        · have:(((s.size - x.2.length:Nat):Int)==(s.size:Int))=true:=by rw [g4];simp
          simp only [this,hpt,k1,Option.bind_some,g4,decide_true]
          rw [gw,k2,j2]
          cases pl 0 x.1<;>simp
        · have hne:0<x.2.length:=List.length_pos_iff.2 g4
          have:(((s.size - x.2.length:Nat):Int)==(s.size:Int))=false:=by simp only [beq_eq_false_iff_ne];omega
          simp [this,g4]
     · have:(c !=34)=true:=by simpa using g3
       simp [this,hpl,g3]
   · have b2:((s.size:Int)>64):=by omega
     simp [b1,b2,g2]
 · have b1:((s.size:Int)<1):=by omega
   simp [b1,g1]
theorem ygb (n:Nat) (a b:BA) (ha:a.size≤1000000) (hb:b.size≤1000000) (hn:10000000≤n):xQ n (a,b,())=some (yO (bs a)&&DK (bs b)):=by
 unfold xQ nS
 rw [beb n a ha hn,Option.bind_some]
 cases hl:yO (bs a)
 · simp
 · rw [if_pos rfl,OX n b hb hn];simp
open Go
abbrev Box:=BA×(BA×Unit)
def mmb:Box:=((⟨#[]⟩:BA),((⟨#[]⟩:BA),()))
def Gjb (l:List Int):Option (List Int×List Int):=(loc l).bind fun x=>if x.1.length≤64∧x.2.head?=some 64∧Egb ((x.2.drop 1).map low)=true then some (x.1,(x.2.drop 1).map low) else none
theorem Whb {l:List Int} {x:List Int×List Int} (h:loc l=some x):x.1.length≤2*l.length+2∧x.2.length≤l.length:=by
 unfold loc at h
 split at h
 · obtain ⟨y,hy,rfl⟩:=Option.map_eq_some_iff.1 h
   have h1:=H4 _ _ (Nat.le_refl _) y hy
   have h2:=jkb y.1
   rw [List.length_drop] at h1
   exact ⟨by simp;omega,by simp;omega⟩
 · split at h
   · cases h
   · split at h
     · cases h;simp;omega
     · cases h
theorem aab {t:BA}:bs (t.extract 1 t.size)=(bs t).drop 1:=by rw [Pm,←Da,List.take_length]
theorem oib (n:Nat) (s:BA) (hs:s.size≤400000) (hn:10000000≤n):match Gjb (bs s) with
  | none=>uu n s=some (.error 8)
  | some (a,d)=>∃ t1 t2,uu n s=some (.ok (t1,(t2,())))∧bs t1=a∧bs t2=d:=by
 have hm':(Xc n true)=some (.ok ()):=PB n true
 have hm2:(Xc n false)=some (.error 8):=PB n false
 have hl:=Eeb n s (by omega) hn
 unfold Gjb
 cases hx:loc (bs s) with
 | none=>
  rw [hx] at hl
  simp only at hl
  simp only [Option.bind_none]
  unfold uu Cq
  rw [hl];rfl
 | some x=>
  rw [hx] at hl
  obtain ⟨t1,t2,j1,j2,j3⟩:=hl
  have hlen:=Whb hx
  rw [←j2,←j3,Da,Da,Da] at hlen
  simp only [Option.bind_some]
  rw [←j2,←j3,Da]
  by_cases g1:t1.size≤64
  · have b1:(t1.size:Int)≤64:=by omega
    have hP:=Xs n t2 (⟨#[64]⟩:BA) (c:=64) rfl
    by_cases g2:(bs t2).head?=some 64
    · rw [decide_eq_true g2] at hP
      have hne:1≤t2.size:=by
       rw [←Da]
       cases hb:bs t2 with
       | nil=>rw [hb] at g2;cases g2
       | cons _ _=>simp
      have b2:(1:Int)≤(t2.size:Int):=by omega
      have b3:(0:Int)≤1:=by decide
      obtain ⟨t3,k1,k2⟩:=ffb n (t2.extract 1 t2.size) (by have:=wt t2 1 t2.size;omega) hn
      have hsz:t3.size≤t2.size:=by rw [←Da t3,k2,List.length_map,Da];exact wt _ _ _
      have hD:=tS n t3 (by omega) hn
      rw [k2,aab] at hD
      rw [aab] at k2
      have k1':Bw n (t2.extract (Int.toNat (1:Int)) t2.size)=some t3:=k1
      by_cases g3:Egb (((bs t2).drop 1).map low)=true
      · rw [if_pos ⟨g1,g2,g3⟩]
        refine ⟨t1,t3,?_,rfl,k2⟩
        unfold uu Cq
        rw [j1]
        simp only [Option.bind_some,onX,b1,decide_true,hP,hm',b2,b3,Int.toNat_natCast,k1',hD,g3]
        rfl
      · rw [if_neg fun h=>g3 h.2.2]
        simp only
        have g3':Egb (((bs t2).drop 1).map low)=false:=by simpa using g3
        unfold uu Cq
        rw [j1]
        simp only [Option.bind_some,onX,b1,decide_true,hP,hm',hm2,b2,b3,Int.toNat_natCast,k1',hD,g3']
        rfl
    · rw [decide_eq_false g2] at hP
      rw [if_neg fun h=>g2 h.2.1]
      simp only
      unfold uu Cq
      rw [j1]
      simp only [Option.bind_some,onX,b1,decide_true,hP,hm2]
      rfl
  · have b1:¬((t1.size:Int)≤64):=by omega
    rw [if_neg fun h=>g1 h.1]
    simp only
    unfold uu Cq
    rw [j1]
    simp only [Option.bind_some,onX,b1,decide_false,hm2]
    rfl
theorem ceb (n:Nat) (s:BA) (hs:s.size≤400000) (hn:10000000≤n):match Gjb (bs s) with
  | none=>xw n s=some (mmb,8,())
  | some (a,d)=>∃ t1 t2,xw n s=some ((t1,(t2,())),0,())∧bs t1=a∧bs t2=d:=by
 have h:=oib n s hs hn
 cases hx:Gjb (bs s) with
 | none=>
  rw [hx] at h
  simp only at h ⊢
  unfold xw eu
  rw [h];rfl
 | some x=>
  rw [hx] at h
  obtain ⟨t1,t2,j1,j2,j3⟩:=h
  refine ⟨t1,t2,?_,j2,j3⟩
  unfold xw eu
  rw [j1];rfl
def cV (a z:List Int):Option (List Int×List Int):=if z.head?=some 64∧(yO a&&DK ((z.drop 1).map low))=true then some (a,(z.drop 1).map low) else none
def tw:List Int→Nat
 | []=>0
 | c::r=>if c=64 then 0 else tw r+1
def Hjb (l:List Int):Option (List Int×List Int):=if l.head?=some 34 then (qd (l.drop 1)).bind fun x=>cV (qs x.1) x.2 else cV (l.take (tw l)) (l.drop (tw l))
open Go Go.RowKit
theorem Oeb:∀ (N:Nat) (r:List Int),r.length≤N→∀ x,qd r=some x→x.1.all okc=true
 | _,[],_,x,h=>by cases h
 | 0,c::r,h,_,_=>by simp at h
 | N+1,c::r,hN,x,h=>by
  rw [tk] at h
  split at h
  · cases h;rfl
  · split at h
    · cases r with
      | nil=>cases h
      | cons d r=>
       simp only at h
       split at h
       · rename_i hd
         obtain ⟨y,hy,rfl⟩:=Option.map_eq_some_iff.1 h
         have:=Oeb N r (by simp at hN;omega) y hy
         rw [List.all_cons,hd,this];rfl
       · cases h
    · split at h
      · rename_i hd
        obtain ⟨y,hy,rfl⟩:=Option.map_eq_some_iff.1 h
        have:=Oeb N r (by simp at hN;omega) y hy
        rw [List.all_cons,hd,this];rfl
      · cases h
theorem pdb:∀ (l:List Int),l.all okc=true→∀ z,qd (esc l++34::z)=some (l,z)
 | [],_,z=>by rw [show esc []++34::z=34::z from rfl,tk];rfl
 | c::r,h,z=>by
  rw [List.all_cons,Bool.and_eq_true] at h
  have ih:=pdb r h.2 z
  rw [yL]
  by_cases g:c=34∨c=92
  · rw [if_pos g]
    rw [show ([92,c]++esc r)++34::z=92::c::(esc r++34::z) by simp,tk]
    simp only [h.1,ih]
    rfl
  · rw [if_neg g]
    rw [show ([c]++esc r)++34::z=c::(esc r++34::z) by simp,tk,if_neg fun e=>g (.inl e),if_neg fun e=>g (.inr e),if_pos h.1,ih]
    rfl
theorem ndb {l:List Int} (h:pl 0 l=true):1≤l.length∧l.head?≠some 34:=by
 cases l with
 | nil=>simp [pl] at h
 | cons c r=>
  refine ⟨by simp,fun e=>?_⟩
  simp at e
  subst e
  have:i6 34=false:=by decide
  simp [pl,this] at h
theorem Vhb {m:List Int} (h:m.all okc=true):yO (qs m)=decide ((qs m).length≤64):=by
 unfold qs
 by_cases hp:pl 0 m=true
 · rw [if_pos hp]
   obtain ⟨h1,h2⟩:=ndb hp
   unfold yO
   rw [if_neg h2,hp]
   simp [h1]
 · rw [if_neg hp]
   have hp':pl 0 m=false:=by simpa using hp
   unfold yO
   have hd:(qt m).drop 1=esc m++34::[]:=rfl
   rw [if_pos (by rfl:(qt m).head?=some 34),hd,pdb m h []]
   simp [hp',qt]
theorem bhb:∀ l:List Int,(idx 64 l= -1→tw l=l.length)∧(idx 64 l≠ -1→idx 64 l=(tw l:Int)∧(l.drop (tw l)).head?=some 64)
 | []=>by simp [idx,tw]
 | c::r=>by
  have ih:=bhb r
  have hge:=(Fu (c:=64) r).2
  simp only [idx,tw]
  by_cases g:c=64
  · simp [g]
  · rw [if_neg g,if_neg g]
    by_cases g2:idx 64 r= -1
    · rw [if_pos g2]
      exact ⟨fun _=>by rw [ih.1 g2];rfl,fun h=>absurd rfl h⟩
    · rw [if_neg g2]
      have:=ih.2 g2
      exact ⟨fun h=>by omega,fun _=>⟨by rw [this.1];rfl,by rw [List.drop_succ_cons];exact this.2⟩⟩
theorem Leb (l:List Int):Gjb l=Hjb l:=by
 unfold Gjb Hjb loc
 by_cases h:l.head?=some 34
 · rw [if_pos h,if_pos h]
   cases hx:qd (l.drop 1) with
   | none=>rfl
   | some x=>
    simp only [Option.map_some,Option.bind_some]
    unfold cV
    rw [Vhb (Oeb _ _ (Nat.le_refl _) x hx),fS]
    by_cases g1:(qs x.1).length≤64<;>by_cases g2:x.2.head?=some 64<;>cases DK ((x.2.drop 1).map low)<;>simp [g1,g2]
 · rw [if_neg h,if_neg h]
   have ht:=bhb l
   have hge:=(Fu (c:=64) l).2
   by_cases g:idx 64 l= -1
   · rw [if_pos g,ht.1 g,List.drop_length]
     simp [cV]
   · rw [if_neg g]
     obtain ⟨e1,e2⟩:=ht.2 g
     rw [e1,Int.toNat_natCast]
     by_cases hp:pl 0 (l.take (tw l))=true
     · rw [if_pos hp]
       obtain ⟨h1,h2⟩:=ndb hp
       simp only [Option.bind_some]
       unfold cV
       have hloc:yO (l.take (tw l))=decide ((l.take (tw l)).length≤64):=by
        unfold yO
        rw [if_neg h2,hp]
        simp only [h1,decide_true,Bool.true_and,Bool.and_true]
       rw [hloc,fS,e2]
       by_cases g1:(l.take (tw l)).length≤64<;>cases DK (((l.drop (tw l)).drop 1).map low)<;>simp only [g1,decide_true,decide_false]<;>simp
     · rw [if_neg hp]
       simp only [Option.bind_none]
       have hloc:yO (l.take (tw l))=false:=by
        unfold yO
        by_cases h34:(l.take (tw l)).head?=some 34
        · exfalso
          apply h
          cases l with
          | nil=>simp at h34
          | cons c r=>
           cases htw:tw (c::r) with
           | zero=>rw [htw] at h34;simp at h34
           | succ k=>rw [htw] at h34;simpa using h34
        · rw [if_neg h34]
          have:pl 0 (l.take (tw l))=false:=by simpa using hp
          rw [this];simp
       unfold cV
       rw [hloc]
       simp
theorem CG (d:Int) (p:Int→Bool):∀ (r cur:List Int),(Xb d cur r).all (fun w=>w.all p)=true→(∀ c∈cur,p c=true)∧∀ c∈r,p c=true∨c=d
 | [],cur,h=>by
  simp only [Xb,List.all_cons,List.all_nil,Bool.and_true,List.all_eq_true] at h
  exact ⟨h,fun c hc=>by cases hc⟩
 | c::r,cur,h=>by
  simp only [Xb] at h
  by_cases e:c=d
  · rw [if_pos e,List.all_cons,Bool.and_eq_true] at h
    obtain ⟨h1,h2⟩:=CG d p r [] h.2
    refine ⟨fun x hx=>List.all_eq_true.mp h.1 x hx,fun x hx=>?_⟩
    rcases List.mem_cons.mp hx with rfl | hx
    · exact .inr e
    · exact h2 x hx
  · rw [if_neg e] at h
    obtain ⟨h1,h2⟩:=CG d p r (cur++[c]) h
    refine ⟨fun x hx=>h1 x (List.mem_append_left _ hx),fun x hx=>?_⟩
    rcases List.mem_cons.mp hx with rfl | hx
    · exact .inl (h1 x (List.mem_append_right _ List.mem_cons_self))
    · exact h2 x hx
theorem Lcb {l:List Int} (h:2≤l.length) (h1:l.head?=some 91) (h2:l.getLast?=some 93):∀ c∈l,c=91∨c=93∨c∈ZQ l:=by
 intro c hc
 cases l with
 | nil=>cases hc
 | cons a r=>
  simp only [List.head?_cons,Option.some.injEq] at h1
  rcases List.mem_cons.mp hc with e | hm
  · exact .inl (e.trans h1)
  · have hr:r≠[]:=List.ne_nil_of_mem hm
    obtain ⟨k,hk⟩:∃ k,r.length=k+1:=⟨r.length - 1,by have:=List.length_pos_iff.mpr hr;omega⟩
    have hi:ZQ (a::r)=r.dropLast:=by
     unfold ZQ
     rw [List.length_cons,Nat.add_sub_cancel,hk,List.take_succ_cons,List.drop_one,List.tail_cons,List.dropLast_eq_take,hk];rfl
    have hg:r.getLast hr=93:=by
     rw [List.getLast?_cons,List.getLast?_eq_some_getLast hr] at h2
     simpa using h2
    rw [←List.dropLast_concat_getLast hr] at hm
    rcases List.mem_append.mp hm with hm | hm
    · exact .inr (.inr (hi▸hm))
    · rw [List.mem_singleton.mp hm,hg];exact .inr (.inl rfl)
theorem peb {l:List Int} (h:DK l=true):l.map low=l:=by
 have key:∀ c∈l,¬(65≤c∧c≤90):=by
  unfold DK at h
  rw [Bool.and_eq_true,Bool.or_eq_true] at h
  rcases h.2 with h | h
  · unfold Ceb at h
    simp only [Bool.and_eq_true,decide_eq_true_eq] at h
    obtain ⟨⟨⟨h1,h2⟩,h3⟩,h4⟩:=h
    unfold Aeb at h4
    rw [Bool.and_eq_true] at h4
    have h5:(Xb 46 [] (ZQ l)).all (fun w=>w.all dig)=true:=by
     rw [List.all_eq_true]
     intro w hw
     have:=List.all_eq_true.mp h4.1 w hw
     unfold okR at this
     simp only [Bool.and_eq_true] at this
     exact this.1.2
    have h6:=(CG 46 dig _ _ h5).2
    intro c hc
    rcases Lcb h1 h2 h3 c hc with rfl | rfl | hm
    · decide
    · decide
    · rcases h6 c hm with h7 | rfl
      · unfold dig at h7
        simp only [Bool.and_eq_true,decide_eq_true_eq] at h7
        omega
      · decide
  · have h5:(Xb 46 [] l).all (fun w=>w.all lch)=true:=by
     rw [List.all_eq_true]
     intro w hw
     have:=List.all_eq_true.mp h w hw
     unfold j6 at this
     simp only [Bool.and_eq_true] at this
     exact this.2
    have h6:=(CG 46 lch _ _ h5).2
    intro c hc
    rcases h6 c hc with h7 | rfl
    · unfold lch sgn at h7
      simp only [Bool.and_eq_true,Bool.or_eq_true,decide_eq_true_eq] at h7
      omega
    · decide
 have:l.map low=l.map id:=List.map_congr_left fun c hc=>by
  unfold low
  rw [if_neg (key c hc)];rfl
 rw [this,List.map_id]
theorem lib:∀ (l:List Int) (w:Nat),pl w l=true→64 ∉ l
 | [],_,_=>by simp
 | c::r,w,h=>by
  simp only [pl] at h
  intro hm
  rcases List.mem_cons.mp hm with e | hm
  · subst e
    have a:i6 64=false:=by decide
    simp [a] at h
  · by_cases c1:c=46
    · rw [if_pos c1] at h
      by_cases c2:w=0
      · rw [if_pos c2] at h;cases h
      · rw [if_neg c2] at h;exact lib r 0 h hm
    · rw [if_neg c1] at h
      by_cases c2:i6 c=true
      · rw [if_pos c2] at h;exact lib r (w+1) h hm
      · rw [if_neg c2] at h;cases h
theorem ahb:∀ (l z:List Int),64 ∉ l→tw (l++64::z)=l.length
 | [],z,_=>by simp [tw]
 | c::r,z,h=>by
  have hc:¬c=64:=fun e=>h (by rw [e];exact List.mem_cons_self)
  have:=ahb r z fun hm=>h (List.mem_cons_of_mem _ hm)
  show (if c=64 then 0 else tw (r++64::z)+1)=_
  rw [if_neg hc,this];rfl
theorem SX {a z l d:List Int} (h:cV a z=some (l,d)):(yO l&&DK d)=true:=by
 unfold cV at h
 by_cases c:z.head?=some 64∧(yO a&&DK ((z.drop 1).map low))=true
 · rw [if_pos c] at h
   obtain ⟨h1,h2⟩:=Prod.mk.inj (Option.some.inj h)
   rw [←h1,←h2];exact c.2
 · rw [if_neg c] at h;cases h
theorem kib (l d:List Int):Hjb (l++64::d)=some (l,d)↔(yO l&&DK d)=true:=by
 constructor
 · intro h
   unfold Hjb at h
   by_cases c:(l++64::d).head?=some 34
   · rw [if_pos c] at h
     cases hq:qd ((l++64::d).drop 1) with
     | none=>rw [hq] at h;cases h
     | some x=>rw [hq,Option.bind_some] at h;exact SX h
   · rw [if_neg c] at h;exact SX h
 · intro h
   rw [Bool.and_eq_true] at h
   obtain ⟨h1,hd⟩:=h
   have hlow:=peb hd
   have tl:∀ a,yO a=true→cV a (64::d)=some (a,d):=by
    intro a ha
    unfold cV
    have e:(64::d).drop 1=d:=rfl
    rw [e,hlow,ha,hd]
    rfl
   have L1:=h1
   unfold yO at L1
   rw [Bool.and_eq_true,Bool.and_eq_true,decide_eq_true_eq] at L1
   obtain ⟨⟨L2,L3⟩,L1⟩:=L1
   have hh:(l++64::d).head?=l.head?:=by
    cases l with
    | nil=>simp at L2
    | cons a r=>rfl
   unfold Hjb
   by_cases c:l.head?=some 34
   · rw [if_pos c] at L1
     cases hx:qd (l.drop 1) with
     | none=>rw [hx] at L1;cases L1
     | some x=>
      rw [hx] at L1
      simp only [Bool.and_eq_true,decide_eq_true_eq,Bool.not_eq_true'] at L1
      obtain ⟨⟨e1,e2⟩,e3⟩:=L1
      have ok:=Oeb _ _ (Nat.le_refl _) x hx
      have hdr:(l++64::d).drop 1=esc x.1++34::64::d:=by
       rw [←e3];simp [qt]
      have hqs:qs x.1=l:=by
       unfold qs
       rw [if_neg (by rw [e2];decide),e3]
      rw [if_pos (hh.trans c),hdr,pdb x.1 ok (64::d),Option.bind_some]
      show cV (qs x.1) (64::d)=_
      rw [hqs];exact tl l h1
   · rw [if_neg c] at L1
     rw [if_neg (by rw [hh];exact c),ahb l d (lib l 0 L1),List.take_left' rfl,List.drop_left' rfl]
     exact tl l h1
theorem ohb (n:Nat) (a b:BA) (ha:a.size≤100000) (hb:b.size≤100000):kX n (a,(b,()))=some ((a++(⟨#[64]⟩:BA))++b):=by
 have h64:(⟨#[64]⟩:BA).size=1:=rfl
 have f1:zj a (⟨#[64]⟩:BA)=true:=Lhb (by omega)
 have f2:zj (a++(⟨#[64]⟩:BA)) b=true:=Lhb (by rw [ByteArray.size_append];omega)
 unfold kX aS
 rw [if_pos f1,if_pos f2]
theorem Xbb (n:Nat) (a b:BA) (ha:a.size≤100000) (hb:b.size≤100000) (hn:10000000≤n):xS n (a,(b,()))=some (yO (bs a)&&DK (bs b)):=by
 have h64:(⟨#[64]⟩:BA).size=1:=rfl
 have hs:((a++(⟨#[64]⟩:BA))++b).size≤400000:=by rw [ByteArray.size_append,ByteArray.size_append];omega
 have hP:=ceb n _ hs hn
 have hb':bs ((a++(⟨#[64]⟩:BA))++b)=bs a++64::bs b:=by
  rw [bE,bE,List.append_assoc];rfl
 rw [hb',Leb] at hP
 have hm:=kib (bs a) (bs b)
 unfold xS cS
 simp only [ohb n a b ha hb,Option.bind_some]
 cases hv:Hjb (bs a++64::bs b) with
 | none=>
  rw [hv] at hP hm
  simp only at hP
  have:(yO (bs a)&&DK (bs b))=false:=by
   cases e:(yO (bs a)&&DK (bs b)) with
   | false=>rfl
   | true=>cases hm.mpr e
  rw [hP,this];rfl
 | some y=>
  rw [hv] at hP hm
  obtain ⟨t1,t2,j1,j2,j3⟩:=hP
  rw [j1,Option.bind_some]
  simp only [gw,j2,j3]
  have:(decide (y.1=bs a)&&(decide (y.2=bs b)&&true))=(yO (bs a)&&DK (bs b)):=by
   rw [Bool.eq_iff_iff,←hm]
   simp [Prod.ext_iff]
  rw [←this];rfl
end Go.Proofs.YtdhehcnfkcibiaaGreatDoor.AM
