/- Strings as lists of numbers: what the typed functions do to them. -/
import Derived.Test.YtddefjokgaajfaaGreatDoorWA
import Derived.Lib.Strings
import Derived.Lib.Bytealg
import Derived.IntWalk
import Derived.Test.YtddefjokgaajfaaGreatDoorWF3
import Derived.Lib.ItoaNum
import Derived.Test.YtddefjokgaajfaaGreatDoorWB2
set_option linter.all false
set_option linter.unusedVariables false
set_option linter.unusedSimpArgs false
namespace Go.Proofs.YtddefjokgaajfaaGreatDoor.AM
open Go
def bs (s:BA):List Int:=s.data.toList.map fun c=>(c.toNat:Int)
theorem za (s:BA):(bs s).length=s.size:=by simp [bs,ByteArray.size_data]
theorem UK:∀ {a b:List UInt8},(a.map fun c=>(c.toNat:Int))=(b.map fun c=>(c.toNat:Int))→a=b
 | [],[],_=>rfl
 | [],_::_,h=>by simp at h
 | _::_,[],h=>by simp at h
 | x::xs,y::ys,h=>by
  simp only [List.map_cons,List.cons.injEq] at h
  rw [UK h.2,UInt8.toNat_inj.1 (by have:=h.1;omega:x.toNat=y.toNat)]
theorem yJ {a b:BA} (h:bs a=bs b):a=b:=by
 have:=UK h
 exact ByteArray.ext (Array.toList_inj.1 this)
theorem ws (a b:BA):(a.toList==b.toList)=decide (bs a=bs b):=by
 rw [Lib.toList_data,Lib.toList_data]
 by_cases h:bs a=bs b
 · rw [decide_eq_true h,yJ h];simp
 · rw [decide_eq_false h]
   have:a.data.toList≠b.data.toList:=fun e=>h (by unfold bs;rw [e])
   simpa using this
theorem wn (a b:BA):bs (a++b)=bs a++bs b:=by simp [bs,ByteArray.data_append]
theorem Tg (a:BA) (i j:Nat):bs (a.extract i j)=((bs a).take j).drop i:=by
 simp [bs,ByteArray.data_extract,List.map_drop,List.map_take,List.extract,List.drop_take]
theorem MR {s:BA} {c:Int} (h:c∈bs s):0≤c∧c<256:=by
 simp only [bs,List.mem_map] at h
 obtain ⟨x,_,rfl⟩:=h
 have:=x.toNat_lt
 omega
theorem iU {s:BA} {k:Nat} {c:Int} (h:(bs s)[k]?=some c):bt s (k:Int)=c:=by
 have hl:k<s.size:=by have:=(List.getElem?_eq_some_iff.1 h).1;rwa [za] at this
 unfold bt
 rw [dif_pos (by simpa using hl)]
 simp only [bs,List.getElem?_map] at h
 rw [Array.getElem?_toList,Array.getElem?_eq_getElem (by rwa [ByteArray.size_data])] at h
 simp at h
 exact h
theorem Ah {s:BA} {k:Nat} {c:Int} {r:List Int} (h:(bs s).drop k=c::r):(k:Int)<(s.size:Int)∧bt s (k:Int)=c∧(bs s).drop (k+1)=r∧0≤c∧c<256:=by
 have h1:(bs s)[k]?=some c:=by
  have:=congrArg (fun l=>l[0]?) h
  simpa using this
 have hl:k<s.size:=by have:=(List.getElem?_eq_some_iff.1 h1).1;rwa [za] at this
 refine ⟨by omega,iU h1,?_,MR (List.mem_of_getElem? h1)⟩
 rw [←List.drop_drop,h];rfl
theorem yo {s:BA} {k:Nat} (h:(bs s).drop k=[]):¬((k:Int)<(s.size:Int)):=by
 have:=List.drop_eq_nil_iff.1 h
 rw [za] at this
 omega
theorem wr {x:Int} (h1: -9223372036854775808≤x) (h2:x≤9223372036854775807):IntKind.wrap .i64 x=x:=by
 rw [IntKind.wrap_i64]
 omega
theorem wr1 {k:Nat} (h:k<4611686018427387904):IntKind.wrap .i64 ((k:Int)+1)=((k+1:Nat):Int):=by
 rw [wr (by omega) (by omega)];rfl
theorem kP:∀ (l:List Int) (r:BA),(∀ x∈l,0≤x∧x<256)→bs (l.foldl (fun r c=>r.push (UInt8.ofNat c.toNat)) r)=bs r++l
 | [],r,_=>by simp
 | x::l,r,h=>by
  rw [List.foldl_cons,kP l _ fun y hy=>h y (List.mem_cons_of_mem _ hy)]
  have hx:=h x List.mem_cons_self
  have:bs (r.push (UInt8.ofNat x.toNat))=bs r++[x]:=by
   have e:(UInt8.ofNat x.toNat).toNat=x.toNat:=by simp [UInt8.toNat_ofNat'];omega
   simp [bs,ByteArray.push,e]
   omega
  rw [this];simp
theorem sB {n:Nat} {f:Nat→Int} (h:∀ i,i<n→0≤f i∧f i<256):bs (ah n f)=(List.range n).map f:=by
 unfold ah
 rw [kP _ _ fun x hx=>by
  simp only [List.mem_map,List.mem_range] at hx
  obtain ⟨i,hi,rfl⟩:=hx
  exact h i hi]
 rfl
def idx (c:Int):List Int→Int
 | []=> -1
 | b::l=>if b=c then 0 else if idx c l= -1 then -1 else idx c l+1
theorem V3 {c:Int} (h0:0≤c) (h1:c<256):∀ l:List UInt8,Lib.indexByte l (Nat.toUInt8 (Int.toNat c))=idx c (l.map fun c=>(c.toNat:Int))
 | []=>rfl
 | b::l=>by
  have e:(Nat.toUInt8 (Int.toNat c)).toNat=c.toNat:=by simp [Nat.toUInt8,UInt8.toNat_ofNat'];omega
  simp only [Lib.indexByte,List.map_cons,idx,V3 h0 h1 l]
  have hb:(b==Nat.toUInt8 (Int.toNat c))=decide ((b.toNat:Int)=c):=by
   by_cases hh:(b.toNat:Int)=c
   · rw [decide_eq_true hh]
     have:b=Nat.toUInt8 (Int.toNat c):=UInt8.toNat_inj.1 (by rw [e];omega)
     simp [←this]
   · rw [decide_eq_false hh]
     have:b≠Nat.toUInt8 (Int.toNat c):=fun h=>hh (by rw [h,e];omega)
     simpa using this
  rw [hb]
  by_cases hh:(b.toNat:Int)=c<;>simp [hh]
theorem T0 {c:Int} (h0:0≤c) (h1:c<256) (l:List UInt8):Lib.countByte l (Nat.toUInt8 (Int.toNat c))=(l.map fun c=>(c.toNat:Int)).count c:=by
 have e:(Nat.toUInt8 (Int.toNat c)).toNat=c.toNat:=by simp [Nat.toUInt8,UInt8.toNat_ofNat'];omega
 unfold Lib.countByte
 induction l with
 | nil=>rfl
 | cons b l ih=>
  simp only [List.map_cons,List.count_cons,ih]
  by_cases hh:(b.toNat:Int)=c
  · have:b=Nat.toUInt8 (Int.toNat c):=UInt8.toNat_inj.1 (by rw [e];omega)
    simp [hh,←this]
  · have:b≠Nat.toUInt8 (Int.toNat c):=fun h=>hh (by rw [h,e];omega)
    simp [hh,this]
open Go
def sgn (c:Int):Bool:=decide (97≤c)&&decide (c≤122) || decide (48≤c)&&decide (c≤57)
def en:List Int:=[33,35,36,37,38,39,42,43,45,47,61,63,94,95,96,123,124,125,126]
def JV (c:Int):Bool:=sgn c || decide (65≤c)&&decide (c≤90) || decide (c∈en)
theorem OZ (n:Nat) (c:Int):WD n c=some (sgn c):=by
 unfold WD PF sgn
 by_cases h1:97≤c<;>by_cases h2:c≤122<;>by_cases h3:48≤c<;>by_cases h4:c≤57<;>simp [h1,h2,h3,h4]<;>omega
theorem Jq {c:Int}:∀ l:List Int,(0≤idx c l↔c∈l)∧ -1≤idx c l
 | []=>by simp [idx]
 | b::l=>by
  have:=Jq (c:=c) l
  simp only [idx]
  by_cases h:b=c
  · simp [h]
  · rw [if_neg h]
    have hc:c≠b:=fun e=>h e.symm
    by_cases h2:idx c l= -1
    · rw [if_pos h2]
      have:¬c∈l:=fun hm=>by have:=this.1.2 hm;omega
      simp [hc,this]
    · rw [if_neg h2]
      have h3:0≤idx c l:=by omega
      have:=this.1.1 h3
      constructor
      · constructor
        · intro _;exact List.mem_cons_of_mem _ this
        · intro _;omega
      · omega
theorem FJ (n:Nat) (s:BA) {c:Int} (h0:0≤c) (h1:c<256):Wf n s c=some (idx c (bs s)):=by
 unfold Wf rn An Um
 simp [V3 h0 h1,bs]
theorem kF:bs (⟨#[33,35,36,37,38,39,42,43,45,47,61,63,94,95,96,123,124,125,126]⟩:BA)=en:=by decide
theorem R4 (n:Nat) {c:Int} (h0:0≤c) (h1:c<256):SD n c=some (JV c):=by
 unfold SD uF JV
 rw [OZ,FJ _ _ h0 h1,kF]
 have:=(Jq (c:=c) en).1
 have hd:decide (idx c en≥0)=decide (c∈en):=by rw [decide_eq_decide];exact this
 cases hs:sgn c<;>by_cases h2:65≤c<;>by_cases h3:c≤90<;>simp [h2,h3,hd]<;>omega
def pl:Nat→List Int→Bool
 | w,[]=>decide (0<w)
 | w,c::r=>if c=46 then (if w=0 then false else pl 0 r) else if JV c=true then pl (w+1) r else false
def plX:Nat→List Int→Lx Int Bool
 | w,[]=>.out w
 | w,c::r=>if c=46 then (if w=0 then .ret false else plX 0 r) else if JV c=true then plX (w+1) r else .ret false
theorem rW (n:Nat) (s:BA) (hs:s.size<4611686018427387904):∀ (r:List Int) (k w m:Nat),(bs s).drop k=r→k≤s.size→w≤k→r.length<m→Zd n m s w s.size k=some (plX w r)
 | [],k,w,m,h,hk,hw,hm=>by
  obtain ⟨m,rfl⟩:∃ q,m=q+1:=⟨m - 1,by omega⟩
  have:=yo h
  simp [Zd,om,this,plX]
 | c::r,k,w,m,h,hk,hw,hm=>by
  obtain ⟨m,rfl⟩:∃ q,m=q+1:=⟨m - 1,by omega⟩
  obtain ⟨h1,h2,h3,h4,h5⟩:=Ah h
  have ih:=fun w hw=>rW n s hs r (k+1) w m h3 (by omega) hw (by simpa using hm)
  have hk0:(0:Int)≤(k:Int):=by omega
  have e1:=wr1 (k:=k) (by omega)
  have e2:=wr1 (k:=w) (by omega)
  simp only [Zd,om,h1,h2,hk0,R4 n h4 h5,e1,e2,plX]
  by_cases hc:c=46
  · subst hc
    by_cases hw0:w=0
    · subst hw0;simp
    · have:((w:Int)==0)=false:=by simpa using hw0
      have:=ih 0 (by omega)
      simp_all
  · have hc':(c==46)=false:=by simpa using hc
    cases ha:JV c with
    | true=>simp [hc,hc',ha];exact ih (w+1) (by omega)
    | false=>simp [hc,hc',ha]
theorem tZ:∀ (r:List Int) (w:Nat),onL (plX w r) (fun a=>decide (a>(0:Int))) (fun b=>b) (fun _=>false)=pl w r
 | [],w=>by simp [plX,pl,onL]
 | c::r,w=>by
  simp only [plX,pl]
  split
  · split
    · rfl
    · exact tZ r 0
  · split
    · exact tZ r (w+1)
    · rfl
theorem bM:∀ (r:List Int) (w:Nat) (p:Int),plX w r≠.pan p
 | [],w,p=>by simp [plX]
 | c::r,w,p=>by
  simp only [plX]
  split
  · split
    · simp
    · exact bM r 0 p
  · split
    · exact bM r (w+1) p
    · simp
theorem tW (n:Nat) (s:BA) (hs:s.size<4611686018427387904) (hn:s.size<n):Ss n s=some (pl 0 (bs s)):=by
 unfold Ss oB
 have:=rW n s hs (bs s) 0 0 n (by simp) (by omega) (by omega) (by rw [za];exact hn)
 rw [show ((0:Nat):Int)=0 from rfl] at this
 rw [this,Option.bind_some,←tZ]
 cases h:plX 0 (bs s) with
 | out a=>rfl
 | ret b=>rfl
 | pan p=>exact absurd h (bM _ _ _)
open Go
def sqL {α β:Type} (f:α→β) (q:Sq α):List β:=(List.range q.n).map fun i=>f (q.at' i)
theorem Gd {α β:Type} (f:α→β) (q:Sq α):(sqL f q).length=q.n:=by simp [sqL]
theorem wo {α β:Type} {f:α→β} {q:Sq α} {i:Nat} (h:i<q.n):(sqL f q)[i]?=some (f (q.at' i)):=by simp [sqL,h]
theorem Ot {α β:Type} (f:α→β) (q:Sq α) (y z:α):sqL f (⟨q.n+1,fun i=>if i<q.n then q.at' i else (fun i=>List.getD [y] i z) (i - q.n)⟩:Sq α)=sqL f q++[f y]:=by
 unfold sqL
 simp only [List.range_succ,List.map_append,List.map_cons,List.map_nil]
 congr 1
 · apply List.map_congr_left
   intro i hi
   simp only [List.mem_range] at hi
   simp [hi]
 · simp
theorem ZK {α β:Type} {f:α→β} {q:Sq α} {k:Nat} {x:β} {r:List β} (h:(sqL f q).drop k=x::r):k<q.n∧f (q.at' k)=x∧(sqL f q).drop (k+1)=r:=by
 have h1:(sqL f q)[k]?=some x:=by
  have:=congrArg (fun l=>l[0]?) h
  simpa using this
 have hl:k<q.n:=by have:=(List.getElem?_eq_some_iff.1 h1).1;rwa [Gd] at this
 refine ⟨hl,?_,?_⟩
 · rw [wo hl] at h1;exact Option.some.inj h1
 · rw [←List.drop_drop,h];rfl
theorem YQ {α β:Type} {f:α→β} {q:Sq α} {k:Nat} (h:(sqL f q).drop k=[]):q.n≤k:=by
 have:=List.drop_eq_nil_iff.1 h
 rwa [Gd] at this
theorem S6 {n:Nat} (h:n≤4000000):Ta (n+1) 16=true:=by
 unfold Ta
 simp only [Bool.and_eq_true,Nat.ble_eq]
 omega
theorem w5 {n:Nat} (h:n≤4000000):Ta (n+1) 1=true:=by
 unfold Ta
 simp only [Bool.and_eq_true,Nat.ble_eq]
 omega
def Mb (d:Int):List Int→List Int→List (List Int)
 | cur,[]=>[cur]
 | cur,c::r=>if c=d then cur::Mb d [] r else Mb d (cur++[c]) r
theorem RV {s:BA} {f k:Nat} {c:Int} {r:List Int} (h:(bs s).drop k=c::r) (hf:f≤k):bs (s.extract f (k+1))=bs (s.extract f k)++[c]:=by
 rw [Tg,Tg]
 have h1:(bs s)[k]?=some c:=by
  have:=congrArg (fun l=>l[0]?) h
  simpa using this
 have hk:k<(bs s).length:=(List.getElem?_eq_some_iff.1 h1).1
 rw [List.take_add_one,h1]
 rw [List.drop_append_of_le_length (by rw [List.length_take];omega)]
 rfl
theorem NP {s:BA} (k:Nat):bs (s.extract k k)=[]:=by
 rw [Tg]
 simp
theorem rP (n:Nat) (s:BA) (d:Int) (hs:s.size≤1000000):∀ (r:List Int) (k f m:Nat) (l:Sq BA),(bs s).drop k=r→k≤s.size→f≤k→l.n≤k→r.length+2≤m→
  ∃ q,je n m s d f k l=some (.out q)∧sqL bs q=sqL bs l++Mb d (bs (s.extract f k)) r
 | [],k,f,m,l,h,hk,hf,hl,hm=>by
  obtain ⟨m,rfl⟩:∃ q,m=q+2:=⟨m - 2,by simp at hm;omega⟩
  have hn:=yo h
  have hks:k=s.size:=by omega
  have e1:=wr1 (k:=k) (by omega)
  have a1:((k:Int)≤(s.size:Int)):=by omega
  have a2:((k:Int)==(s.size:Int))=true:=by rw [hks];simp
  have a3:(0:Int)≤(k:Int):=by omega
  have a4:(0:Int)≤(f:Int):=by omega
  have a5:(f:Int)≤(k:Int):=by omega
  have a6:=S6 (n:=l.n) (by omega)
  have a7:¬(((k+1:Nat):Int)≤(s.size:Int)):=by omega
  refine ⟨(⟨(l.n+1),fun q=>if q<l.n then l.at' q else (fun q=>List.getD (α:=BA) [(s.extract f k)] q (Aa .str)) (q - l.n)⟩:Sq BA),?_,?_⟩
  · simp only [je,vm,a1,a2,a3,a4,a5,a6,a7,e1]
    simp
  · refine (Ot bs l (s.extract f k) _).trans ?_;simp [Mb]
 | c::r,k,f,m,l,h,hk,hf,hl,hm=>by
  obtain ⟨m,rfl⟩:∃ q,m=q+1:=⟨m - 1,by simp at hm;omega⟩
  obtain ⟨h1,h2,h3,h4,h5⟩:=Ah h
  have e1:=wr1 (k:=k) (by omega)
  have a1:((k:Int)≤(s.size:Int)):=by omega
  have a2:((k:Int)==(s.size:Int))=false:=by simp;omega
  have a3:(0:Int)≤(k:Int):=by omega
  have a4:(0:Int)≤(f:Int):=by omega
  have a5:(f:Int)≤(k:Int):=by omega
  have a6:=S6 (n:=l.n) (by omega)
  simp only [je,vm,a1,a2,a3,a4,a5,a6,h1,h2,e1]
  by_cases hc:c=d
  · subst hc
    obtain ⟨q,hq,hl'⟩:=rP n s c hs r (k+1) (k+1) m (⟨(l.n+1),fun q=>if q<l.n then l.at' q else (fun q=>List.getD (α:=BA) [(s.extract f k)] q (Aa .str)) (q - l.n)⟩:Sq BA) h3 (by omega) (by omega) (by simp;omega) (by simp at hm;omega)
    refine ⟨q,by simpa using hq,?_⟩
    rw [hl',NP,show sqL bs (⟨(l.n+1),fun q=>if q<l.n then l.at' q else (fun q=>List.getD (α:=BA) [(s.extract f k)] q (Aa .str)) (q - l.n)⟩:Sq BA)=sqL bs l++[bs (s.extract f k)] from Ot bs l (s.extract f k) _]
    simp [Mb]
  · have hc':(c==d)=false:=by simpa using hc
    obtain ⟨q,hq,hl'⟩:=rP n s d hs r (k+1) f m l h3 (by omega) (by omega) (by omega) (by simp at hm;omega)
    refine ⟨q,by simpa [hc'] using hq,?_⟩
    rw [hl',RV h hf]
    simp [Mb,hc]
theorem sP (n:Nat) (s:BA) (d:Int) (hs:s.size≤1000000) (hn:10000000≤n):∃ q,ot n s d=some q∧sqL bs q=Mb d [] (bs s):=by
 obtain ⟨q,h1,h2⟩:=rP n s d hs (bs s) 0 0 n (⟨0,fun _=>Aa .str⟩:Sq BA) (by simp) (by omega) (by omega) (Nat.le_refl _) (by rw [za];omega)
 refine ⟨q,?_,by rw [h2,NP];rfl⟩
 unfold ot CB
 rw [show ((0:Nat):Int)=0 from rfl] at h1
 rw [h1];rfl
theorem cZ (n:Nat) (c:Int):Ov n c=some (decide (97≤c)&&decide (c≤122) || decide (65≤c)&&decide (c≤90)):=by
 unfold Ov Sw
 by_cases h1:97≤c<;>by_cases h2:c≤122<;>by_cases h3:65≤c<;>by_cases h4:c≤90<;>simp [h1,h2,h3,h4]<;>omega
theorem OV (n:Nat) (c:Int):vt n c=some (decide (48≤c)&&decide (c≤57)):=by
 unfold vt HB
 by_cases h3:48≤c<;>by_cases h4:c≤57<;>simp [h3,h4]
theorem CW (n:Nat) (s:BA) (c:Int) (hs:s.size≤1000000):∀ (r:List Int) (k m:Nat),(bs s).drop k=r→r.length<m→k≤s.size→Rf n m c s k=some (if c∈r then .ret true else .out ())
 | [],k,m,h,hm,hk=>by
  obtain ⟨m,rfl⟩:∃ q,m=q+1:=⟨m - 1,by simp at hm;omega⟩
  have:=yo h
  simp [Rf,vq,this]
 | d::r,k,m,h,hm,hk=>by
  obtain ⟨m,rfl⟩:∃ q,m=q+1:=⟨m - 1,by simp at hm;omega⟩
  obtain ⟨h1,h2,h3,h4,h5⟩:=Ah h
  have e1:=wr1 (k:=k) (by omega)
  have a3:(0:Int)≤(k:Int):=by omega
  have ih:=CW n s c hs r (k+1) m h3 (by simpa using hm) (by omega)
  simp only [Rf,vq,h1,h2,a3,e1]
  by_cases hc:d=c
  · subst hc;simp
  · have hc':(d==c)=false:=by simpa using hc
    have hc2:¬c=d:=fun e=>hc e.symm
    simpa [hc',hc2] using ih
theorem I2 (n:Nat) (c:Int) (hn:10000000≤n):KI n c=some (decide (c∈en)):=by
 unfold KI wH
 have h:=CW n (⟨#[33,35,36,37,38,39,42,43,45,47,61,63,94,95,96,123,124,125,126]⟩:BA) c (by decide) _ 0 n rfl (by rw [List.drop_zero,kF];show 19<n;omega) (by decide)
 rw [show ((0:Nat):Int)=0 from rfl,List.drop_zero,kF] at h
 rw [h]
 by_cases hc:c∈en<;>simp [hc,onL]
theorem sW (n:Nat) (l:Sq BA) (i:Nat) (hi:i<l.n) (hn:10000000≤n) (hs:(l.at' i).size≤1000000):∀ (r:List Int) (k m:Nat),(bs (l.at' i)).drop k=r→r.length<m→k≤(l.at' i).size→
  me n m l i k=some (if r.all JV=true then .out (l,(i:Int)) else .ret false)
 | [],k,m,h,hm,hk=>by
  obtain ⟨m,rfl⟩:∃ q,m=q+1:=⟨m - 1,by simp at hm;omega⟩
  have:=yo h
  have a3:(0:Int)≤(i:Int):=by omega
  have a4:(i:Int)<(l.n:Int):=by omega
  simp [me,zm,this,a3,a4]
 | c::r,k,m,h,hm,hk=>by
  obtain ⟨m,rfl⟩:∃ q,m=q+1:=⟨m - 1,by simp at hm;omega⟩
  obtain ⟨h1,h2,h3,h4,h5⟩:=Ah h
  have e1:=wr1 (k:=k) (by omega)
  have a1:(0:Int)≤(i:Int):=by omega
  have a2:(i:Int)<(l.n:Int):=by omega
  have a3:(0:Int)≤(k:Int):=by omega
  have ih:=sW n l i hi hn hs r (k+1) m h3 (by simpa using hm) (by omega)
  simp only [me,zm,a1,a2,a3,Int.toNat_natCast,h1,h2,e1,cZ,OV,I2 _ _ hn]
  have hat:JV c=((decide (97≤c)&&decide (c≤122) || decide (65≤c)&&decide (c≤90)) || (decide (48≤c)&&decide (c≤57)) || decide (c∈en)):=by
   unfold JV sgn
   cases decide (97≤c)<;>cases decide (c≤122)<;>cases decide (65≤c)<;>cases decide (c≤90)<;>cases decide (48≤c)<;>cases decide (c≤57)<;>cases decide (c∈en)<;>rfl
  simp only [List.all_cons,hat]
  cases hx:(decide (97≤c)&&decide (c≤122) || decide (65≤c)&&decide (c≤90))<;>cases hy:(decide (48≤c)&&decide (c≤57))<;>cases hz:decide (c∈en)<;>first | (simp;done) | (simpa using ih)
def Yh (W:List (List Int)):Bool:=W.all fun w=>!w.isEmpty&&w.all JV
theorem AS (n:Nat) (l:Sq BA) (hn:10000000≤n) (hl:l.n≤2000000) (hs:∀ i,i<l.n→(l.at' i).size≤1000000):∀ (W:List (List Int)) (i m:Nat),(sqL bs l).drop i=W→W.length<m→i≤l.n→
  le n m l i=some (if Yh W=true then .out () else .ret false)
 | [],i,m,h,hm,hi=>by
  obtain ⟨m,rfl⟩:∃ q,m=q+1:=⟨m - 1,by simp at hm;omega⟩
  have:=YQ h
  have a4:¬((i:Int)<(l.n:Int)):=by omega
  simp [le,ym,a4,Yh]
 | w::W,i,m,h,hm,hi=>by
  obtain ⟨m,rfl⟩:∃ q,m=q+1:=⟨m - 1,by simp at hm;omega⟩
  obtain ⟨h1,h2,h3⟩:=ZK h
  have e1:=wr1 (k:=i) (by omega)
  have a1:(0:Int)≤(i:Int):=by omega
  have a2:(i:Int)<(l.n:Int):=by omega
  have ih:=AS n l hn hl hs W (i+1) m h3 (by simpa using hm) (by omega)
  have hw:=sW n l i h1 hn (hs i h1) (bs (l.at' i)) 0 n (by simp) (by rw [za];have:=hs i h1;omega) (by omega)
  rw [show ((0:Nat):Int)=0 from rfl,h2] at hw
  simp only [le,ym,a1,a2,Int.toNat_natCast,ws,h2,hw]
  rw [show bs (⟨#[]⟩:BA)=[] from rfl]
  cases w with
  | nil=>simp [Yh]
  | cons c w=>
   cases ha:(c::w).all JV with
   | false=>simp [Yh,ha,onL]
   | true=>
    have:Yh ((c::w)::W)=Yh W:=by
     unfold Yh
     rw [List.all_cons,ha];simp
    simpa [this,onL,e1] using ih
theorem aJ (d:Int):∀ (r cur:List Int),(Mb d cur r).length≤r.length+1∧∀ w∈Mb d cur r,w.length≤cur.length+r.length
 | [],cur=>by simp [Mb]
 | c::r,cur=>by
  simp only [Mb]
  split
  · have:=aJ d r []
    refine ⟨by simp;omega,fun w hw=>?_⟩
    rcases List.mem_cons.1 hw with rfl | hw
    · omega
    · have:=this.2 w hw;simp at this ⊢;omega
  · have:=aJ d r (cur++[c])
    refine ⟨by simp;omega,fun w hw=>?_⟩
    have:=this.2 w hw;simp at this ⊢;omega
theorem nx {q:Sq BA} {s:BA} {d:Int} (h:sqL bs q=Mb d [] (bs s)):q.n≤s.size+1∧∀ i,i<q.n→(q.at' i).size≤s.size:=by
 have h0:=aJ d (bs s) []
 rw [za,←h,Gd] at h0
 refine ⟨h0.1,fun i hi=>?_⟩
 have:=h0.2 (bs (q.at' i)) (List.mem_of_getElem? (wo hi))
 rw [za] at this
 simpa using this
theorem NM (n:Nat) (s:BA) (hs:s.size≤1000000) (hn:10000000≤n):zt n s=some (Yh (Mb 46 [] (bs s))):=by
 obtain ⟨q,h1,h2⟩:=sP n s 46 hs hn
 obtain ⟨h3,h4⟩:=nx h2
 have h:=AS n q hn (by omega) (fun i hi=>Nat.le_trans (h4 i hi) hs) _ 0 n rfl (by rw [List.drop_zero,Gd];omega) (by omega)
 rw [show ((0:Nat):Int)=0 from rfl,List.drop_zero,h2] at h
 unfold zt JB
 rw [h1,Option.bind_some,h,Option.bind_some]
 cases Yh (Mb 46 [] (bs s))<;>rfl
theorem IT (d:Int):∀ (r cur:List Int),cur.all JV=false→Yh (Mb d cur r)=false
 | [],cur,h=>by simp [Mb,Yh,h]
 | c::r,cur,h=>by
  simp only [Mb]
  split
  · unfold Yh;rw [List.all_cons,h];simp
  · exact IT d r (cur++[c]) (by rw [List.all_append,h];rfl)
theorem iR:∀ (r cur:List Int),cur.all JV=true→Yh (Mb 46 cur r)=pl cur.length r
 | [],cur,h=>by
  simp only [Mb,pl,Yh,List.all_cons,List.all_nil,h]
  cases cur<;>simp
 | c::r,cur,h=>by
  simp only [Mb,pl]
  split
  · rw [show Yh (cur::Mb 46 [] r)=((!cur.isEmpty&&cur.all JV)&&Yh (Mb 46 [] r)) from rfl,iR r [] rfl,h]
    cases cur<;>simp
  · split
    · rename_i ha
      rw [iR r (cur++[c]) (by rw [List.all_append,h];simp [ha])]
      simp
    · rename_i ha
      exact IT 46 r _ (by rw [List.all_append];simp [ha])
theorem uI (l:List Int):Yh (Mb 46 [] l)=pl 0 l:=iR l [] rfl
open Go
def dig (c:Int):Bool:=decide (48≤c)&&decide (c≤57)
def ET:Int→List Int→Int
 | n,[]=>n
 | n,c::r=>ET (10*n+(c - 48)) r
def okR (w:List Int):Bool:=!w.isEmpty&&decide (w.length≤16)&&!(decide (1<w.length)&&decide (w.head?=some 48))&&w.all dig&&decide (ET 0 w≤255)
def dd3 (u:Nat):List UInt8:=if u<10 then [UInt8.ofNat (48+u)] else if u<100 then [UInt8.ofNat (48+u / 10),UInt8.ofNat (48+u%10)] else [UInt8.ofNat (48+u / 100),UInt8.ofNat (48+u / 10%10),UInt8.ofNat (48+u%10)]
theorem M3 {u:Nat} (h:u<1000):Lib.decDigits u=dd3 u:=by
 unfold dd3
 split
 · rename_i h1;rw [Lib.decDigits_one h1]
 · rename_i h1
   split
   · rename_i h2;rw [Lib.decDigits_two h1 h2]
   · rename_i h2
     rw [Lib.decDigits,dif_neg h1,Lib.decDigits_two (by omega) (by omega)]
     simp only [List.cons_append,List.nil_append]
     congr 3
     omega
def nS (l:List UInt8):List Int:=l.map fun c=>(c.toNat:Int)
theorem g7:∀ v:Fin 256,okR (nS (dd3 v.val))=true:=by decide+kernel
theorem ok1:∀ a:Fin 10,okR [48+(a.val:Int)]=true→Lib.atoiAll [UInt8.ofNat (48+a.val)]=.ok (a.val:Int)∧dd3 a.val=[UInt8.ofNat (48+a.val)]:=by decide+kernel
theorem ok2:∀ a b:Fin 10,okR [48+(a.val:Int),48+(b.val:Int)]=true→Lib.atoiAll [UInt8.ofNat (48+a.val),UInt8.ofNat (48+b.val)]=.ok ((10*a.val+b.val:Nat):Int)∧dd3 (10*a.val+b.val)=[UInt8.ofNat (48+a.val),UInt8.ofNat (48+b.val)]:=by decide+kernel
theorem ok3:∀ a b c:Fin 10,okR [48+(a.val:Int),48+(b.val:Int),48+(c.val:Int)]=true→
  100*a.val+10*b.val+c.val<256∧Lib.atoiAll [UInt8.ofNat (48+a.val),UInt8.ofNat (48+b.val),UInt8.ofNat (48+c.val)]=.ok ((100*a.val+10*b.val+c.val:Nat):Int)∧dd3 (100*a.val+10*b.val+c.val)=[UInt8.ofNat (48+a.val),UInt8.ofNat (48+b.val),UInt8.ofNat (48+c.val)]:=by decide+kernel
theorem VZ:∀ (r:List Int) (n:Int),0≤n→r.all dig=true→n≤ET n r∧(∀ m:Int,m≤n→0≤m→∀ k,k≤r.length→m*10^k≤ET n r)
 | [],n,h,_=>⟨by simp [ET],fun m hm h0 k hk=>by
  have:k=0:=by simpa using hk
  subst this;simpa [ET] using hm⟩
 | c::r,n,h,hd=>by
  simp only [List.all_cons,Bool.and_eq_true] at hd
  have hc:48≤c∧c≤57:=by simpa [dig] using hd.1
  have ih:=VZ r (10*n+(c - 48)) (by omega) hd.2
  simp only [ET]
  refine ⟨by have:=ih.1;omega,fun m hm h0 k hk=>?_⟩
  cases k with
  | zero=>have:=ih.1;simp;omega
  | succ k=>
   have:=ih.2 (10*m) (by omega) (by omega) k (by simpa using hk)
   rw [Int.pow_succ]
   have e:m*(10^k*10)=10*m*10^k:=by
    rw [Int.mul_comm (10^k) 10,←Int.mul_assoc,Int.mul_comm m 10]
   rw [e];exact this
def okP (l:List UInt8):Bool:=match Lib.atoiAll l with
 | .ok v=>decide (0≤v)&&decide (v≤255)&&decide (Lib.itoa v=l)
 | _=>false
theorem fI {c:Int} (h:dig c=true):∃ a:Fin 10,c=48+(a.val:Int):=by
 have hc:48≤c∧c≤57:=by simpa [dig] using h
 exact ⟨⟨(c - 48).toNat,by omega⟩,by simp;omega⟩
theorem uU:∀ {l:List UInt8} {l':List UInt8},nS l=nS l'→l=l':=fun h=>UK h
theorem OP (a:Fin 10):((UInt8.ofNat (48+a.val)).toNat:Int)=48+(a.val:Int):=by
 have:=a.isLt
 simp [UInt8.toNat_ofNat']
 omega
theorem oZ {l:List UInt8} {v:Nat} (hv:v<256) (h1:Lib.atoiAll l=.ok (v:Int)) (h2:dd3 v=l):okP l=true:=by
 unfold okP
 rw [h1]
 have:Lib.itoa (v:Int)=l:=by
  unfold Lib.itoa
  rw [if_neg (by omega)]
  rw [Int.toNat_natCast,M3 (by omega),h2]
 simp [this]
 omega
theorem F7 (l:List UInt8):okP l=okR (nS l):=by
 apply Bool.eq_iff_iff.2
 constructor
 · intro h
   unfold okP at h
   split at h
   · rename_i v hv
     simp only [Bool.and_eq_true,decide_eq_true_eq] at h
     obtain ⟨⟨h0,h1⟩,h2⟩:=h
     obtain ⟨u,rfl⟩:∃ u:Nat,v=(u:Int):=⟨v.toNat,by omega⟩
     have e:l=dd3 u:=by
      rw [←h2,Lib.itoa,if_neg (by omega),Int.toNat_natCast,M3 (by omega)]
     rw [e]
     exact g7 ⟨u,by omega⟩
   · cases h
 · intro h
   have h':=h
   unfold okR at h'
   simp only [Bool.and_eq_true,Bool.not_eq_true',decide_eq_true_eq] at h'
   obtain ⟨⟨⟨⟨h1,h2⟩,h3⟩,h4⟩,h5⟩:=h'
   rcases hl:l with _ | ⟨a,_ | ⟨b,_ | ⟨c,_ | ⟨d,r⟩⟩⟩⟩
   · subst hl;simp [nS] at h1
   · subst hl
     simp only [nS,List.map_cons,List.map_nil,List.all_cons,List.all_nil,Bool.and_true] at h4
     obtain ⟨x,hx⟩:=fI h4
     have ea:[a]=[UInt8.ofNat (48+x.val)]:=uU (by simp only [nS,List.map_cons,List.map_nil,OP,hx])
     have ho:okR [48+(x.val:Int)]=true:=by simpa [nS,hx] using h
     obtain ⟨p1,p2⟩:=ok1 x ho
     rw [ea]
     exact oZ (by have:=x.isLt;omega) p1 p2
   · subst hl
     simp only [nS,List.map_cons,List.map_nil,List.all_cons,List.all_nil,Bool.and_true,Bool.and_eq_true] at h4
     obtain ⟨x,hx⟩:=fI h4.1
     obtain ⟨y,hy⟩:=fI h4.2
     have ea:[a,b]=[UInt8.ofNat (48+x.val),UInt8.ofNat (48+y.val)]:=uU (by simp only [nS,List.map_cons,List.map_nil,OP,hx,hy])
     have ho:okR [48+(x.val:Int),48+(y.val:Int)]=true:=by simpa [nS,hx,hy] using h
     obtain ⟨p1,p2⟩:=ok2 x y ho
     rw [ea]
     exact oZ (by have:=x.isLt;have:=y.isLt;omega) p1 p2
   · subst hl
     simp only [nS,List.map_cons,List.map_nil,List.all_cons,List.all_nil,Bool.and_true,Bool.and_eq_true] at h4
     obtain ⟨x,hx⟩:=fI h4.1
     obtain ⟨y,hy⟩:=fI h4.2.1
     obtain ⟨z,hz⟩:=fI h4.2.2
     have ea:[a,b,c]=[UInt8.ofNat (48+x.val),UInt8.ofNat (48+y.val),UInt8.ofNat (48+z.val)]:=uU (by simp only [nS,List.map_cons,List.map_nil,OP,hx,hy,hz])
     have ho:okR [48+(x.val:Int),48+(y.val:Int),48+(z.val:Int)]=true:=by simpa [nS,hx,hy,hz] using h
     obtain ⟨p0,p1,p2⟩:=ok3 x y z ho
     rw [ea]
     exact oZ p0 p1 p2
   · exfalso
     subst hl
     simp only [nS,List.map_cons,List.length_cons,List.head?_cons,List.all_cons,Bool.and_eq_true] at h3 h4 h5
     have hne:(a.toNat:Int)≠48:=fun e=>by simp [e] at h3
     have ha:48≤(a.toNat:Int)∧(a.toNat:Int)≤57:=by simpa [dig] using h4.1
     simp only [ET] at h5
     have hd:=h4.2
     have hb:48≤(b.toNat:Int)∧(b.toNat:Int)≤57:=by simpa [dig] using hd.1
     have hc:48≤(c.toNat:Int)∧(c.toNat:Int)≤57:=by simpa [dig] using hd.2.1
     have hdd:48≤(d.toNat:Int)∧(d.toNat:Int)≤57:=by simpa [dig] using hd.2.2.1
     have:=(VZ (List.map (fun c:UInt8=>(c.toNat:Int)) r) (10*(10*(10*(10*0+((a.toNat:Int) - 48))+((b.toNat:Int) - 48))+((c.toNat:Int) - 48))+((d.toNat:Int) - 48)) (by omega) hd.2.2.2).1
     omega
theorem wr8 {x:Int} (h1:0≤x) (h2:x<256):IntKind.wrap .u8 x=x:=by
 unfold IntKind.wrap
 simp only [IntKind.bits,IntKind.signed]
 simp
 omega
def D3 (n:Int) (r:List Int):Lx Int (Int×Bool):=if r.all dig=true then .out (ET n r) else .ret (0,false)
theorem IV (n:Nat) (s:BA) (hs:s.size≤16):∀ (r:List Int) (k m:Nat) (v:Int),(bs s).drop k=r→k≤s.size→r.length<m→0≤v→v<10^k→Ec n m s v k=some (D3 v r)
 | [],k,m,v,h,hk,hm,h0,hv=>by
  obtain ⟨m,rfl⟩:∃ q,m=q+1:=⟨m - 1,by simp at hm;omega⟩
  have:=yo h
  simp [Ec,Nh,this,D3,ET]
 | c::r,k,m,v,h,hk,hm,h0,hv=>by
  obtain ⟨m,rfl⟩:∃ q,m=q+1:=⟨m - 1,by simp at hm;omega⟩
  obtain ⟨h1,h2,h3,h4,h5⟩:=Ah h
  have e1:=wr1 (k:=k) (by omega)
  have a3:(0:Int)≤(k:Int):=by omega
  have hp:(10:Int)^k≤10^16:=by
   have:(10:Nat)^k≤10^16:=Nat.pow_le_pow_right (by decide) (by omega)
   exact_mod_cast this
  have hp2:(10:Int)^16=10000000000000000:=by decide
  by_cases hd:dig c=true
  · have hc:48≤c∧c≤57:=by simpa [dig] using hd
    have ih:=IV n s hs r (k+1) m (10*v+(c - 48)) h3 (by omega) (by simpa using hm) (by omega) (by rw [Int.pow_succ];omega)
    have b1:¬c<48:=by omega
    have b2:¬c>57:=by omega
    have w1:=wr8 (x:=c - 48) (by omega) (by omega)
    have w2:=wr (x:=c - 48) (by omega) (by omega)
    have w3:=wr (x:=10*v) (by omega) (by omega)
    have w4:=wr (x:=10*v+(c - 48)) (by omega) (by omega)
    simp only [Ec,Nh,h1,h2,a3,e1,b1,b2,w1,w2,w3,w4]
    have:D3 v (c::r)=D3 (10*v+(c - 48)) r:=by simp only [D3,List.all_cons,hd,Bool.true_and,ET]
    rw [this]
    simpa using ih
  · have:D3 v (c::r)=.ret (0,false):=by simp only [D3,List.all_cons,hd,Bool.false_and];simp
    rw [this]
    by_cases b1:c<48
    · simp [Ec,Nh,h1,h2,a3,b1]
    · have b2:c>57:=by simp [dig] at hd;omega
      simp [Ec,Nh,h1,h2,a3,b1,b2]
def okV (w:List Int):Bool:=!w.isEmpty&&decide (w.length≤16)&&!(decide (1<w.length)&&decide (w.head?=some 48))&&w.all dig
theorem N0 (n:Nat) (s:BA) (hn:10000000≤n):DB n s=some (if okV (bs s)=true then (ET 0 (bs s),true,()) else (0,false,())):=by
 unfold DB EB okV
 rw [ws,show bs (⟨#[]⟩:BA)=[] from rfl]
 have hlen:=za s
 by_cases he:bs s=[]
 · simp [he]
 · by_cases h16:s.size≤16
   · have hL:=IV n s h16 (bs s) 0 n 0 (by simp) (by omega) (by rw [hlen];omega) (by omega) (by simp)
     rw [show ((0:Nat):Int)=0 from rfl] at hL
     rw [hL]
     have hX:((some (D3 0 (bs s))).bind fun x_4=>onL x_4 (fun a_5=>some (a_5,(true,()))) (fun a_6=>some (a_6.1,(a_6.2,()))) (fun _=>none))=some (if (bs s).all dig=true then (ET 0 (bs s),true,()) else (0,false,())):=by
      unfold D3
      cases (bs s).all dig<;>rfl
     rw [hX]
     have hne:(bs s).isEmpty=false:=by cases hb:bs s with
      | nil=>exact absurd hb he
      | cons _ _=>rfl
     have g16:¬((s.size:Int)>16):=by omega
     rw [hlen]
     by_cases h1:1<s.size
     · obtain ⟨c,r,hcr⟩:∃ c r,bs s=c::r:=by cases hb:bs s with
        | nil=>exact absurd hb he
        | cons c r=>exact ⟨c,r,rfl⟩
       have hb0:bt s ((0:Nat):Int)=c:=iU (by rw [hcr];rfl)
       rw [show ((0:Nat):Int)=0 from rfl] at hb0
       have g1:(s.size:Int)>1:=by omega
       have g2:(0:Int)<(s.size:Int):=by omega
       simp only [he,g16,g1,g2,hb0,hne,h1,h16]
       by_cases h48:c=48
       · subst h48;simp [hcr]
       · have:(c==48)=false:=by simpa using h48
         simp [hcr,h48,this]
     · have g1:¬((s.size:Int)>1):=by omega
       simp [he,g16,g1,hne,h1,h16]
   · have g16:(s.size:Int)>16:=by omega
     have:¬(bs s).length≤16:=by omega
     simp [he,g16,this]
theorem S8 (w:List Int):okR w=(okV w&&decide (ET 0 w≤255)):=rfl
open Go
theorem cW:∀ (l:List UInt8) (k:Int),gY l [46] k=if idx 46 (l.map fun c=>(c.toNat:Int))= -1 then -1 else idx 46 (l.map fun c=>(c.toNat:Int))+k
 | [],k=>by simp [gY,idx]
 | b::l,k=>by
  have ih:=cW l (k+1)
  have hge:=(Jq (c:=46) (l.map fun c=>(c.toNat:Int))).2
  unfold gY
  by_cases h:b=46
  · subst h
    have e:idx 46 (((46:UInt8)::l).map fun c=>(c.toNat:Int))=0:=by simp [idx]
    rw [e];simp
  · have h1:¬((b.toNat:Int)=46):=fun e=>h (by
     have:b.toNat=(46:UInt8).toNat:=by show b.toNat=46;omega
     exact UInt8.toNat_inj.1 this)
    have h2:(List.isPrefixOf [(46:UInt8)] (b::l))=false:=by
     simp only [List.isPrefixOf,Bool.and_true]
     simpa using fun e=>h e.symm
    rw [if_neg (by rw [h2];simp),ih,List.map_cons]
    by_cases h3:idx 46 (l.map fun c=>(c.toNat:Int))= -1
    · have e:idx 46 ((b.toNat:Int)::l.map fun c=>(c.toNat:Int))= -1:=by simp only [idx,h1,if_false,h3,if_true]
      rw [e,h3];simp
    · have e:idx 46 ((b.toNat:Int)::l.map fun c=>(c.toNat:Int))=idx 46 (l.map fun c=>(c.toNat:Int))+1:=by simp only [idx,h1,if_false,h3]
      rw [e,if_neg h3,if_neg (by omega)];omega
theorem EV (n:Nat) (s:BA) (hs:s.size≤1000000):qn n s Dom.dot=some (idx 46 (bs s)):=by
 unfold qn RB lD
 rw [if_pos (by omega),Option.bind_some]
 congr 1
 have h:=cW s.data.toList 0
 rw [Int.add_zero] at h
 show gY s.data.toList [46] 0=_
 rw [h]
 unfold bs
 split
 · rename_i h1;exact h1.symm
 · rfl
theorem OB (d:Int):∀ (l cur:List Int),Mb d cur l=if idx d l= -1 then [cur++l] else (cur++l.take (idx d l).toNat)::Mb d [] (l.drop ((idx d l).toNat+1))
 | [],cur=>by simp [Mb,idx]
 | c::l,cur=>by
  have ih:=OB d l (cur++[c])
  have hge:=(Jq (c:=d) l).2
  by_cases h:c=d
  · have e:idx d (c::l)=0:=by simp [idx,h]
    simp [Mb,h,e]
    simp [idx]
  · by_cases h2:idx d l= -1
    · have e:idx d (c::l)= -1:=by simp [idx,h,h2]
      simp [Mb,h,e,ih,h2]
    · have e:idx d (c::l)=idx d l+1:=by simp [idx,h,h2]
      have e2:(idx d l+1).toNat=(idx d l).toNat+1:=by omega
      have e3:¬(idx d l+1= -1):=by omega
      simp only [Mb,h,e,ih,h2,e2,e3,if_false]
      simp
theorem kS (d:Int):∀ (l:List Int),idx d l<l.length∧(idx d l= -1→l.count d=0)∧(idx d l≠ -1→l.count d=(l.drop ((idx d l).toNat+1)).count d+1)
 | []=>by simp [idx]
 | c::l=>by
  have ih:=kS d l
  have hge:=(Jq (c:=d) l).2
  simp only [idx]
  by_cases h:c=d
  · first | (simp [h];done) | (simp [h];omega)
  · rw [if_neg h]
    have hc:(c==d)=false:=by simpa using h
    by_cases h2:idx d l= -1
    · have:=ih.2.1 h2
      simp [h2,List.count_cons,this,hc]
      omega
    · rw [if_neg h2]
      have e:(idx d l+1).toNat=(idx d l).toNat+1:=by omega
      have:=ih.2.2 h2
      refine ⟨by simp;omega,fun h=>by omega,fun _=>?_⟩
      rw [e,List.count_cons,this]
      simp [hc]
theorem DL (n:Nat) (N:Nat) (hN:N≤1000000):∀ (c i m:Nat) (s:BA) (a:Sq BA),s.size≤1000000→(bs s).count 46=c→i+c=N→a.n=N+1→c<m→
  ∃ s' a',Ob n m s Dom.dot 0 N i a=some (.out (s',(N:Int),a'))∧a'.n=N+1∧(∀ j,j<i→a'.at' j=a.at' j)∧
   ∃ P:List (List Int),Mb 46 [] (bs s)=P++[bs s']∧P.length=c∧∀ j w,P[j]?=some w→bs (a'.at' (i+j))=w
 | 0,i,m,s,a,hs,hc,hi,ha,hm=>by
  obtain ⟨m,rfl⟩:∃ q,m=q+1:=⟨m - 1,by omega⟩
  have hiN:i=N:=by omega
  subst hiN
  refine ⟨s,a,?_,ha,fun _ _=>rfl,[],?_,rfl,fun j w h=>by simp at h⟩
  · simp [Ob,dh]
  · have hx:idx 46 (bs s)= -1:=by
     have:=kS 46 (bs s)
     have hge:=(Jq (c:=46) (bs s)).2
     refine Classical.byContradiction fun h=>?_
     have:=this.2.2 h
     omega
    rw [OB,if_pos hx];rfl
 | c+1,i,m,s,a,hs,hc,hi,ha,hm=>by
  obtain ⟨m,rfl⟩:∃ q,m=q+1:=⟨m - 1,by omega⟩
  have hlt:=kS 46 (bs s)
  have hge:=(Jq (c:=46) (bs s)).2
  have hx:idx 46 (bs s)≠ -1:=fun h=>by have:=hlt.2.1 h;omega
  obtain ⟨k,hk⟩:∃ k:Nat,idx 46 (bs s)=(k:Int):=⟨(idx 46 (bs s)).toNat,by omega⟩
  have hks:k<s.size:=by have:=hlt.1;rw [za] at this;omega
  have hcount:=hlt.2.2 hx
  rw [hk,Int.toNat_natCast,hc] at hcount
  have hbe:bs (s.extract (k+1) s.size)=(bs s).drop (k+1):=by
   rw [Tg,←za,List.take_length]
  have hsz:(s.extract (k+1) s.size).size≤1000000:=by
   rw [←za,hbe,List.length_drop,za];omega
  obtain ⟨s',a',h1,h2,h3,P,h4,h5,h6⟩:=DL n N hN c (i+1) m (s.extract (k+1) s.size)
   (⟨a.n,fun q=>if q=i∧q<a.n then s.extract 0 k else a.at' q⟩:Sq BA) hsz (by rw [hbe];omega) (by omega) ha (by omega)
  refine ⟨s',a',?_,h2,fun j hj=>?_,(bs s).take k::P,?_,by simp [h5],fun j w hw=>?_⟩
  · have a1:(i:Int)<(N:Int):=by omega
    have a2:¬((k:Int)<0):=by omega
    have a3:(0:Int)≤(i:Int):=by omega
    have a4:(i:Int)<(a.n:Int):=by omega
    have a5:(0:Int)≤(k:Int):=by omega
    have a6:(k:Int)≤(s.size:Int):=by omega
    have e0:IntKind.wrap .i64 ((k:Int)+0)=(k:Int):=by rw [Int.add_zero];exact wr (by omega) (by omega)
    have e1:(Dom.dot.size:Int)=1:=rfl
    have e2:=wr1 (k:=k) (by omega)
    have e3:=wr1 (k:=i) (by omega)
    have a7:(0:Int)≤((k+1:Nat):Int):=by omega
    have a8:((k+1:Nat):Int)≤(s.size:Int):=by omega
    simp only [Ob,dh,EV n s hs,hk,a1,a2,a3,a4,a5,a6,e0,e1,e2,e3,a7,a8,Int.toNat_natCast]
    have e0':IntKind.wrap .i64 (k:Int)=(k:Int):=wr (by omega) (by omega)
    have e2':IntKind.wrap .i64 ((k:Int)+1)=(k:Int)+1:=e2
    have a7':(0:Int)≤(k:Int)+1:=by omega
    have a8':(k:Int)+1≤(s.size:Int):=by omega
    have e9:((k:Int)+1).toNat=k+1:=by omega
    simpa [a2,a3,a4,a5,a6,e0',e2',a7',a8',e9] using h1
  · rw [h3 j (by omega)]
    simp [show ¬j=i by omega]
  · rw [OB,if_neg hx,hk,Int.toNat_natCast,←hbe,h4];simp
  · cases j with
    | zero=>
     simp at hw
     rw [Nat.add_zero,h3 i (by omega),←hw]
     simp only [show i<a.n by omega,and_self,if_true]
     rw [Tg];simp
    | succ j=>
     have:=h6 j w (by simpa using hw)
     rwa [show i+(j+1)=i+1+j by omega]
theorem P2 (n:Nat) (s:BA) (hs:s.size≤1000000) (hn:10000000≤n):∃ q,SB n s (⟨#[46]⟩:BA)=some q∧sqL bs q=Mb 46 [] (bs s):=by
 have hcl:(bs s).count 46≤s.size:=by rw [←za];exact List.count_le_length
 obtain ⟨c,hc⟩:∃ c,(bs s).count 46=c:=⟨_,rfl⟩
 rw [hc] at hcl
 have hcount:PB n s Dom.dot=some (c:Int):=by
  unfold PB QB
  have e2:bt Dom.dot 0=46:=rfl
  have:=T0 (c:=46) (by decide) (by decide) s.data.toList
  rw [e2,this,show (Dom.dot.size:Int)=1 from rfl,←hc]
  rfl
 obtain ⟨s',a',h1,h2,h3,P,h4,h5,h6⟩:=DL n c (by omega) c 0 n s (⟨c+1,fun _=>(⟨#[]⟩:BA)⟩:Sq BA) hs hc (by omega) rfl (by omega)
 refine ⟨(⟨c+1,fun i=>(fun q=>if q=c∧q<a'.n then s' else a'.at' q) (0+i)⟩:Sq BA),?_,?_⟩
 · have e1:=wr1 (k:=s.size) (by omega)
   have e2:=wr1 (k:=c) (by omega)
   have hif:(if ((s.size+1:Nat):Int)<((c+1:Nat):Int) then ((s.size+1:Nat):Int) else ((c+1:Nat):Int))=((c+1:Nat):Int):=if_neg (by omega)
   have e3:IntKind.wrap .i64 (((c+1:Nat):Int) - 1)=(c:Int):=by rw [wr (by omega) (by omega)];omega
   have f1:=S6 (n:=c) (by omega)
   have f0:(0:Int)≤((c+1:Nat):Int):=by omega
   have f2:(c:Int)<(a'.n:Int):=by omega
   have f3:((c+1:Nat):Int)≤(a'.n:Int):=by omega
   have f4:(0:Int)≤(c:Int):=by omega
   have hne:(decide (bs Dom.dot=bs (⟨#[]⟩:BA)))=false:=by decide
   unfold SB TB ss oq
   rw [show (⟨#[46]⟩:BA)=Dom.dot from rfl,ws,hne,hcount]
   rw [show ((0:Nat):Int)=0 from rfl] at h1
   simp only [Option.bind_some,e1,e2,hif,e3,f1,f0,Int.toNat_natCast,h1,onL,f2,f3,f4]
   simp
 · unfold sqL
   rw [List.range_succ,List.map_append,h4]
   congr 1
   · apply List.ext_getElem?
     intro j
     rw [List.getElem?_map]
     by_cases hj:j<c
     · rw [List.getElem?_range hj,List.getElem?_eq_getElem (by omega)]
       have:=h6 j _ (List.getElem?_eq_getElem (by omega))
       rw [Nat.zero_add] at this
       simp [show ¬j=c by omega,this]
     · rw [List.getElem?_eq_none (by simp;omega),List.getElem?_eq_none (by omega)];rfl
   · simp [show c<a'.n by omega]
theorem d4 (n:Nat) (l:Sq BA) (hl:l.n≤2000000) (hs:∀ i,i<l.n→(l.at' i).size≤1000000):∀ (W:List (List Int)) (i m:Nat),(sqL bs l).drop i=W→W.length<m→i≤l.n→
  tc n m l l l.n i=some (if W.all okR=true then .out l else .ret false)
 | [],i,m,h,hm,hi=>by
  obtain ⟨m,rfl⟩:∃ q,m=q+1:=⟨m - 1,by omega⟩
  have:=YQ h
  have a4:¬((i:Int)<(l.n:Int)):=by omega
  simp [tc,Zh,a4]
 | w::W,i,m,h,hm,hi=>by
  obtain ⟨m,rfl⟩:∃ q,m=q+1:=⟨m - 1,by omega⟩
  obtain ⟨h1,h2,h3⟩:=ZK h
  have e1:=wr1 (k:=i) (by omega)
  have a1:(0:Int)≤(i:Int):=by omega
  have a2:(i:Int)<(l.n:Int):=by omega
  have ih:=d4 n l hl hs W (i+1) m h3 (by simpa using hm) (by omega)
  have hw:=F7 (l.at' i).data.toList
  rw [show nS (l.at' i).data.toList=w from h2] at hw
  have hsz:(l.at' i).size≤281474976710656:=by have:=hs i h1;omega
  simp only [tc,Zh,a1,a2,Int.toNat_natCast,e1,List.all_cons,←hw,P0,hsz]
  unfold okP
  rcases hv:Lib.atoiAll (l.at' i).data.toList with v | _ | _
  · have hb:=Lib.atoiAll_bounds hv
    by_cases g0:v<0
    · have:¬(0≤v):=by omega
      simp [g0,this]
    · by_cases g1:v>255
      · have:¬(v≤255):=by omega
        simp [g0,g1,this]
      · have q0:0≤v:=by omega
        have q1:v≤255:=by omega
        have q2: -9223372036854775808≤v∧v≤9223372036854775807:=⟨by omega,by omega⟩
        have hb:bs (⟨(Lib.itoa v).toArray⟩:BA)=nS (Lib.itoa v):=rfl
        have hdp:bs (⟨(Lib.itoa v).toArray⟩:BA)=bs (l.at' i)↔Lib.itoa v=(l.at' i).data.toList:=⟨fun h=>UK h,fun h=>by rw [hb,h];rfl⟩
        have hd:decide (bs (⟨(Lib.itoa v).toArray⟩:BA)=bs (l.at' i))=decide (Lib.itoa v=(l.at' i).data.toList):=decide_eq_decide.2 hdp
        simp only [g0,g1,q0,q1,VP,q2,ws,hd]
        by_cases hi:Lib.itoa v=(l.at' i).data.toList
        · simpa [hi,q0,q1,q2.1,q2.2] using ih
        · have:¬bs (⟨(Lib.itoa v).toArray⟩:BA)=bs (l.at' i):=fun h=>hi (hdp.1 h)
          simp [hi,q0,q1,q2.1,q2.2,this]
  · simp
  · simp
def Z3 (l:List Int):Bool:=(Mb 46 [] l).all okR&&decide ((Mb 46 [] l).length=4)
theorem iX (n:Nat) (s:BA) (hs:s.size≤1000000) (hn:10000000≤n):mm n s=some (Z3 (bs s)):=by
 obtain ⟨q,h1,h2⟩:=P2 n s hs hn
 obtain ⟨h3,h4⟩:=nx h2
 have h:=d4 n q (by omega) (fun i hi=>Nat.le_trans (h4 i hi) hs) _ 0 n rfl (by rw [List.drop_zero,Gd];omega) (by omega)
 rw [show ((0:Nat):Int)=0 from rfl,List.drop_zero,h2] at h
 unfold mm Rs Z3
 rw [h1,Option.bind_some,h,Option.bind_some,←h2,Gd]
 cases (sqL bs q).all okR
 · rfl
 · by_cases h4:q.n=4
   · simp [onL,h4]
   · have:¬((q.n:Int)=4):=by omega
     simp [onL,h4,this]
theorem KZ (n:Nat) (hn:10000000≤n) (l:Sq BA) (hl:l.n≤2000000):∀ (W:List (List Int)) (i m:Nat),(sqL bs l).drop i=W→W.length<m→i≤l.n→
  Fc n m l i=some (if W.all okR=true then .out l else .ret false)
 | [],i,m,h,hm,hi=>by
  obtain ⟨m,rfl⟩:∃ q,m=q+1:=⟨m - 1,by omega⟩
  have:=YQ h
  have a4:¬((i:Int)<(l.n:Int)):=by omega
  simp [Fc,fi,a4]
 | w::W,i,m,h,hm,hi=>by
  obtain ⟨m,rfl⟩:∃ q,m=q+1:=⟨m - 1,by omega⟩
  obtain ⟨h1,h2,h3⟩:=ZK h
  have e1:=wr1 (k:=i) (by omega)
  have a1:(0:Int)≤(i:Int):=by omega
  have a2:(i:Int)<(l.n:Int):=by omega
  have ih:=KZ n hn l hl W (i+1) m h3 (by simpa using hm) (by omega)
  simp only [Fc,fi,a1,a2,Int.toNat_natCast,e1,List.all_cons,N0 _ _ hn,h2,S8]
  by_cases hv:okV w=true
  · by_cases g:ET 0 w≤255
    · have:¬(ET 0 w>255):=by omega
      simpa [hv,g,this] using ih
    · have:ET 0 w>255:=by omega
      simp [hv,g,this]
  · simp [hv]
open Go
def qI (l:List Int):List Int:=(l.take (l.length - 1)).drop 1
def A7 (l:List Int):Bool:=decide (2≤l.length)&&decide (l.head?=some 91)&&decide (l.getLast?=some 93)&&Z3 (qI l)
theorem SK (s:BA):bs (s.extract 1 (s.size - 1))=qI (bs s):=by rw [Tg,qI,za]
theorem dg (s:BA) (i j:Nat):(s.extract i j).size≤s.size:=by
 rw [←za,←za,Tg,List.length_drop,List.length_take];omega
theorem ZD {s:BA} (h:0<s.size):∃ c,(bs s).head?=some c∧bt s 0=c:=by
 obtain ⟨c,hc⟩:∃ c,(bs s)[0]?=some c:=⟨_,List.getElem?_eq_getElem (by rw [za];exact h)⟩
 exact ⟨c,by rw [List.head?_eq_getElem?];exact hc,iU (k:=0) hc⟩
theorem xL {s:BA} (h:0<s.size):∃ c,(bs s).getLast?=some c∧bt s ((s.size - 1:Nat):Int)=c:=by
 obtain ⟨c,hc⟩:∃ c,(bs s)[s.size - 1]?=some c:=⟨_,List.getElem?_eq_getElem (by rw [za];omega)⟩
 exact ⟨c,by rw [List.getLast?_eq_getElem?,za];exact hc,iU hc⟩
theorem wrm {k:Nat} (h0:0<k) (h:k<4611686018427387904):IntKind.wrap .i64 ((k:Int) - 1)=((k - 1:Nat):Int):=by
 rw [wr (by omega) (by omega)];omega
theorem dV (n:Nat) (s:BA) (hs:s.size≤1000000) (hn:10000000≤n):uq n s=some (A7 (bs s)):=by
 unfold uq ut A7
 rw [za]
 by_cases h2:2≤s.size
 · obtain ⟨c,hc,hb⟩:=ZD (s:=s) (by omega)
   obtain ⟨d,hd,hb2⟩:=xL (s:=s) (by omega)
   have e1:=wrm (k:=s.size) (by omega) (by omega)
   have a1:¬((s.size:Int)<2):=by omega
   have a2:(0:Int)<(s.size:Int):=by omega
   have a3:(0:Int)≤((s.size - 1:Nat):Int):=by omega
   have a4:((s.size - 1:Nat):Int)<(s.size:Int):=by omega
   have a5:((s.size - 1:Nat):Int)≤(s.size:Int):=by omega
   have a6:(1:Int)≤((s.size - 1:Nat):Int):=by omega
   have hin:(s.extract (Int.toNat (1:Int)) (s.size - 1))=s.extract 1 (s.size - 1):=rfl
   obtain ⟨q,q1,q2⟩:=sP n (s.extract 1 (s.size - 1)) 46 (Nat.le_trans (dg _ _ _) hs) hn
   obtain ⟨q3,q4⟩:=nx q2
   have hq:=dg s 1 (s.size - 1)
   have hL:=KZ n hn q (by omega) _ 0 n rfl (by rw [List.drop_zero,Gd];omega) (by omega)
   rw [show ((0:Nat):Int)=0 from rfl,List.drop_zero,q2,SK] at hL
   simp only [a1,a2,hb,e1,a3,a4,a5,a6,hb2,hc,hd,Int.toNat_natCast,hin,q1,Option.bind_some,hL]
   by_cases g1:c=91
   · by_cases g2:d=93
     · subst g1 g2
       unfold Z3
       have hl4:(Mb 46 [] (qI (bs s))).length=q.n:=by rw [←SK,←q2,Gd]
       rw [hl4]
       by_cases ha:(Mb 46 [] (qI (bs s))).all okR=true
       · by_cases h4:q.n=4
         · simp [onL,ha,h4,h2]
         · have:¬((q.n:Int)=4):=by omega
           simp [onL,ha,h4,this,h2]
       · simp [onL,ha,h2]
     · have:(d !=93)=true:=by simpa using g2
       simp [g1,g2,this]
   · have:(c !=91)=true:=by simpa using g1
     simp [g1,this]
 · have a1:(s.size:Int)<2:=by omega
   simp [a1,h2]
def lch (c:Int):Bool:=sgn c || decide (c=45)
def wU (w:List Int):Bool:=decide (1≤w.length)&&decide (w.length≤63)&&decide (w.head?≠some 45)&&decide (w.getLast?≠some 45)&&w.all lch
theorem O3 (n:Nat) (l:Sq BA) (i:Nat) (w:BA) (hs:w.size≤1000000):∀ (r:List Int) (k m:Nat),(bs w).drop k=r→k≤w.size→r.length<m→
  vd n m l i w k=some (if r.all lch=true then .out (l,(i:Int)) else .ret false)
 | [],k,m,h,hk,hm=>by
  obtain ⟨m,rfl⟩:∃ q,m=q+1:=⟨m - 1,by omega⟩
  have:=yo h
  simp [vd,qk,this]
 | c::r,k,m,h,hk,hm=>by
  obtain ⟨m,rfl⟩:∃ q,m=q+1:=⟨m - 1,by omega⟩
  obtain ⟨h1,h2,h3,h4,h5⟩:=Ah h
  have e1:=wr1 (k:=k) (by omega)
  have a3:(0:Int)≤(k:Int):=by omega
  have ih:=O3 n l i w hs r (k+1) m h3 (by omega) (by simpa using hm)
  simp only [vd,qk,h1,h2,a3,e1,OV,List.all_cons]
  have hl:lch c=((decide (97≤c)&&decide (c≤122)) || (decide (48≤c)&&decide (c≤57)) || decide (c=45)):=rfl
  simp only [hl]
  by_cases b1:97≤c<;>by_cases b2:c≤122<;>by_cases b3:48≤c<;>by_cases b4:c≤57<;>by_cases b5:c=45<;>first
   | (exfalso;omega)
   | (simp [b1,b2,b3,b4,b5];done)
   | (simpa [b1,b2,b3,b4,b5] using ih)
theorem N3 (n:Nat) (hn:10000000≤n) (l:Sq BA) (hl:l.n≤2000000) (hs:∀ i,i<l.n→(l.at' i).size≤1000000):∀ (W:List (List Int)) (i m:Nat),(sqL bs l).drop i=W→W.length<m→i≤l.n→
  ud n m l i=some (if W.all wU=true then .out () else .ret false)
 | [],i,m,h,hm,hi=>by
  obtain ⟨m,rfl⟩:∃ q,m=q+1:=⟨m - 1,by omega⟩
  have:=YQ h
  have a4:¬((i:Int)<(l.n:Int)):=by omega
  simp [ud,nk,a4]
 | w::W,i,m,h,hm,hi=>by
  obtain ⟨m,rfl⟩:∃ q,m=q+1:=⟨m - 1,by omega⟩
  obtain ⟨h1,h2,h3⟩:=ZK h
  have e1:=wr1 (k:=i) (by omega)
  have a1:(0:Int)≤(i:Int):=by omega
  have a2:(i:Int)<(l.n:Int):=by omega
  have ih:=N3 n hn l hl hs W (i+1) m h3 (by simpa using hm) (by omega)
  have hsz:=hs i h1
  have hw:=O3 n l i (l.at' i) hsz (bs (l.at' i)) 0 n (by simp) (by omega) (by rw [za];omega)
  rw [show ((0:Nat):Int)=0 from rfl,h2] at hw
  have hlen:w.length=(l.at' i).size:=by rw [←h2,za]
  simp only [ud,nk,a1,a2,Int.toNat_natCast,hw,e1,List.all_cons]
  have hlab:wU w=(decide (1≤(l.at' i).size)&&decide ((l.at' i).size≤63)&&decide (w.head?≠some 45)&&decide (w.getLast?≠some 45)&&w.all lch):=by unfold wU;rw [hlen]
  simp only [hlab]
  by_cases g1:1≤(l.at' i).size
  · by_cases g2:(l.at' i).size≤63
    · obtain ⟨c,hc,hb⟩:=ZD (s:=l.at' i) (by omega)
      obtain ⟨d,hd,hb2⟩:=xL (s:=l.at' i) (by omega)
      rw [h2] at hc hd
      have e2:=wrm (k:=(l.at' i).size) (by omega) (by omega)
      have b1:¬(((l.at' i).size:Int)<1):=by omega
      have b2:¬(((l.at' i).size:Int)>63):=by omega
      have b3:(0:Int)<((l.at' i).size:Int):=by omega
      have b4:(0:Int)≤(((l.at' i).size - 1:Nat):Int):=by omega
      have b5:(((l.at' i).size - 1:Nat):Int)<((l.at' i).size:Int):=by omega
      simp only [b1,b2,b3,hb,e2,b4,b5,hb2,hc,hd,g1,g2]
      by_cases x1:c=45
      · simp [x1]
      · by_cases x2:d=45
        · simp [x1,x2]
        · by_cases x3:w.all lch=true
          · simp only [x3,if_true,Option.bind_some,onL]
            have e1':IntKind.wrap .i64 ((i:Int)+1)=(i:Int)+1:=e1
            simpa [x1,x2,x3,e1'] using ih
          · simp [x1,x2,x3,onL]
    · have b1:¬(((l.at' i).size:Int)<1):=by omega
      have b2:(((l.at' i).size:Int)>63):=by omega
      simp [b1,b2,g2]
  · have b1:(((l.at' i).size:Int)<1):=by omega
    simp [b1,g1]
def X0 (l:List Int):Bool:=decide (l.length≤255)&&(A7 l || (Mb 46 [] l).all wU)
theorem JX (n:Nat) (s:BA) (hs:s.size≤1000000) (hn:10000000≤n):Nv n s=some (X0 (bs s)):=by
 obtain ⟨q,q1,q2⟩:=sP n s 46 hs hn
 obtain ⟨q3,q4⟩:=nx q2
 have hL:=N3 n hn q (by omega) (fun i hi=>Nat.le_trans (q4 i hi) hs) _ 0 n rfl (by rw [List.drop_zero,Gd];omega) (by omega)
 rw [show ((0:Nat):Int)=0 from rfl,List.drop_zero,q2] at hL
 unfold Nv Rw X0
 rw [za,dV n s hs hn,q1,Option.bind_some,Option.bind_some,hL]
 by_cases g:s.size≤255
 · have:¬((s.size:Int)>255):=by omega
   by_cases h1:A7 (bs s)=true
   · simp [g,this,h1]
   · by_cases h2:(Mb 46 [] (bs s)).all wU=true
     · simp [g,this,h1,h2,onL]
     · simp [g,this,h1,h2,onL]
 · have:((s.size:Int)>255):=by omega
   simp [g,this]
def lbB (L:Nat):Nat→List Int→Bool
 | _,[]=>true
 | i,c::r=>if sgn c=true then lbB L (i+1) r else if c≠45 then false else if i=0 then false else if i=L - 1 then false else lbB L (i+1) r
theorem eW (n:Nat) (s:BA) (hs:s.size≤1000000):∀ (r:List Int) (k m:Nat),(bs s).drop k=r→k≤s.size→r.length<m→Xd n m s s.size k=some (if lbB s.size k r=true then .out s else .ret false)
 | [],k,m,h,hk,hm=>by
  obtain ⟨m,rfl⟩:∃ q,m=q+1:=⟨m - 1,by omega⟩
  have:=yo h
  simp [Xd,km,this,lbB]
 | c::r,k,m,h,hk,hm=>by
  obtain ⟨m,rfl⟩:∃ q,m=q+1:=⟨m - 1,by omega⟩
  obtain ⟨h1,h2,h3,h4,h5⟩:=Ah h
  have e1:=wr1 (k:=k) (by omega)
  have e2:=wrm (k:=s.size) (by omega) (by omega)
  have a3:(0:Int)≤(k:Int):=by omega
  have ih:=eW n s hs r (k+1) m h3 (by omega) (by simpa using hm)
  simp only [Xd,km,h1,h2,a3,e1,e2,OZ,Option.bind_some,lbB]
  by_cases g1:sgn c=true
  · simpa [g1] using ih
  · by_cases g2:c=45
    · have h45:sgn 45=false:=by decide
      by_cases g3:k=0
      · subst g3;simp [g1,g2,h45]
      · have x3:((k:Int)==0)=false:=by simpa using g3
        by_cases g4:k=s.size - 1
        · have:((k:Int)==((s.size - 1:Nat):Int))=true:=by rw [g4];simp
          simp [g1,g2,g3,x3,this,←g4,h45]
        · have:((k:Int)==((s.size - 1:Nat):Int))=false:=by simp only [beq_eq_false_iff_ne];omega
          simpa [g1,g2,g3,g4,x3,this,h45] using ih
    · have:(c !=45)=true:=by simpa using g2
      simp [g1,g2,this]
theorem X3:∀ (r:List Int) (i L:Nat),i+r.length=L→lbB L i r=(r.all lch&&decide (i=0→r.head?≠some 45)&&decide (r.getLast?≠some 45))
 | [],i,L,h=>by simp [lbB]
 | c::r,i,L,h=>by
  simp only [List.length_cons] at h
  have ih:=X3 r (i+1) L (by omega)
  have hlast:(c::r).getLast?=if r=[] then some c else r.getLast?:=by
   cases r with
   | nil=>rfl
   | cons d r=>simp [List.getLast?_cons_cons]
  simp only [lbB,List.all_cons,List.head?_cons,hlast]
  have h45:sgn 45=false:=by decide
  by_cases g2:c=45
  · subst g2
    simp only [h45,lch]
    by_cases g3:i=0
    · subst g3;simp
    · by_cases g4:r=[]
      · subst g4
        have:i=L - 1:=by simp at h;omega
        simp [g3,←this]
      · have:¬i=L - 1:=by
         have:0<r.length:=List.length_pos_iff.2 g4
         omega
        simp [g3,g4,this,ih]
  · by_cases g1:sgn c=true
    · by_cases g4:r=[]
      · subst g4;simp [g1,g2,lch,lbB]
      · simp [g1,g2,g4,lch,ih]
    · simp [g1,g2,lch]
theorem fW (n:Nat) (s:BA) (hs:s.size≤1000000) (hn:10000000≤n):Qs n s=some (wU (bs s)):=by
 have hL:=eW n s hs (bs s) 0 n (by simp) (by omega) (by rw [za];omega)
 rw [show ((0:Nat):Int)=0 from rfl] at hL
 have hx:wU (bs s)=(decide (1≤s.size)&&decide (s.size≤63)&&lbB s.size 0 (bs s)):=by
  rw [X3 (bs s) 0 s.size (by rw [za];omega)]
  unfold wU
  rw [za]
  by_cases g4:(bs s).head?=some 45<;>by_cases g5:(bs s).getLast?=some 45<;>cases decide (1≤s.size)<;>cases decide (s.size≤63)<;>cases (bs s).all lch<;>simp [g4,g5]
 unfold Qs mB
 rw [hL,hx]
 have e1:(decide ((s.size:Int)≥1))=decide (1≤s.size):=by rw [decide_eq_decide];omega
 have e2:(decide ((s.size:Int)≤63))=decide (s.size≤63):=by rw [decide_eq_decide];omega
 cases hb:lbB s.size 0 (bs s)
 · simp [onL]
 · simp only [if_true,Option.bind_some,onL,e1,e2]
   cases decide (1≤s.size)<;>simp
open Go
theorem sn (n:Nat) (s p:BA):Pa n s p=some (decide ((bs s).take p.size=bs p)):=by
 unfold Pa mj Vf Sm
 by_cases h:p.size≤s.size
 · have a1:(s.size:Int)≥(p.size:Int):=by omega
   have a2:(0:Int)≤(p.size:Int):=by omega
   have a3:(p.size:Int)≤(s.size:Int):=by omega
   simp only [a1,a2,a3,ws,Int.toNat_natCast,Tg]
   simp
 · have a1:¬((s.size:Int)≥(p.size:Int)):=by omega
   have:¬(bs s).take p.size=bs p:=fun e=>by
    have:=congrArg List.length e
    rw [List.length_take,za,za] at this
    omega
   simp [a1,this]
theorem V2 {l:List Int} {c:Int}:l.take 1=[c]↔l.head?=some c:=by cases l<;>simp
theorem tk (n:Nat) (s p:BA) {c:Int} (hp:bs p=[c]):Pa n s p=some (decide ((bs s).head?=some c)):=by
 have h1:p.size=1:=by rw [←za,hp];rfl
 rw [sn,h1,hp]
 congr 1
 rw [decide_eq_decide]
 exact V2
theorem dw (n:Nat) (s p:BA) (hs:s.size≤1000000) {c:Int} (hp:bs p=[c]):Mc n s p=some (decide ((bs s).getLast?=some c)):=by
 have h1:p.size=1:=by rw [←za,hp];rfl
 unfold Mc ln zn Tm
 by_cases h:1≤s.size
 · have e1:=wrm (k:=s.size) (by omega) (by omega)
   have a1:(s.size:Int)≥((1:Nat):Int):=by omega
   have a2:(0:Int)≤((s.size - 1:Nat):Int):=by omega
   have a3:((s.size - 1:Nat):Int)≤(s.size:Int):=by omega
   obtain ⟨d,hd,_⟩:=xL (s:=s) (by omega)
   have hx:((bs s).take s.size).drop (s.size - 1)=[d]:=by
    rw [show (bs s).take s.size=bs s by rw [←za,List.take_length]]
    have hl:s.size - 1<(bs s).length:=by rw [za];omega
    rw [List.drop_eq_getElem_cons hl]
    rw [List.getLast?_eq_getElem?,za,List.getElem?_eq_getElem hl] at hd
    rw [Option.some.inj hd,List.drop_eq_nil_of_le (by rw [za];omega)]
   rw [h1] at*
   rw [show ((1:Nat):Int)=1 from rfl] at*
   simp only [a1,e1,a2,a3,ws,Int.toNat_natCast,Tg,hx,hp,hd]
   simp
 · have a1:¬((s.size:Int)≥((1:Nat):Int)):=by omega
   have:(bs s)=[]:=by
    apply List.eq_nil_of_length_eq_zero
    rw [za];omega
   rw [h1]
   simp only [a1,this]
   simp
theorem HY (n:Nat) (hn:10000000≤n):∀ (m:Nat) (s:BA),s.size≤1000000→s.size<m→Dom.domL (fun x=>qn n x Dom.dot) (Qs n) m s=some ((Mb 46 [] (bs s)).all wU)
 | 0,s,hs,hm=>absurd hm (Nat.not_lt_zero _)
 | m+1,s,hs,hm=>by
  have hlt:=kS 46 (bs s)
  have hge:=(Jq (c:=46) (bs s)).2
  rw [Dom.domL]
  simp only [EV n s hs,Option.bind_some]
  rw [OB]
  by_cases hx:idx 46 (bs s)= -1
  · rw [if_pos hx,hx,if_pos (by decide),fW n s hs hn]
    simp
  · obtain ⟨k,hk⟩:∃ k:Nat,idx 46 (bs s)=(k:Int):=⟨(idx 46 (bs s)).toNat,by omega⟩
    have hks:k<s.size:=by have:=hlt.1;rw [za] at this;omega
    have hbe:bs (s.extract (k+1) s.size)=(bs s).drop (k+1):=by rw [Tg,←za,List.take_length]
    have hb0:bs (s.extract 0 k)=(bs s).take k:=by rw [Tg];rfl
    have ih:=HY n hn m (s.extract (k+1) s.size) (Nat.le_trans (dg _ _ _) hs) (by rw [←za,hbe,List.length_drop,za];omega)
    rw [if_neg hx,hk,if_neg (by omega),if_pos ⟨by omega,by omega⟩,Int.toNat_natCast,fW n _ (Nat.le_trans (dg _ _ _) hs) hn,Option.bind_some,ih,hb0,hbe]
    simp only [List.nil_append,List.all_cons]
    cases wU ((bs s).take k)<;>simp
def Z4 (l:List Int):Bool:=if l.head?=some 91 then decide (l.getLast?=some 93)&&Z3 (qI l) else (Mb 46 [] l).all wU&&decide (l.length≤255)
theorem nR (n:Nat) (s:BA):Uf n s=some (decide ((bs s).head?=some 91)):=by
 unfold Uf Om
 rw [tk n s _ (c:=91) rfl];rfl
theorem MT (n:Nat) (s:BA) (hs:s.size≤1000000) (hn:10000000≤n):zj n s=some (Z4 (bs s)):=by
 unfold zj Z4
 rw [nR,Option.bind_some]
 by_cases h:(bs s).head?=some 91
 · rw [if_pos (by simpa using h),if_pos h,dw n s _ hs (c:=93) rfl,Option.bind_some]
   by_cases h2:(bs s).getLast?=some 93
   · have hsz:2≤s.size:=by
      rw [←za]
      cases hb:bs s with
      | nil=>rw [hb] at h;cases h
      | cons c r=>cases r with
       | nil=>rw [hb] at h h2;simp at h h2;omega
       | cons d r=>simp
     rw [if_pos (by simpa using h2),if_pos ⟨by omega,by omega⟩,iX n _ (Nat.le_trans (dg _ _ _) hs) hn,SK]
     simp [h2]
   · rw [if_neg (by simpa using h2)];simp [h2]
 · rw [if_neg (by simpa using h),if_neg h]
   unfold Dom.domT
   rw [HY n hn n s hs (by omega),Option.bind_some]
   have e:(decide ((s.size:Int)≤255))=decide ((bs s).length≤255):=by rw [za,decide_eq_decide];omega
   rw [e]
   cases (Mb 46 [] (bs s)).all wU<;>simp
theorem M5 {w:List Int} (h:okR w=true):w.length≤16:=by
 unfold okR at h
 simp only [Bool.and_eq_true,decide_eq_true_eq] at h
 exact h.1.1.1.2
theorem bJ (d:Int):∀ (r cur:List Int),cur.length+r.length+1=((Mb d cur r).map fun w=>w.length+1).sum
 | [],cur=>by simp [Mb]
 | c::r,cur=>by
  simp only [Mb]
  split
  · have:=bJ d r []
    simp at this ⊢;omega
  · have:=bJ d r (cur++[c])
    simp at this ⊢;omega
theorem M1 {l:List Int} (h:Z3 l=true):l.length≤100:=by
 unfold Z3 at h
 simp only [Bool.and_eq_true,decide_eq_true_eq,List.all_eq_true] at h
 have hs:=bJ 46 l []
 obtain ⟨h1,h2⟩:=h
 have key:∀ W:List (List Int),(∀ w∈W,w.length≤16)→(W.map fun w=>w.length+1).sum≤17*W.length:=fun W=>by
  induction W with
  | nil=>intro _;simp
  | cons w W ih=>
   intro hw
   have a:=hw w List.mem_cons_self
   have b:=ih fun x hx=>hw x (List.mem_cons_of_mem _ hx)
   simp only [List.map_cons,List.sum_cons,List.length_cons];omega
 have:=key _ fun w hw=>M5 (h1 w hw)
 simp at hs
 omega
theorem E5 {w:List Int} (h:w.head?=some 91):wU w=false:=by
 cases w with
 | nil=>cases h
 | cons c r=>
  simp at h;subst h
  have:lch 91=false:=by decide
  simp [wU,this]
theorem VM (d:Int):∀ (r cur:List Int),cur≠[]→∃ w W,Mb d cur r=w::W∧w.head?=cur.head?
 | [],cur,h=>⟨cur,[],rfl,rfl⟩
 | c::r,cur,h=>by
  simp only [Mb]
  split
  · exact ⟨cur,_,rfl,rfl⟩
  · obtain ⟨w,W,h1,h2⟩:=VM d r (cur++[c]) (by simp)
    refine ⟨w,W,h1,h2.trans ?_⟩
    cases cur with
    | nil=>exact absurd rfl h
    | cons x xs=>rfl
theorem PV (l:List Int):Z4 l=X0 l:=by
 unfold Z4 X0 A7
 by_cases h:l.head?=some 91
 · rw [if_pos h]
   have hsp:(Mb 46 [] l).all wU=false:=by
    cases l with
    | nil=>cases h
    | cons c r=>
     simp at h;subst h
     simp only [Mb]
     rw [if_neg (by decide)]
     obtain ⟨w,W,h1,h2⟩:=VM 46 r ([]++[91]) (by simp)
     rw [h1,List.all_cons,E5 (by rw [h2];rfl)];rfl
   rw [hsp]
   by_cases h2:l.getLast?=some 93
   · have hl:2≤l.length:=by
      cases l with
      | nil=>cases h
      | cons c r=>cases r with
       | nil=>simp at h h2;omega
       | cons d r=>simp
     cases hp:Z3 (qI l) with
     | false=>simp [h2]
     | true=>
      have:=M1 hp
      have hle:l.length≤255:=by
       unfold qI at this
       rw [List.length_drop,List.length_take] at this
       omega
      simp [h,h2,hl,hle]
   · simp [h2]
 · rw [if_neg h]
   simp [h,Bool.and_comm]
/-! Small letters. -/
def low (c:Int):Int:=if 65≤c∧c≤90 then c+32 else c
theorem L7 (s:BA):sqL id (⟨s.size,fun q=>bt s q⟩:Sq Int)=bs s:=by
 apply List.ext_getElem?
 intro j
 unfold sqL
 rw [List.getElem?_map]
 by_cases h:j<s.size
 · rw [List.getElem?_range h]
   obtain ⟨c,hc⟩:∃ c,(bs s)[j]?=some c:=⟨_,List.getElem?_eq_getElem (by rw [za];exact h)⟩
   rw [hc]
   simp [iU hc]
 · rw [List.getElem?_eq_none (by simp;omega),List.getElem?_eq_none (by rw [za];omega)];rfl
theorem PZ {b:Sq Int} {k:Nat} {v:Int}:sqL id (⟨b.n,fun q=>if q=k∧q<b.n then v else b.at' q⟩:Sq Int)=(sqL id b).set k v:=by
 apply List.ext_getElem?
 intro j
 unfold sqL
 rw [List.getElem?_map,List.getElem?_set]
 by_cases h:j<b.n
 · rw [List.getElem?_range h]
   by_cases hk:k=j
   · subst hk;simp [h]
   · have:¬j=k:=fun e=>hk e.symm
     simp [hk,this,h]
 · rw [List.getElem?_eq_none (by simp;omega)]
   by_cases hk:k=j
   · subst hk;simp [h]
   · simp [hk,h]
theorem XQ (n:Nat) (t:Nat) (ht:t≤1000000):∀ (r P:List Int) (m:Nat) (b:Sq Int),sqL id b=P++r→b.n=t→(∀ c∈P++r,0≤c∧c<256)→r.length<m→
  ∃ b',uc n m t P.length b=some (.out b')∧sqL id b'=P++r.map low∧b'.n=t
 | [],P,m,b,hb,hbn,hr,hm=>by
  obtain ⟨m,rfl⟩:∃ q,m=q+1:=⟨m - 1,by omega⟩
  have hl:=Gd id b
  rw [hb,List.append_nil,hbn] at hl
  refine ⟨b,?_,by simpa using hb,hbn⟩
  have:¬((P.length:Int)<(t:Int)):=by omega
  simp [uc,zh,this]
 | c::r,P,m,b,hb,hbn,hr,hm=>by
  obtain ⟨m,rfl⟩:∃ q,m=q+1:=⟨m - 1,by omega⟩
  have hl:=Gd id b
  rw [hb,hbn] at hl
  simp at hl
  have hat:b.at' P.length=c:=by
   have h1:=wo (f:=id) (q:=b) (i:=P.length) (by omega)
   rw [hb,List.getElem?_append_right (Nat.le_refl _),Nat.sub_self] at h1
   simpa using h1.symm
  have hc:=hr c (by simp)
  have e1:=wr1 (k:=P.length) (by omega)
  have a1:(P.length:Int)<(t:Int):=by omega
  have a2:(0:Int)≤(P.length:Int):=by omega
  have a3:(P.length:Int)<(b.n:Int):=by omega
  by_cases hlow:65≤c∧c≤90
  · have w1:=wr8 (x:=c+97) (by omega) (by omega)
    have w2:=wr8 (x:=c+97 - 65) (by omega) (by omega)
    obtain ⟨b',h1,h2,h3⟩:=XQ n t ht r (P++[c+32]) m (⟨b.n,fun q=>if q=P.length∧q<b.n then c+97 - 65 else b.at' q⟩:Sq Int)
     (by rw [PZ,hb,List.set_append_right _ _ (Nat.le_refl _),Nat.sub_self,show c+97 - 65=c+32 by omega];simp) hbn
     (fun x hx=>by
      simp only [List.append_assoc,List.mem_append,List.mem_cons,List.mem_nil_iff,or_false,false_or,List.cons_append,List.nil_append] at hx
      rcases hx with h | h | h
      · exact hr x (by simp [h])
      · omega
      · exact hr x (by simp [h])) (by simpa using hm)
    refine ⟨b',?_,by rw [h2];simp [low,hlow],h3⟩
    have b1:c≥65:=hlow.1
    simp only [uc,zh,a1,a2,a3,Int.toNat_natCast,hat,e1,w1,w2,b1,hlow.2]
    simpa using h1
  · obtain ⟨b',h1,h2,h3⟩:=XQ n t ht r (P++[c]) m b (by rw [hb];simp) hbn (fun x hx=>hr x (by simpa using hx)) (by simpa using hm)
    refine ⟨b',?_,by rw [h2];simp [low,hlow],h3⟩
    have h1':uc n m t ((P.length+1:Nat):Int) b=some (.out b'):=by simpa using h1
    by_cases b1:c≥65
    · have b2:¬c≤90:=fun h=>hlow ⟨b1,h⟩
      simp only [uc,zh,a1,a2,a3,Int.toNat_natCast,hat,e1,b1,b2]
      simpa using h1'
    · simp only [uc,zh,a1,a2,a3,Int.toNat_natCast,hat,e1,b1]
      simpa using h1'
theorem gZ {c:Int} (h:0≤c∧c<256):0≤low c∧low c<256:=by unfold low;split<;>omega
theorem O2 (n:Nat) (s:BA) (hs:s.size≤1000000) (hn:10000000≤n):∃ t,Ts n s=some t∧bs t=(bs s).map low:=by
 obtain ⟨b',h1,h2,h3⟩:=XQ n s.size hs (bs s) [] n (⟨s.size,fun q=>bt s q⟩:Sq Int) (L7 s) rfl (fun c hc=>MR (by simpa using hc)) (by rw [za];omega)
 refine ⟨ah b'.n b'.at',?_,?_⟩
 · unfold Ts rB
   rw [show (([]:List Int).length:Int)=0 from rfl] at h1
   rw [h1];rfl
 · rw [sB fun i hi=>?_]
   · have:sqL id b'=(List.range b'.n).map b'.at':=rfl
     rw [←this,h2];rfl
   · have:=wo (f:=id) (q:=b') hi
     rw [h2] at this
     have hm:=List.mem_of_getElem? this
     simp only [List.nil_append,List.mem_map] at hm
     obtain ⟨c,hc,e⟩:=hm
     have:=gZ (MR hc)
     rw [e] at this
     exact this
theorem qP (n:Nat) (t:Nat) (ht:t≤1000000):∀ (r P:List Int) (m:Nat) (b:Sq Int),sqL id b=P++r→b.n=t→(∀ c∈P++r,0≤c∧c<256)→r.length<m→
  ∃ b',Dc n m P.length b=some (.out b')∧sqL id b'=P++r.map low∧b'.n=t
 | [],P,m,b,hb,hbn,hr,hm=>by
  obtain ⟨m,rfl⟩:∃ q,m=q+1:=⟨m - 1,by omega⟩
  have hl:=Gd id b
  rw [hb,List.append_nil] at hl
  refine ⟨b,?_,by simpa using hb,hbn⟩
  have:¬((P.length:Int)<(b.n:Int)):=by omega
  simp [Dc,Mh,this]
 | c::r,P,m,b,hb,hbn,hr,hm=>by
  obtain ⟨m,rfl⟩:∃ q,m=q+1:=⟨m - 1,by omega⟩
  have hl:=Gd id b
  rw [hb,hbn] at hl
  simp at hl
  have hat:b.at' P.length=c:=by
   have h1:=wo (f:=id) (q:=b) (i:=P.length) (by omega)
   rw [hb,List.getElem?_append_right (Nat.le_refl _),Nat.sub_self] at h1
   simpa using h1.symm
  have hc:=hr c (by simp)
  have e1:=wr1 (k:=P.length) (by omega)
  have a2:(0:Int)≤(P.length:Int):=by omega
  have a3:(P.length:Int)<(b.n:Int):=by omega
  by_cases hlow:65≤c∧c≤90
  · have w1:=wr8 (x:=c+32) (by omega) (by omega)
    obtain ⟨b',h1,h2,h3⟩:=qP n t ht r (P++[c+32]) m (⟨b.n,fun q=>if q=P.length∧q<b.n then c+32 else b.at' q⟩:Sq Int)
     (by rw [PZ,hb,List.set_append_right _ _ (Nat.le_refl _),Nat.sub_self];simp) hbn
     (fun x hx=>by
      simp only [List.append_assoc,List.mem_append,List.mem_cons,List.mem_nil_iff,or_false,false_or,List.cons_append,List.nil_append] at hx
      rcases hx with h | h | h
      · exact hr x (by simp [h])
      · omega
      · exact hr x (by simp [h])) (by simpa using hm)
    refine ⟨b',?_,by rw [h2];simp [low,hlow],h3⟩
    have b1:c≥65:=hlow.1
    simp only [Dc,Mh,a2,a3,Int.toNat_natCast,hat,e1,w1,b1,hlow.2]
    simpa using h1
  · obtain ⟨b',h1,h2,h3⟩:=qP n t ht r (P++[c]) m b (by rw [hb];simp) hbn (fun x hx=>hr x (by simpa using hx)) (by simpa using hm)
    refine ⟨b',?_,by rw [h2];simp [low,hlow],h3⟩
    have h1':Dc n m ((P.length+1:Nat):Int) b=some (.out b'):=by simpa using h1
    by_cases b1:c≥65
    · have b2:¬c≤90:=fun h=>hlow ⟨b1,h⟩
      simp only [Dc,Mh,a2,a3,Int.toNat_natCast,hat,e1,b1,b2]
      simpa using h1'
    · simp only [Dc,Mh,a2,a3,Int.toNat_natCast,hat,e1,b1]
      simpa using h1'
theorem L0 (n:Nat) (s:BA) (hs:s.size≤1000000) (hn:10000000≤n):∃ t,xl n s=some t∧bs t=(bs s).map low:=by
 obtain ⟨b',h1,h2,h3⟩:=qP n s.size hs (bs s) [] n (⟨s.size,fun q=>bt s q⟩:Sq Int) (L7 s) rfl (fun c hc=>MR (by simpa using hc)) (by rw [za];omega)
 refine ⟨ah b'.n b'.at',?_,?_⟩
 · unfold xl BB
   rw [show (([]:List Int).length:Int)=0 from rfl] at h1
   rw [h1];rfl
 · rw [sB fun i hi=>?_]
   · have:sqL id b'=(List.range b'.n).map b'.at':=rfl
     rw [←this,h2];rfl
   · have:=wo (f:=id) (q:=b') hi
     rw [h2] at this
     have hm:=List.mem_of_getElem? this
     simp only [List.nil_append,List.mem_map] at hm
     obtain ⟨c,hc,e⟩:=hm
     have:=gZ (MR hc)
     rw [e] at this
     exact this
open Go
def esc:List Int→List Int
 | []=>[]
 | c::r=>if c=34∨c=92 then 92::c::esc r else c::esc r
def okc (c:Int):Bool:=decide (32≤c)&&decide (c≤126)
def qd:List Int→Option (List Int×List Int)
 | []=>none
 | c::r=>if c=34 then some ([],r) else if c=92 then (match r with
   | []=>none
   | d::r'=>if okc d=true then (qd r').map fun x=>(d::x.1,x.2) else none)
  else if okc c=true then (qd r).map fun x=>(c::x.1,x.2) else none
theorem jh (c:Int) (r:List Int):qd (c::r)=if c=34 then some ([],r) else if c=92 then (match r with
   | []=>none
   | d::r'=>if okc d=true then (qd r').map fun x=>(d::x.1,x.2) else none)
  else if okc c=true then (qd r).map fun x=>(c::x.1,x.2) else none:=by
 conv=>lhs;unfold qd
theorem OY:∀ l:List Int,(esc l).length≤2*l.length
 | []=>by simp [esc]
 | c::r=>by
  have:=OY r
  simp only [esc]
  split<;>simp<;>omega
theorem ow (n:Nat) (b:Bool):bc n b=some (if b=true then .ok () else .error 8):=by
 unfold bc EF
 cases b<;>rfl
theorem rR (n:Nat) (c:Int) (r1:Sq Int) (h:r1.n≤4000000):∃ r2,Za n c r1=some (r2,())∧sqL id r2=sqL id r1++[c]∧r2.n=r1.n+1:=by
 refine ⟨_,?_,Ot id r1 c (Aa (.int .u8)),rfl⟩
 unfold Za ji oe mi
 rw [Option.bind_some,if_pos (w5 h)]
theorem rY (n:Nat) (c:Int):∃ r2,Xb n c=some (r2,())∧sqL id r2=[c]∧r2.n=1:=by
 refine ⟨_,rfl,?_,rfl⟩
 show [_]=[c]
 rfl
theorem oY (n:Nat) (r1:Sq Int) (h:r1.n≤4000000) (hr:∀ c∈sqL id r1,0≤c∧c<256):∃ t,Rd n r1=some (t,())∧bs t=sqL id r1:=by
 refine ⟨ah r1.n r1.at',?_,?_⟩
 · unfold Rd bn
   rw [if_pos ⟨rfl,by omega⟩]
 · exact sB (f:=r1.at') fun i hi=>hr _ (List.mem_of_getElem? (wo (f:=id) hi))
theorem map_none {α β:Type} {f:α→β} {x:Option α} (h:x.map f=none):x=none:=by cases x with
 | none=>rfl
 | some _=>cases h
theorem oG (n:Nat) (s:BA) (hs:s.size≤1000000):∀ (N:Nat) (r:List Int) (k m:Nat) (r1:Sq Int),r.length≤N→(bs s).drop k=r→k≤s.size→r1.n≤k→(∀ c∈sqL id r1,0≤c∧c<256)→r.length<m→
  match qd r with
  | none=>Ja n m s k r1=some (.pan 8)
  | some (mean,rest)=>∃ t1 t2,Ja n m s k r1=some (.ret (t1,t2))∧bs t1=sqL id r1++mean∧bs t2=rest
 | N,[],k,m,r1,hN,h,hk,hr1,hb,hm=>by
  obtain ⟨m,rfl⟩:∃ q,m=q+1:=⟨m - 1,by omega⟩
  have:=yo h
  simp only [qd]
  simp [Ja,fc,this,ow,onX]
 | 0,c::r,k,m,r1,hN,_,_,_,_,_=>by simp at hN
 | N+1,c::r,k,m,r1,hN,h,hk,hr1,hb,hm=>by
  obtain ⟨m,rfl⟩:∃ q,m=q+1:=⟨m - 1,by omega⟩
  obtain ⟨h1,h2,h3,h4,h5⟩:=Ah h
  have e1:=wr1 (k:=k) (by omega)
  have a1:(0:Int)≤(k:Int):=by omega
  have a2:(0:Int)≤((k+1:Nat):Int):=by omega
  have a3:((k+1:Nat):Int)≤(s.size:Int):=by omega
  have hm':(bc n true)=some (.ok ()):=ow n true
  have hm2:(bc n false)=some (.error 8):=ow n false
  have hd1:decide ((k:Int)<(s.size:Int))=true:=decide_eq_true h1
  by_cases g1:c=34
  · subst g1
    obtain ⟨t,ht,htb⟩:=oY n r1 (by omega) hb
    have hq:qd (34::r)=some ([],r):=by rw [jh];rfl
    rw [hq]
    refine ⟨t,s.extract (k+1) s.size,?_,by rw [htb,List.append_nil],by rw [Tg,show (bs s).take s.size=bs s by rw [←za,List.take_length]];exact h3⟩
    simp only [Ja,fc,hd1,decide_true,decide_false,hm',h1,h2,a1,e1,a2,a3,ht,Option.bind_some,onX,Int.toNat_natCast]
    simp
  · have g1':(c==34)=false:=by simpa using g1
    by_cases g2:c=92
    · subst g2
      cases r with
      | nil=>
       have hq:qd [92]=none:=by rw [jh];rfl
       rw [hq]
       have hn:=yo h3
       have hd2:decide (((k+1:Nat):Int)<(s.size:Int))=false:=decide_eq_false hn
       simp only [Ja,fc,hd1,decide_true,decide_false,hm',h1,h2,a1,e1,hd2,hm2,Option.bind_some,onX]
       simp
      | cons d r=>
       obtain ⟨i1,i2,i3,i4,i5⟩:=Ah h3
       have e2:=wr1 (k:=k+1) (by omega)
       have hd2:decide (((k+1:Nat):Int)<(s.size:Int))=true:=decide_eq_true i1
       have hq:qd (92::d::r)=if okc d=true then (qd r).map fun x=>(d::x.1,x.2) else none:=by rw [jh];rfl
       rw [hq]
       by_cases g3:okc d=true
       · have hdd:32≤d∧d≤126:=by simpa [okc] using g3
         obtain ⟨r2,w1,w2,w3⟩:=rR n d r1 (by omega)
         have ih:=oG n s hs N r (k+2) m r2 (by simp at hN;omega) (by rw [←i3]) (by omega) (by omega) (fun x hx=>by
          rw [w2] at hx
          rcases List.mem_append.1 hx with hx | hx
          · exact hb x hx
          · simp at hx;subst hx;omega) (by simp at hm;omega)
         have b1:decide (d≥32)=true:=decide_eq_true hdd.1
         have b2:decide (d≤126)=true:=decide_eq_true hdd.2
         have hstep:Ja n (m+1) s k r1=Ja n m s ((k+1+1:Nat):Int) r2:=by
          simp only [Ja,fc,hd1,decide_true,decide_false,hm',h1,h2,a1,e1,hd2,i1,i2,a2,b1,b2,w1,e2,Option.bind_some,onX]
          simp
         rw [hstep,if_pos g3]
         cases hqr:qd r with
         | none=>rw [hqr] at ih;exact ih
         | some x=>
          rw [hqr] at ih
          obtain ⟨t1,t2,j1,j2,j3⟩:=ih
          exact ⟨t1,t2,j1,by rw [j2,w2];simp,j3⟩
       · rw [if_neg g3]
         by_cases b1:d≥32
         · have b2:¬d≤126:=fun hb=>g3 (by simp [okc];omega)
           have b1':decide (d≥32)=true:=decide_eq_true b1
           have b2':decide (d≤126)=false:=decide_eq_false b2
           simp only [Ja,fc,hd1,decide_true,decide_false,hm',h1,h2,a1,e1,hd2,i1,i2,a2,b1',b2',hm2,Option.bind_some,onX]
           simp
         · have b1':decide (d≥32)=false:=decide_eq_false b1
           simp only [Ja,fc,hd1,decide_true,decide_false,hm',h1,h2,a1,e1,hd2,i1,i2,a2,b1',hm2,Option.bind_some,onX]
           simp
    · have g2':(c==92)=false:=by simpa using g2
      have hq:qd (c::r)=if okc c=true then (qd r).map fun x=>(c::x.1,x.2) else none:=by rw [jh,if_neg g1,if_neg g2]
      rw [hq]
      by_cases g3:okc c=true
      · have hdd:32≤c∧c≤126:=by simpa [okc] using g3
        obtain ⟨r2,w1,w2,w3⟩:=rR n c r1 (by omega)
        have ih:=oG n s hs N r (k+1) m r2 (by simp at hN;omega) h3 (by omega) (by omega) (fun x hx=>by
         rw [w2] at hx
         rcases List.mem_append.1 hx with hx | hx
         · exact hb x hx
         · simp at hx;subst hx;omega) (by simp at hm;omega)
        have b1:decide (c≥32)=true:=decide_eq_true hdd.1
        have b2:decide (c≤126)=true:=decide_eq_true hdd.2
        have hstep:Ja n (m+1) s k r1=Ja n m s ((k+1:Nat):Int) r2:=by
         simp only [Ja,fc,hd1,decide_true,decide_false,hm',h1,h2,a1,e1,g1',g2',b1,b2,w1,Option.bind_some,onX]
         simp
        rw [hstep,if_pos g3]
        cases hqr:qd r with
        | none=>rw [hqr] at ih;exact ih
        | some x=>
         rw [hqr] at ih
         obtain ⟨t1,t2,j1,j2,j3⟩:=ih
         exact ⟨t1,t2,j1,by rw [j2,w2];simp,j3⟩
      · rw [if_neg g3]
        by_cases b1:c≥32
        · have b2:¬c≤126:=fun hb=>g3 (by simp [okc];omega)
          have b1':decide (c≥32)=true:=decide_eq_true b1
          have b2':decide (c≤126)=false:=decide_eq_false b2
          simp only [Ja,fc,hd1,decide_true,decide_false,hm',h1,h2,a1,e1,g1',g2',b1',b2',hm2,Option.bind_some,onX]
          simp
        · have b1':decide (c≥32)=false:=decide_eq_false b1
          simp only [Ja,fc,hd1,decide_true,decide_false,hm',h1,h2,a1,e1,g1',g2',b1',hm2,Option.bind_some,onX]
          simp
open Go
theorem xZ (n:Nat) (s:BA) (hs:s.size≤1000000) (hn:10000000≤n):match qd ((bs s).drop 1) with
  | none=>ae n s=some (.error 8)
  | some (mean,rest)=>∃ t1 t2,ae n s=some (.ok (t1,t2,()))∧bs t1=mean∧bs t2=rest:=by
 have hm':(bc n true)=some (.ok ()):=ow n true
 have hm2:(bc n false)=some (.error 8):=ow n false
 have w2:IntKind.wrap .i64 ((1:Int)+(1:Int))=((2:Nat):Int):=wr1 (k:=1) (by decide)
 have w3:IntKind.wrap .i64 (((2:Nat):Int)+(1:Int))=((3:Nat):Int):=wr1 (k:=2) (by decide)
 have a0:(0:Int)≤1:=by decide
 have a2:(0:Int)≤((2:Nat):Int):=by decide
 cases h:(bs s).drop 1 with
 | nil=>
  have hk:¬((1:Int)<(s.size:Int)):=yo (k:=1) h
  rw [show qd []=none from rfl]
  unfold ae nf
  simp only [hk,decide_false,hm2,Option.bind_some,onX]
 | cons c r=>
  obtain ⟨h1',h2',h3,h4,h5⟩:=Ah h
  have h1:(1:Int)<(s.size:Int):=h1'
  have h2:bt s (1:Int)=c:=h2'
  have a3:((2:Nat):Int)≤(s.size:Int):=by omega
  by_cases g1:c=34
  · subst g1
    rw [show qd (34::r)=some ([],r) by rw [jh];rfl]
    refine ⟨_,s.extract 2 s.size,?_,(rfl:bs (⟨#[]⟩:BA)=[]),by rw [Tg,show (bs s).take s.size=bs s by rw [←za,List.take_length]];exact h3⟩
    unfold ae nf Sh dn
    simp only [h1,decide_true,decide_false,hm',h2,a0,w2,a2,a3,Option.bind_some,onX,Int.toNat_natCast]
    rfl
  · have g1':(c==34)=false:=by simpa using g1
    by_cases g2:c=92
    · subst g2
      cases r with
      | nil=>
       have hn':¬(((2:Nat):Int)<(s.size:Int)):=yo (k:=2) h3
       rw [show qd [92]=none by rw [jh];rfl]
       unfold ae nf
       simp only [h1,hn',decide_true,decide_false,hm',hm2,h2,a0,w2,Option.bind_some,onX]
       rfl
      | cons d r=>
       obtain ⟨i1',i2',i3,i4,i5⟩:=Ah h3
       have i1:((2:Nat):Int)<(s.size:Int):=i1'
       have i2:bt s ((2:Nat):Int)=d:=i2'
       have hq:qd (92::d::r)=if okc d=true then (qd r).map fun x=>(d::x.1,x.2) else none:=by rw [jh];rfl
       rw [hq]
       by_cases g3:okc d=true
       · have hdd:32≤d∧d≤126:=by simpa [okc] using g3
         obtain ⟨r2,x1,x2,x3⟩:=rY n d
         have ih:=oG n s hs r.length r 3 n r2 (Nat.le_refl _) i3 (by omega) (by omega) (fun x hx=>by rw [x2] at hx;simp at hx;subst hx;omega) (by
          have:=congrArg List.length i3
          rw [List.length_drop,za] at this;omega)
         have b1:d≥32:=hdd.1
         have b2:d≤126:=hdd.2
         have hstep:ae n s=(Ja n n s ((3:Nat):Int) r2).bind fun x=>onL x (fun _=>none) (fun a=>some (.ok (a.1,a.2,()))) (fun p=>some (.error p)):=by
          unfold ae nf
          simp only [h1,i1,i2,b1,b2,decide_true,decide_false,hm',h2,a0,w2,a2,x1,w3,Option.bind_some,onX]
          rfl
         rw [hstep,if_pos g3]
         cases hqr:qd r with
         | none=>rw [hqr] at ih;rw [ih];rfl
         | some x=>
          rw [hqr] at ih
          obtain ⟨t1,t2,j1,j2,j3⟩:=ih
          exact ⟨t1,t2,by rw [j1];rfl,by rw [j2,x2];rfl,j3⟩
       · rw [if_neg g3]
         unfold ae nf
         by_cases b1:d≥32
         · have b2:¬d≤126:=fun hb=>g3 (by simp [okc];omega)
           simp only [h1,i1,i2,b1,b2,decide_true,decide_false,hm',hm2,h2,a0,w2,a2,Option.bind_some,onX]
           rfl
         · simp only [h1,i1,i2,b1,decide_true,decide_false,hm',hm2,h2,a0,w2,a2,Option.bind_some,onX]
           rfl
    · have g2':(c==92)=false:=by simpa using g2
      have hq:qd (c::r)=if okc c=true then (qd r).map fun x=>(c::x.1,x.2) else none:=by rw [jh,if_neg g1,if_neg g2]
      rw [hq]
      by_cases g3:okc c=true
      · have hdd:32≤c∧c≤126:=by simpa [okc] using g3
        obtain ⟨r2,x1,x2,x3⟩:=rY n c
        have ih:=oG n s hs r.length r 2 n r2 (Nat.le_refl _) h3 (by omega) (by omega) (fun x hx=>by rw [x2] at hx;simp at hx;subst hx;omega) (by
         have:=congrArg List.length h3
         rw [List.length_drop,za] at this;omega)
        have b1:c≥32:=hdd.1
        have b2:c≤126:=hdd.2
        have hstep:ae n s=(Ja n n s ((2:Nat):Int) r2).bind fun x=>onL x (fun _=>none) (fun a=>some (.ok (a.1,a.2,()))) (fun p=>some (.error p)):=by
         unfold ae nf
         simp only [h1,b1,b2,decide_true,decide_false,hm',h2,g1',g2',a0,w2,x1,Option.bind_some,onX]
         rfl
        rw [hstep,if_pos g3]
        cases hqr:qd r with
        | none=>rw [hqr] at ih;rw [ih];rfl
        | some x=>
         rw [hqr] at ih
         obtain ⟨t1,t2,j1,j2,j3⟩:=ih
         exact ⟨t1,t2,by rw [j1];rfl,by rw [j2,x2];rfl,j3⟩
      · rw [if_neg g3]
        unfold ae nf
        by_cases b1:c≥32
        · have b2:¬c≤126:=fun hb=>g3 (by simp [okc];omega)
          simp only [h1,b1,b2,decide_true,decide_false,hm',hm2,h2,g1',g2',a0,Option.bind_some,onX]
          rfl
        · simp only [h1,b1,decide_true,decide_false,hm',hm2,h2,g1',g2',a0,Option.bind_some,onX]
          rfl
theorem HH {b b':Sq Int} {c:Int} (h:sqL id b'=sqL id b++[c]) (hb:∀ c∈sqL id b,0≤c∧c<256) (hc:0≤c∧c<256):∀ c∈sqL id b',0≤c∧c<256:=fun x hx=>by
 rw [h] at hx
 rcases List.mem_append.1 hx with hx | hx
 · exact hb x hx
 · simp at hx;subst hx;exact hc
theorem TP (n:Nat) (s:BA) (hs:s.size≤1000000):∀ (N:Nat) (r:List Int) (k m:Nat) (b:Sq Int),r.length≤N→(bs s).drop k=r→k≤s.size→b.n≤k→(∀ c∈sqL id b,0≤c∧c<256)→r.length<m→
  match qd r with
  | none=>Ya n m s k b=some (.out ())
  | some (mean,rest)=>∃ t,Ya n m s k b=some (.ret (t,((s.size - rest.length:Nat):Int),true))∧bs t=sqL id b++mean
 | N,[],k,m,b,hN,h,hk,hr1,hb,hm=>by
  obtain ⟨m,rfl⟩:∃ q,m=q+1:=⟨m - 1,by omega⟩
  have:=yo h
  rw [show qd []=none from rfl]
  simp [Ya,Zc,this]
 | 0,c::r,k,m,b,hN,_,_,_,_,_=>by simp at hN
 | N+1,c::r,k,m,b,hN,h,hk,hr1,hb,hm=>by
  obtain ⟨m,rfl⟩:∃ q,m=q+1:=⟨m - 1,by omega⟩
  obtain ⟨h1,h2,h3,h4,h5⟩:=Ah h
  have e1:=wr1 (k:=k) (by omega)
  have a1:(0:Int)≤(k:Int):=by omega
  have a2:(0:Int)≤((k+1:Nat):Int):=by omega
  have f1:=w5 (n:=b.n) (by omega)
  by_cases g1:c=34
  · subst g1
    rw [show qd (34::r)=some ([],r) by rw [jh];rfl]
    have hl:s.size - r.length=k+1:=by
     have:=congrArg List.length h3
     rw [List.length_drop,za] at this;omega
    refine ⟨ah b.n b.at',?_,?_⟩
    · rw [hl]
      simp only [Ya,Zc,h1,h2,a1,e1,decide_true]
      rfl
    · rw [List.append_nil]
      exact sB (f:=b.at') fun i hi=>hb _ (List.mem_of_getElem? (wo (f:=id) hi))
  · have g1':(c==34)=false:=by simpa using g1
    by_cases g2:c=92
    · subst g2
      cases r with
      | nil=>
       have hn':=yo h3
       have hn2:((k+1:Nat):Int)≥(s.size:Int):=by omega
       rw [show qd [92]=none by rw [jh];rfl]
       simp only [Ya,Zc,h1,h2,a1,e1,hn2,decide_true,decide_false]
       rfl
      | cons d r=>
       obtain ⟨i1,i2,i3,i4,i5⟩:=Ah h3
       have e2:=wr1 (k:=k+1) (by omega)
       have hn2:¬(((k+1:Nat):Int)≥(s.size:Int)):=by omega
       have hq:qd (92::d::r)=if okc d=true then (qd r).map fun x=>(d::x.1,x.2) else none:=by rw [jh];rfl
       rw [hq]
       by_cases g3:okc d=true
       · have hdd:32≤d∧d≤126:=by simpa [okc] using g3
         have hsn:=Ot id b d (Aa (.int .u8))
         have ih:=TP n s hs N r (k+2) m _ (by simp at hN;omega) (by rw [←i3]) (by omega) (by show b.n+1≤k+2;omega) (HH hsn hb ⟨i4,i5⟩) (by simp at hm;omega)
         have b1:¬d<32:=by omega
         have b2:¬d>126:=by omega
         have hstep:Ya n (m+1) s k b=Ya n m s ((k+1+1:Nat):Int) (⟨b.n+1,fun i=>if i<b.n then b.at' i else (fun i=>List.getD [d] i (Aa (.int .u8))) (i - b.n)⟩:Sq Int):=by
          simp only [Ya,Zc,h1,h2,a1,e1,hn2,i1,i2,a2,b1,b2,f1,e2,decide_true,decide_false]
          rfl
         rw [hstep,if_pos g3]
         cases hqr:qd r with
         | none=>rw [hqr] at ih;exact ih
         | some x=>
          rw [hqr] at ih
          obtain ⟨t1,j1,j2⟩:=ih
          exact ⟨t1,j1,by rw [j2];refine (congrArg (· ++x.1) hsn).trans ?_;simp⟩
       · rw [if_neg g3]
         by_cases b1:d<32
         · simp only [Ya,Zc,h1,h2,a1,e1,hn2,i1,i2,a2,b1,decide_true,decide_false]
           rfl
         · have b2:d>126:=by simp [okc] at g3;omega
           simp only [Ya,Zc,h1,h2,a1,e1,hn2,i1,i2,a2,b1,b2,decide_true,decide_false]
           rfl
    · have g2':(c==92)=false:=by simpa using g2
      have hq:qd (c::r)=if okc c=true then (qd r).map fun x=>(c::x.1,x.2) else none:=by rw [jh,if_neg g1,if_neg g2]
      rw [hq]
      by_cases g3:okc c=true
      · have hdd:32≤c∧c≤126:=by simpa [okc] using g3
        have hsn:=Ot id b c (Aa (.int .u8))
        have ih:=TP n s hs N r (k+1) m _ (by simp at hN;omega) h3 (by omega) (by show b.n+1≤k+1;omega) (HH hsn hb ⟨h4,h5⟩) (by simp at hm;omega)
        have b1:¬c<32:=by omega
        have b2:¬c>126:=by omega
        have hstep:Ya n (m+1) s k b=Ya n m s ((k+1:Nat):Int) (⟨b.n+1,fun i=>if i<b.n then b.at' i else (fun i=>List.getD [c] i (Aa (.int .u8))) (i - b.n)⟩:Sq Int):=by
         simp only [Ya,Zc,h1,h2,a1,e1,g1',g2',b1,b2,f1,decide_true,decide_false]
         rfl
        rw [hstep,if_pos g3]
        cases hqr:qd r with
        | none=>rw [hqr] at ih;exact ih
        | some x=>
         rw [hqr] at ih
         obtain ⟨t1,j1,j2⟩:=ih
         exact ⟨t1,j1,by rw [j2];refine (congrArg (· ++x.1) hsn).trans ?_;simp⟩
      · rw [if_neg g3]
        by_cases b1:c<32
        · simp only [Ya,Zc,h1,h2,a1,e1,g1',g2',b1,decide_true,decide_false]
          rfl
        · have b2:c>126:=by simp [okc] at g3;omega
          simp only [Ya,Zc,h1,h2,a1,e1,g1',g2',b1,b2,decide_true,decide_false]
          rfl
theorem dW (n:Nat) (s:BA) (hs:s.size≤1000000) (h1:1≤s.size) (hn:10000000≤n):match qd ((bs s).drop 1) with
  | none=>wt n s=some ((⟨#[]⟩:BA),(0:Int),false,())
  | some (mean,rest)=>∃ t,wt n s=some (t,((s.size - rest.length:Nat):Int),true,())∧bs t=mean:=by
 have h:=TP n s hs ((bs s).drop 1).length _ 1 n (⟨0,fun _=>Aa (.int .u8)⟩:Sq Int) (Nat.le_refl _) rfl h1 (Nat.zero_le _) (fun c hc=>by simp [sqL] at hc) (by rw [List.length_drop,za];omega)
 unfold wt IB
 rw [show ((1:Nat):Int)=1 from rfl] at h
 cases hq:qd ((bs s).drop 1) with
 | none=>rw [hq] at h;simp only at h ⊢;rw [h];rfl
 | some x=>
  rw [hq] at h
  obtain ⟨t,j1,j2⟩:=h
  exact ⟨t,by rw [j1];rfl,by rw [j2];rfl⟩
open Go
theorem FN {a b:BA} (h:a.size+b.size≤9000000000):Ca a b=true:=by
 unfold Ca
 rw [Nat.ble_eq];omega
theorem WF (c:Int) (r:List Int):esc (c::r)=(if c=34∨c=92 then [92,c] else [c])++esc r:=by
 simp only [esc];split<;>rfl
theorem s5 {s:BA} {k:Nat} {c:Int} {r:List Int} (h:(bs s).drop k=c::r):bs (s.extract k (k+1))=[c]:=by
 rw [RV h (Nat.le_refl _),NP];rfl
theorem OM (n:Nat) (s:BA) (hs:s.size≤1000000):∀ (r:List Int) (k m:Nat) (q:BA),(bs s).drop k=r→k≤s.size→q.size≤2*k+1→r.length<m→
  ∃ q',bd n m s q k=some (.out q')∧bs q'=bs q++esc r∧q'.size≤2*s.size+1
 | [],k,m,q,h,hk,hq,hm=>by
  obtain ⟨m,rfl⟩:∃ q,m=q+1:=⟨m - 1,by omega⟩
  have:=yo h
  exact ⟨q,by simp [bd,Qh,this],by simp [esc],by omega⟩
 | c::r,k,m,q,h,hk,hq,hm=>by
  obtain ⟨m,rfl⟩:∃ q,m=q+1:=⟨m - 1,by omega⟩
  obtain ⟨h1,h2,h3,h4,h5⟩:=Ah h
  have e1:=wr1 (k:=k) (by omega)
  have a1:(0:Int)≤(k:Int):=by omega
  have a2:(0:Int)≤((k+1:Nat):Int):=by omega
  have a3:((k+1:Nat):Int)≤(s.size:Int):=by omega
  have a4:(k:Int)≤((k+1:Nat):Int):=by omega
  have hx:=s5 h
  have hxs:(s.extract k (k+1)).size=1:=by rw [←za,hx];rfl
  have h92:bs (⟨#[92]⟩:BA)=[92]:=rfl
  have h92s:(⟨#[92]⟩:BA).size=1:=rfl
  by_cases g:c=34∨c=92
  · have hsz:((q++(⟨#[92]⟩:BA))++s.extract k (k+1)).size=q.size+2:=by
     rw [←za,wn,wn,List.length_append,List.length_append,za,hx,h92];rfl
    have hsz1:(q++(⟨#[92]⟩:BA)).size=q.size+1:=by rw [←za,wn,List.length_append,za,h92];rfl
    have f1:Ca q (⟨#[92]⟩:BA)=true:=FN (by rw [h92s];omega)
    have f2:Ca (q++(⟨#[92]⟩:BA)) (s.extract k (k+1))=true:=FN (by omega)
    obtain ⟨q',j1,j2,j3⟩:=OM n s hs r (k+1) m ((q++(⟨#[92]⟩:BA))++s.extract k (k+1)) h3 (by omega) (by omega) (by simp at hm;omega)
    refine ⟨q',?_,by rw [j2,wn,wn,hx,h92,WF,if_pos g];simp,j3⟩
    rw [←j1]
    rcases g with rfl | rfl
    · simp only [bd,Qh,h1,h2,a1,e1,a2,a3,a4,f1,f2,Int.toNat_natCast,decide_true]
      rfl
    · simp only [bd,Qh,h1,h2,a1,e1,a2,a3,a4,f1,f2,Int.toNat_natCast,decide_true]
      rfl
  · have hsz:(q++s.extract k (k+1)).size=q.size+1:=by rw [←za,wn,List.length_append,za,hx];rfl
    have f2:Ca q (s.extract k (k+1))=true:=FN (by omega)
    obtain ⟨q',j1,j2,j3⟩:=OM n s hs r (k+1) m (q++s.extract k (k+1)) h3 (by omega) (by omega) (by simp at hm;omega)
    refine ⟨q',?_,by rw [j2,wn,hx,WF,if_neg g];simp,j3⟩
    have g1:(c==34)=false:=by simp;exact fun e=>g (.inl e)
    have g2:(c==92)=false:=by simp;exact fun e=>g (.inr e)
    rw [←j1]
    simp only [bd,Qh,h1,h2,g1,g2,a1,e1,a2,a3,a4,f2,Int.toNat_natCast,decide_true]
    rfl
def qt (l:List Int):List Int:=34::esc l++[34]
theorem jT (n:Nat) (s:BA) (hs:s.size≤1000000) (hn:10000000≤n):∃ t,Tw n s=some t∧bs t=qt (bs s):=by
 obtain ⟨q',j1,j2,j3⟩:=OM n s hs (bs s) 0 n (⟨#[34]⟩:BA) (by simp) (by omega) (by decide) (by rw [za];omega)
 refine ⟨q'++(⟨#[34]⟩:BA),?_,by rw [wn,j2];rfl⟩
 unfold Tw KB
 rw [show ((0:Nat):Int)=0 from rfl] at j1
 rw [j1,Option.bind_some]
 simp only [onL]
 rw [if_pos (FN (by rw [show (⟨#[34]⟩:BA).size=1 from rfl];omega))]
theorem lQ (n:Nat) (s:BA) (hs:s.size≤1000000):∀ (r:List Int) (k m:Nat) (q:Sq Int),(bs s).drop k=r→k≤s.size→q.n≤2*k+1→(∀ c∈sqL id q,0≤c∧c<256)→r.length<m→
  ∃ q',Pc n m s s.size k q=some (.out q')∧sqL id q'=sqL id q++esc r∧q'.n≤2*s.size+1∧(∀ c∈sqL id q',0≤c∧c<256)
 | [],k,m,q,h,hk,hq,hb,hm=>by
  obtain ⟨m,rfl⟩:∃ q,m=q+1:=⟨m - 1,by omega⟩
  have:=yo h
  exact ⟨q,by simp [Pc,yh,this],by simp [esc],by omega,hb⟩
 | c::r,k,m,q,h,hk,hq,hb,hm=>by
  obtain ⟨m,rfl⟩:∃ q,m=q+1:=⟨m - 1,by omega⟩
  obtain ⟨h1,h2,h3,h4,h5⟩:=Ah h
  have e1:=wr1 (k:=k) (by omega)
  have a1:(0:Int)≤(k:Int):=by omega
  by_cases g:c=34∨c=92
  · obtain ⟨q1,w1,w2,w3⟩:=rR n 92 q (by omega)
    obtain ⟨q2,x1,x2,x3⟩:=rR n c q1 (by omega)
    have hb1:=HH w2 hb ⟨by decide,by decide⟩
    have hb2:=HH x2 hb1 ⟨h4,h5⟩
    obtain ⟨q',j1,j2,j3,j4⟩:=lQ n s hs r (k+1) m q2 h3 (by omega) (by omega) hb2 (by simp at hm;omega)
    refine ⟨q',?_,by rw [j2,x2,w2,WF,if_pos g];simp,j3,j4⟩
    rw [←j1]
    rcases g with rfl | rfl
    · simp only [Pc,yh,h1,h2,a1,e1,w1,x1,decide_true,Option.bind_some]
      rfl
    · simp only [Pc,yh,h1,h2,a1,e1,w1,x1,decide_true,Option.bind_some]
      rfl
  · obtain ⟨q2,x1,x2,x3⟩:=rR n c q (by omega)
    have hb2:=HH x2 hb ⟨h4,h5⟩
    obtain ⟨q',j1,j2,j3,j4⟩:=lQ n s hs r (k+1) m q2 h3 (by omega) (by omega) hb2 (by simp at hm;omega)
    refine ⟨q',?_,by rw [j2,x2,WF,if_neg g];simp,j3,j4⟩
    have g1:(c==34)=false:=by simp;exact fun e=>g (.inl e)
    have g2:(c==92)=false:=by simp;exact fun e=>g (.inr e)
    rw [←j1]
    simp only [Pc,yh,h1,h2,g1,g2,a1,e1,x1,decide_true,Option.bind_some]
    rfl
def qs (l:List Int):List Int:=if pl 0 l=true then l else qt l
theorem A2 (n:Nat) (s:BA) (hs:s.size≤1000000) (hn:10000000≤n):∃ t,pB n s=some t∧bs t=qs (bs s):=by
 unfold pB qB qs
 rw [tW n s (by omega) (by omega),Option.bind_some]
 by_cases hp:pl 0 (bs s)=true
 · rw [if_pos hp,if_pos hp]
   exact ⟨s,rfl,rfl⟩
 · rw [if_neg hp,if_neg hp]
   obtain ⟨q0,w1,w2,w3⟩:=rY n 34
   have hb0:∀ c∈sqL id q0,0≤c∧c<256:=fun c hc=>by rw [w2] at hc;simp at hc;subst hc;omega
   obtain ⟨q',j1,j2,j3,j4⟩:=lQ n s hs (bs s) 0 n q0 (by simp) (by omega) (by omega) hb0 (by rw [za];omega)
   obtain ⟨t,s1,s2⟩:=oY n q' (by omega) j4
   have hts:t.size≤2*s.size+1:=by
    have:=congrArg List.length s2
    rw [za,Gd] at this;omega
   refine ⟨t++(⟨#[34]⟩:BA),?_,by rw [wn,s2,j2,w2];rfl⟩
   rw [show ((0:Nat):Int)=0 from rfl] at j1
   rw [w1,Option.bind_some,j1,Option.bind_some]
   simp only [onL]
   rw [s1,Option.bind_some,if_pos (FN (by show t.size+(⟨#[34]⟩:BA).size≤9000000000;rw [show (⟨#[34]⟩:BA).size=1 from rfl];omega))]
theorem u4 (l:List Int):(qt l).length≤2*l.length+2:=by
 have:=OY l
 simp [qt];omega
theorem H7 (l:List Int):(qs l).length≤2*l.length+2:=by
 unfold qs
 split
 · omega
 · exact u4 l
theorem YO:∀ (N:Nat) (r:List Int),r.length≤N→∀ x,qd r=some x→x.1.length+x.2.length+1≤r.length
 | _,[],_,x,h=>by cases h
 | 0,c::r,h,_,_=>by simp at h
 | N+1,c::r,hN,x,h=>by
  rw [jh] at h
  split at h
  · cases h;simp
  · split at h
    · cases r with
      | nil=>cases h
      | cons d r=>
       simp only at h
       split at h
       · obtain ⟨y,hy,rfl⟩:=Option.map_eq_some_iff.1 h
         have:=YO N r (by simp at hN;omega) y hy
         simp;omega
       · cases h
    · split at h
      · obtain ⟨y,hy,rfl⟩:=Option.map_eq_some_iff.1 h
        have:=YO N r (by simp at hN;omega) y hy
        simp;omega
      · cases h
def loc (l:List Int):Option (List Int×List Int):=if l.head?=some 34 then (qd (l.drop 1)).map fun x=>(qs x.1,x.2)
 else if idx 64 l= -1 then none else if pl 0 (l.take (idx 64 l).toNat)=true then some (l.take (idx 64 l).toNat,l.drop (idx 64 l).toNat) else none
theorem N1 (n:Nat) (s:BA) (hs:s.size≤1000000) (hn:10000000≤n):match loc (bs s) with
  | none=>xk n s=some (.error 8)
  | some (a,b)=>∃ t1 t2,xk n s=some (.ok (t1,t2,()))∧bs t1=a∧bs t2=b:=by
 have hm':(bc n true)=some (.ok ()):=ow n true
 have hm2:(bc n false)=some (.error 8):=ow n false
 unfold loc
 by_cases h:(bs s).head?=some 34
 · rw [if_pos h]
   have hq:=xZ n s hs hn
   have hP:Pa n s (⟨#[34]⟩:BA)=some true:=by rw [tk n s _ (c:=34) rfl,decide_eq_true h]
   cases hx:qd ((bs s).drop 1) with
   | none=>
    rw [hx] at hq
    simp only at hq
    simp only [Option.map_none]
    unfold xk ak
    rw [hP,Option.bind_some,if_pos rfl,hq];rfl
   | some x=>
    rw [hx] at hq
    obtain ⟨t1,t2,j1,j2,j3⟩:=hq
    have hl:=YO _ _ (Nat.le_refl _) x hx
    rw [List.length_drop,za,←j2,za] at hl
    obtain ⟨t3,k1,k2⟩:=A2 n t1 (by omega) hn
    simp only [Option.map_some]
    refine ⟨t3,t2,?_,by rw [k2,j2],j3⟩
    unfold xk ak
    rw [hP,Option.bind_some,if_pos rfl,j1,Option.bind_some]
    simp only [onX]
    rw [k1];rfl
 · rw [if_neg h]
   have hP:Pa n s (⟨#[34]⟩:BA)=some false:=by rw [tk n s _ (c:=34) rfl,decide_eq_false h]
   have hI:=FJ n s (c:=64) (by decide) (by decide)
   have hge:=(Jq (c:=64) (bs s)).2
   have hlt:=kS 64 (bs s)
   by_cases hx:idx 64 (bs s)= -1
   · rw [if_pos hx]
     simp only
     have b1:¬((-1:Int)≥0):=by decide
     unfold xk ak
     rw [hP,Option.bind_some,if_neg (by decide),hI,hx]
     simp only [b1,hm2,decide_false,Option.bind_some,onX]
     rfl
   · rw [if_neg hx]
     obtain ⟨k,hk⟩:∃ k:Nat,idx 64 (bs s)=(k:Int):=⟨(idx 64 (bs s)).toNat,by omega⟩
     have hks:k<s.size:=by have:=hlt.1;rw [za] at this;omega
     rw [hk,Int.toNat_natCast]
     have hb0:bs (s.extract 0 k)=(bs s).take k:=by rw [Tg];rfl
     have hb1:bs (s.extract k s.size)=(bs s).drop k:=by rw [Tg,←za,List.take_length]
     have hpl:=tW n (s.extract 0 k) (by have:=dg s 0 k;omega) (by have:=dg s 0 k;omega)
     rw [hb0] at hpl
     have a1:(k:Int)≥0:=by omega
     have a2:(0:Int)≤(k:Int):=by omega
     have a3:(k:Int)≤(s.size:Int):=by omega
     have hpl':Ss n (s.extract (Int.toNat (0:Int)) k)=some (pl 0 ((bs s).take k)):=hpl
     by_cases hp:pl 0 ((bs s).take k)=true
     · rw [if_pos hp]
       refine ⟨s.extract 0 k,s.extract k s.size,?_,hb0,hb1⟩
       unfold xk ak
       rw [hP,Option.bind_some,if_neg (by decide),hI,hk]
       simp only [a1,a2,a3,hpl',hp,hm',decide_true,Option.bind_some,onX,Int.toNat_natCast]
       rfl
     · rw [if_neg hp]
       simp only
       unfold xk ak
       rw [hP,Option.bind_some,if_neg (by decide),hI,hk]
       have hp':pl 0 ((bs s).take k)=false:=by simpa using hp
       simp only [a1,a2,a3,hpl',hp',hm2,decide_true,Option.bind_some,onX,Int.toNat_natCast]
       rfl
def jX (l:List Int):Bool:=decide (1≤l.length)&&decide (l.length≤64)&&(if l.head?=some 34 then (match qd (l.drop 1) with
  | none=>false
  | some x=>decide (x.2=[])&&!pl 0 x.1&&decide (qt x.1=l)) else pl 0 l)
theorem J0 (n:Nat) (s:BA) (hs:s.size≤1000000) (hn:10000000≤n):FB n s=some (jX (bs s)):=by
 unfold FB GB jX
 rw [za]
 by_cases g1:1≤s.size
 · have b1:¬((s.size:Int)<1):=by omega
   by_cases g2:s.size≤64
   · have b2:¬((s.size:Int)>64):=by omega
     have b3:(0:Int)<(s.size:Int):=by omega
     obtain ⟨c,hc,hb⟩:=ZD (s:=s) (by omega)
     have hpl:=NM n s hs hn
     rw [uI] at hpl
     simp only [b1,b2,b3,hb,g1,g2,hc,decide_true,decide_false]
     by_cases g3:c=34
     · subst g3
       have hq:=dW n s hs g1 hn
       cases hx:qd ((bs s).drop 1) with
       | none=>
        rw [hx] at hq
        simp only at hq
        rw [hq];rfl
       | some x=>
        rw [hx] at hq
        obtain ⟨t,j1,j2⟩:=hq
        have hl:=YO _ _ (Nat.le_refl _) x hx
        rw [List.length_drop,za,←j2,za] at hl
        have hpt:=NM n t (by omega) hn
        rw [uI,j2] at hpt
        obtain ⟨t3,k1,k2⟩:=jT n t (by omega) hn
        rw [j1]
        simp only [Option.bind_some,if_true]
        by_cases g4:x.2=[]
        · have:(((s.size - x.2.length:Nat):Int)==(s.size:Int))=true:=by rw [g4];simp
          simp only [this,hpt,k1,Option.bind_some,g4,decide_true]
          rw [ws,k2,j2]
          cases pl 0 x.1<;>simp
        · have hne:0<x.2.length:=List.length_pos_iff.2 g4
          have:(((s.size - x.2.length:Nat):Int)==(s.size:Int))=false:=by simp only [beq_eq_false_iff_ne];omega
          simp [this,g4]
     · have:(c !=34)=true:=by simpa using g3
       simp [this,hpl,g3]
   · have b2:((s.size:Int)>64):=by omega
     simp [b1,b2,g2]
 · have b1:((s.size:Int)<1):=by omega
   simp [b1,g1]
theorem b7 (n:Nat) (a b:BA) (ha:a.size≤1000000) (hb:b.size≤1000000) (hn:10000000≤n):yD n (a,b,())=some (jX (bs a)&&X0 (bs b)):=by
 unfold yD XK
 rw [J0 n a ha hn,Option.bind_some]
 cases hl:jX (bs a)
 · simp
 · rw [if_pos rfl,JX n b hb hn];simp
open Go
abbrev Box:=BA×(BA×Unit)
def zU:Box:=((⟨#[]⟩:BA),((⟨#[]⟩:BA),()))
def T1 (l:List Int):Option (List Int×List Int):=(loc l).bind fun x=>if x.1.length≤64∧x.2.head?=some 64∧Z4 ((x.2.drop 1).map low)=true then some (x.1,(x.2.drop 1).map low) else none
theorem eZ {l:List Int} {x:List Int×List Int} (h:loc l=some x):x.1.length≤2*l.length+2∧x.2.length≤l.length:=by
 unfold loc at h
 split at h
 · obtain ⟨y,hy,rfl⟩:=Option.map_eq_some_iff.1 h
   have h1:=YO _ _ (Nat.le_refl _) y hy
   have h2:=H7 y.1
   rw [List.length_drop] at h1
   exact ⟨by simp;omega,by simp;omega⟩
 · split at h
   · cases h
   · split at h
     · cases h;simp;omega
     · cases h
theorem QQ {t:BA}:bs (t.extract 1 t.size)=(bs t).drop 1:=by rw [Tg,←za,List.take_length]
theorem T5 (n:Nat) (s:BA) (hs:s.size≤400000) (hn:10000000≤n):match T1 (bs s) with
  | none=>Dq n s=some (.error 8)
  | some (a,d)=>∃ t1 t2,Dq n s=some (.ok (t1,(t2,())))∧bs t1=a∧bs t2=d:=by
 have hm':(bc n true)=some (.ok ()):=ow n true
 have hm2:(bc n false)=some (.error 8):=ow n false
 have hl:=N1 n s (by omega) hn
 unfold T1
 cases hx:loc (bs s) with
 | none=>
  rw [hx] at hl
  simp only at hl
  simp only [Option.bind_none]
  unfold Dq un
  rw [hl];rfl
 | some x=>
  rw [hx] at hl
  obtain ⟨t1,t2,j1,j2,j3⟩:=hl
  have hlen:=eZ hx
  rw [←j2,←j3,za,za,za] at hlen
  simp only [Option.bind_some]
  rw [←j2,←j3,za]
  by_cases g1:t1.size≤64
  · have b1:(t1.size:Int)≤64:=by omega
    have hP:=tk n t2 (⟨#[64]⟩:BA) (c:=64) rfl
    by_cases g2:(bs t2).head?=some 64
    · rw [decide_eq_true g2] at hP
      have hne:1≤t2.size:=by
       rw [←za]
       cases hb:bs t2 with
       | nil=>rw [hb] at g2;cases g2
       | cons _ _=>simp
      have b2:(1:Int)≤(t2.size:Int):=by omega
      have b3:(0:Int)≤1:=by decide
      obtain ⟨t3,k1,k2⟩:=O2 n (t2.extract 1 t2.size) (by have:=dg t2 1 t2.size;omega) hn
      have hsz:t3.size≤t2.size:=by rw [←za t3,k2,List.length_map,za];exact dg _ _ _
      have hD:=MT n t3 (by omega) hn
      rw [k2,QQ] at hD
      rw [QQ] at k2
      have k1':Ts n (t2.extract (Int.toNat (1:Int)) t2.size)=some t3:=k1
      by_cases g3:Z4 (((bs t2).drop 1).map low)=true
      · rw [if_pos ⟨g1,g2,g3⟩]
        refine ⟨t1,t3,?_,rfl,k2⟩
        unfold Dq un
        rw [j1]
        simp only [Option.bind_some,onX,b1,decide_true,hP,hm',b2,b3,Int.toNat_natCast,k1',hD,g3]
        rfl
      · rw [if_neg fun h=>g3 h.2.2]
        simp only
        have g3':Z4 (((bs t2).drop 1).map low)=false:=by simpa using g3
        unfold Dq un
        rw [j1]
        simp only [Option.bind_some,onX,b1,decide_true,hP,hm',hm2,b2,b3,Int.toNat_natCast,k1',hD,g3']
        rfl
    · rw [decide_eq_false g2] at hP
      rw [if_neg fun h=>g2 h.2.1]
      simp only
      unfold Dq un
      rw [j1]
      simp only [Option.bind_some,onX,b1,decide_true,hP,hm2]
      rfl
  · have b1:¬((t1.size:Int)≤64):=by omega
    rw [if_neg fun h=>g1 h.1]
    simp only
    unfold Dq un
    rw [j1]
    simp only [Option.bind_some,onX,b1,decide_false,hm2]
    rfl
theorem M0 (n:Nat) (s:BA) (hs:s.size≤400000) (hn:10000000≤n):match T1 (bs s) with
  | none=>Ps n s=some (zU,8,())
  | some (a,d)=>∃ t1 t2,Ps n s=some ((t1,(t2,())),0,())∧bs t1=a∧bs t2=d:=by
 have h:=T5 n s hs hn
 cases hx:T1 (bs s) with
 | none=>
  rw [hx] at h
  simp only at h ⊢
  unfold Ps qq
  rw [h];rfl
 | some x=>
  rw [hx] at h
  obtain ⟨t1,t2,j1,j2,j3⟩:=h
  refine ⟨t1,t2,?_,j2,j3⟩
  unfold Ps qq
  rw [j1];rfl
def RZ (n:Nat) (A Z:BA):Option (Box×Bool×Unit):=
 if (Z.toList==(⟨#[]⟩:BA).toList)=false then
  if 0≤(0:Int)∧(0:Int)<(Z.size:Int) then
   if ((bt Z (0:Int)) !=(64:Int))=true then
    some (((⟨#[]⟩:BA),((⟨#[]⟩:BA),())),(false,()))
   else
    if 0≤(1:Int)∧(1:Int)≤(Z.size:Int) then
     (xl n (Z.extract (Int.toNat (1:Int)) (Int.toNat ((Z.size):Int)))).bind fun v3=>
     (yD n (A,(v3,()))).bind fun v4=>
     if (!v4)=true then
      some (((⟨#[]⟩:BA),((⟨#[]⟩:BA),())),(false,()))
     else
      some ((A,(v3,())),(true,()))
    else
     none
  else
   none
 else
  some (((⟨#[]⟩:BA),((⟨#[]⟩:BA),())),(false,()))
def DT (a z:List Int):Option (List Int×List Int):=if z.head?=some 64∧(jX a&&X0 ((z.drop 1).map low))=true then some (a,(z.drop 1).map low) else none
def OT (e:Option (Box×Bool×Unit)):Option (List Int×List Int)→Prop
 | none=>e=some (zU,false,())
 | some (a,d)=>∃ t1 t2,e=some ((t1,(t2,())),true,())∧bs t1=a∧bs t2=d
theorem fR (n:Nat) (A Z:BA) (hA:A.size≤1000000) (hZ:Z.size≤1000000) (hn:10000000≤n):OT (RZ n A Z) (DT (bs A) (bs Z)):=by
 unfold RZ DT
 rw [ws,show bs (⟨#[]⟩:BA)=[] from rfl]
 by_cases g0:bs Z=[]
 · rw [g0]
   simp [OT,zU]
 · have hne:1≤Z.size:=by
    rw [←za]
    exact List.length_pos_iff.2 g0
   obtain ⟨c,hc,hb⟩:=ZD (s:=Z) (by omega)
   have b1:(0:Int)<(Z.size:Int):=by omega
   have b2:(1:Int)≤(Z.size:Int):=by omega
   have b3:(0:Int)≤1:=by decide
   obtain ⟨t3,k1,k2⟩:=L0 n (Z.extract 1 Z.size) (by have:=dg Z 1 Z.size;omega) hn
   have hsz:t3.size≤Z.size:=by rw [←za t3,k2,List.length_map,za];exact dg _ _ _
   rw [QQ] at k2
   have hM:=b7 n A t3 hA (by omega) hn
   rw [k2] at hM
   have k1':xl n (Z.extract (Int.toNat (1:Int)) Z.size)=some t3:=k1
   rw [hc]
   simp only [g0,decide_false,b1,hb,b2,b3,Int.toNat_natCast,k1',Option.bind_some,hM]
   by_cases g1:c=64
   · subst g1
     cases hg:(jX (bs A)&&X0 (((bs Z).drop 1).map low)) with
     | false=>simp [OT,zU]
     | true=>
      simp only [bne_self_eq_false]
      exact ⟨A,t3,rfl,rfl,k2⟩
   · have:(c !=64)=true:=by simpa using g1
     simp [this,g1,OT,zU]
def tw:List Int→Nat
 | []=>0
 | c::r=>if c=64 then 0 else tw r+1
theorem O7:∀ l:List Int,tw l≤l.length
 | []=>Nat.le_refl _
 | c::r=>by
  have:=O7 r
  simp only [tw]
  split<;>simp<;>omega
theorem fT (n:Nat) (s:BA) (hs:s.size≤1000000) (x1 x2 x3 x4:BA):∀ (r:List Int) (k m:Nat),(bs s).drop k=r→k≤s.size→r.length<m→
  Yc n m s k x1 x2 x3 x4=some (.out (s,((k+tw r:Nat):Int),x1,x2,x3,x4))
 | [],k,m,h,hk,hm=>by
  obtain ⟨m,rfl⟩:∃ q,m=q+1:=⟨m - 1,by omega⟩
  have:=yo h
  simp [Yc,Sj,this,tw]
 | c::r,k,m,h,hk,hm=>by
  obtain ⟨m,rfl⟩:∃ q,m=q+1:=⟨m - 1,by omega⟩
  obtain ⟨h1,h2,h3,h4,h5⟩:=Ah h
  have e1:=wr1 (k:=k) (by omega)
  have a1:(0:Int)≤(k:Int):=by omega
  have ih:=fT n s hs x1 x2 x3 x4 r (k+1) m h3 (by omega) (by simp at hm;omega)
  simp only [tw]
  by_cases g:c=64
  · subst g
    simp only [Yc,Sj,h1,h2,a1,decide_true]
    rfl
  · have g1:(c !=64)=true:=by simpa using g
    rw [if_neg g,show k+(tw r+1)=k+1+tw r by omega,←ih]
    simp only [Yc,Sj,h1,h2,a1,e1,g1,decide_true]
    rfl
def w8 (l:List Int):Option (List Int×List Int):=if l.head?=some 34 then (qd (l.drop 1)).bind fun x=>DT (qs x.1) x.2 else DT (l.take (tw l)) (l.drop (tw l))
theorem wZ:∀ (N:Nat) (r:List Int),r.length≤N→∀ x,qd r=some x→∃ p,r=p++x.2
 | _,[],_,x,h=>by cases h
 | 0,c::r,h,_,_=>by simp at h
 | N+1,c::r,hN,x,h=>by
  rw [jh] at h
  split at h
  · cases h;exact ⟨[c],rfl⟩
  · split at h
    · cases r with
      | nil=>cases h
      | cons d r=>
       simp only at h
       split at h
       · obtain ⟨y,hy,rfl⟩:=Option.map_eq_some_iff.1 h
         obtain ⟨p,hp⟩:=wZ N r (by simp at hN;omega) y hy
         exact ⟨c::d::p,by rw [hp];rfl⟩
       · cases h
    · split at h
      · obtain ⟨y,hy,rfl⟩:=Option.map_eq_some_iff.1 h
        obtain ⟨p,hp⟩:=wZ N r (by simp at hN;omega) y hy
        exact ⟨c::p,by rw [hp];rfl⟩
      · cases h
theorem R5 (l:List Int) (x:List Int×List Int) (h:qd (l.drop 1)=some x):l.drop (l.length - x.2.length)=x.2:=by
 obtain ⟨p,hp⟩:=wZ _ _ (Nat.le_refl _) x h
 have hl:l.length=(l.take 1).length+(p.length+x.2.length):=by
  conv=>lhs;rw [←List.take_append_drop 1 l,hp]
  simp
 have e:l=(l.take 1++p)++x.2:=by
  conv=>lhs;rw [←List.take_append_drop 1 l,hp]
  simp
 rw [show l.length - x.2.length=(l.take 1++p).length by rw [List.length_append];omega]
 conv=>lhs;rw [e]
 exact List.drop_left' (by simp [←e])
theorem HZ (n:Nat) (s:BA) (hs:s.size≤400000) (hn:10000000≤n):OT (pj n s) (w8 (bs s)):=by
 unfold w8
 by_cases h:(bs s).head?=some 34
 · rw [if_pos h]
   have h1:1≤s.size:=by
    rw [←za]
    cases hb:bs s with
    | nil=>rw [hb] at h;cases h
    | cons _ _=>simp
   obtain ⟨c,hc,hb⟩:=ZD (s:=s) (by omega)
   rw [h] at hc
   cases hc
   have b1:(s.size:Int)>0:=by omega
   have b2:(0:Int)<(s.size:Int):=by omega
   have hq:=dW n s (by omega) h1 hn
   cases hx:qd ((bs s).drop 1) with
   | none=>
    rw [hx] at hq
    simp only at hq
    simp only [Option.bind_none,OT]
    unfold pj wm
    simp only [b1,b2,hb,hq,decide_true,Option.bind_some]
    rfl
   | some x=>
    rw [hx] at hq
    obtain ⟨t,j1,j2⟩:=hq
    have hl:=YO _ _ (Nat.le_refl _) x hx
    rw [List.length_drop,za] at hl
    have hts:t.size≤s.size:=by rw [←za t,j2];omega
    obtain ⟨t3,k1,k2⟩:=jT n t (by omega) hn
    have hpt:=NM n t (by omega) hn
    rw [uI,j2] at hpt
    have hq2:=R5 (bs s) x hx
    have hz:bs (s.extract (s.size - x.2.length) s.size)=x.2:=by
     rw [Tg,←za,List.take_length];exact hq2
    have a1:(0:Int)≤((s.size - x.2.length:Nat):Int):=by omega
    have a2:((s.size - x.2.length:Nat):Int)≤(s.size:Int):=by omega
    simp only [Option.bind_some]
    by_cases hp:pl 0 x.1=true
    · have hE:pj n s=RZ n t (s.extract (s.size - x.2.length) s.size):=by
       unfold pj wm
       simp only [b1,b2,hb,j1,decide_true,Option.bind_some,a1,a2,k1,hpt,hp,Int.toNat_natCast]
       rfl
      rw [hE]
      have:=fR n t (s.extract (s.size - x.2.length) s.size) (by omega) (by have:=dg s (s.size - x.2.length) s.size;omega) hn
      rw [hz,j2] at this
      rw [show qs x.1=x.1 from if_pos hp]
      exact this
    · have hE:pj n s=RZ n t3 (s.extract (s.size - x.2.length) s.size):=by
       unfold pj wm
       simp only [b1,b2,hb,j1,decide_true,Option.bind_some,a1,a2,k1,hpt,hp,Int.toNat_natCast]
       rfl
      rw [hE]
      have h3:t3.size≤1000000:=by
       have:=u4 x.1
       rw [←za,k2,j2];omega
      have:=fR n t3 (s.extract (s.size - x.2.length) s.size) h3 (by have:=dg s (s.size - x.2.length) s.size;omega) hn
      rw [hz,k2,j2] at this
      rw [show qs x.1=qt x.1 from if_neg hp]
      exact this
 · rw [if_neg h]
   have htw:=O7 (bs s)
   rw [za] at htw
   have hL:=fT n s (by omega) (⟨#[]⟩:BA) (⟨#[]⟩:BA) (⟨#[]⟩:BA) (⟨#[]⟩:BA) (bs s) 0 n (by simp) (by omega) (by rw [za];omega)
   rw [show ((0:Nat):Int)=0 from rfl,Nat.zero_add] at hL
   have a1:(0:Int)≤((tw (bs s):Nat):Int):=by omega
   have a2:((tw (bs s):Nat):Int)≤(s.size:Int):=by omega
   have hb0:bs (s.extract 0 (tw (bs s)))=(bs s).take (tw (bs s)):=by rw [Tg];rfl
   have hb1:bs (s.extract (tw (bs s)) s.size)=(bs s).drop (tw (bs s)):=by
    conv=>lhs;rw [Tg,show (bs s).take s.size=bs s by rw [←za,List.take_length]]
   have hE:pj n s=RZ n (s.extract 0 (tw (bs s))) (s.extract (tw (bs s)) s.size):=by
    unfold pj wm
    by_cases g:(s.size:Int)>0
    · obtain ⟨c,hc,hb⟩:=ZD (s:=s) (by omega)
      have b2:(0:Int)<(s.size:Int):=g
      have g34:(c==34)=false:=by
       simp only [beq_eq_false_iff_ne]
       exact fun e=>h (by rw [hc,e])
      simp only [g,b2,hb,g34,hL,decide_true,Option.bind_some,onL,a1,a2,Int.toNat_natCast]
      rfl
    · simp only [g,hL,decide_false,Option.bind_some,onL,a1,a2,Int.toNat_natCast]
      rfl
   rw [hE]
   have:=fR n (s.extract 0 (tw (bs s))) (s.extract (tw (bs s)) s.size) (by have:=dg s 0 (tw (bs s));omega) (by have:=dg s (tw (bs s)) s.size;omega) hn
   rwa [hb0,hb1] at this
open Go Go.RowKit
theorem Q5:∀ (N:Nat) (r:List Int),r.length≤N→∀ x,qd r=some x→x.1.all okc=true
 | _,[],_,x,h=>by cases h
 | 0,c::r,h,_,_=>by simp at h
 | N+1,c::r,hN,x,h=>by
  rw [jh] at h
  split at h
  · cases h;rfl
  · split at h
    · cases r with
      | nil=>cases h
      | cons d r=>
       simp only at h
       split at h
       · rename_i hd
         obtain ⟨y,hy,rfl⟩:=Option.map_eq_some_iff.1 h
         have:=Q5 N r (by simp at hN;omega) y hy
         rw [List.all_cons,hd,this];rfl
       · cases h
    · split at h
      · rename_i hd
        obtain ⟨y,hy,rfl⟩:=Option.map_eq_some_iff.1 h
        have:=Q5 N r (by simp at hN;omega) y hy
        rw [List.all_cons,hd,this];rfl
      · cases h
theorem o4:∀ (l:List Int),l.all okc=true→∀ z,qd (esc l++34::z)=some (l,z)
 | [],_,z=>by rw [show esc []++34::z=34::z from rfl,jh];rfl
 | c::r,h,z=>by
  rw [List.all_cons,Bool.and_eq_true] at h
  have ih:=o4 r h.2 z
  rw [WF]
  by_cases g:c=34∨c=92
  · rw [if_pos g]
    rw [show ([92,c]++esc r)++34::z=92::c::(esc r++34::z) by simp,jh]
    simp only [h.1,ih]
    rfl
  · rw [if_neg g]
    rw [show ([c]++esc r)++34::z=c::(esc r++34::z) by simp,jh,if_neg fun e=>g (.inl e),if_neg fun e=>g (.inr e),if_pos h.1,ih]
    rfl
theorem uZ {l:List Int} (h:pl 0 l=true):1≤l.length∧l.head?≠some 34:=by
 cases l with
 | nil=>simp [pl] at h
 | cons c r=>
  refine ⟨by simp,fun e=>?_⟩
  simp at e
  subst e
  have:JV 34=false:=by decide
  simp [pl,this] at h
theorem F5 {m:List Int} (h:m.all okc=true):jX (qs m)=decide ((qs m).length≤64):=by
 unfold qs
 by_cases hp:pl 0 m=true
 · rw [if_pos hp]
   obtain ⟨h1,h2⟩:=uZ hp
   unfold jX
   rw [if_neg h2,hp]
   simp [h1]
 · rw [if_neg hp]
   have hp':pl 0 m=false:=by simpa using hp
   unfold jX
   have hd:(qt m).drop 1=esc m++34::[]:=rfl
   rw [if_pos (by rfl:(qt m).head?=some 34),hd,o4 m h []]
   simp [hp',qt]
theorem C4:∀ l:List Int,(idx 64 l= -1→tw l=l.length)∧(idx 64 l≠ -1→idx 64 l=(tw l:Int)∧(l.drop (tw l)).head?=some 64)
 | []=>by simp [idx,tw]
 | c::r=>by
  have ih:=C4 r
  have hge:=(Jq (c:=64) r).2
  simp only [idx,tw]
  by_cases g:c=64
  · simp [g]
  · rw [if_neg g,if_neg g]
    by_cases g2:idx 64 r= -1
    · rw [if_pos g2]
      exact ⟨fun _=>by rw [ih.1 g2];rfl,fun h=>absurd rfl h⟩
    · rw [if_neg g2]
      have:=ih.2 g2
      exact ⟨fun h=>by omega,fun _=>⟨by rw [this.1];rfl,by rw [List.drop_succ_cons];exact this.2⟩⟩
theorem X1 (l:List Int):T1 l=w8 l:=by
 unfold T1 w8 loc
 by_cases h:l.head?=some 34
 · rw [if_pos h,if_pos h]
   cases hx:qd (l.drop 1) with
   | none=>rfl
   | some x=>
    simp only [Option.map_some,Option.bind_some]
    unfold DT
    rw [F5 (Q5 _ _ (Nat.le_refl _) x hx),PV]
    by_cases g1:(qs x.1).length≤64<;>by_cases g2:x.2.head?=some 64<;>cases X0 ((x.2.drop 1).map low)<;>simp [g1,g2]
 · rw [if_neg h,if_neg h]
   have ht:=C4 l
   have hge:=(Jq (c:=64) l).2
   by_cases g:idx 64 l= -1
   · rw [if_pos g,ht.1 g,List.drop_length]
     simp [DT]
   · rw [if_neg g]
     obtain ⟨e1,e2⟩:=ht.2 g
     rw [e1,Int.toNat_natCast]
     by_cases hp:pl 0 (l.take (tw l))=true
     · rw [if_pos hp]
       obtain ⟨h1,h2⟩:=uZ hp
       simp only [Option.bind_some]
       unfold DT
       have hloc:jX (l.take (tw l))=decide ((l.take (tw l)).length≤64):=by
        unfold jX
        rw [if_neg h2,hp]
        simp only [h1,decide_true,Bool.true_and,Bool.and_true]
       rw [hloc,PV,e2]
       by_cases g1:(l.take (tw l)).length≤64<;>cases X0 (((l.drop (tw l)).drop 1).map low)<;>simp only [g1,decide_true,decide_false]<;>simp
     · rw [if_neg hp]
       simp only [Option.bind_none]
       have hloc:jX (l.take (tw l))=false:=by
        unfold jX
        by_cases h34:(l.take (tw l)).head?=some 34
        · exfalso
          apply h
          cases l with
          | nil=>simp at h34
          | cons c r=>
           cases htw:tw (c::r) with
           | zero=>rw [htw] at h34;simp at h34
           | succ k=>rw [htw] at h34;simpa using h34
        · rw [if_neg h34]
          have:pl 0 (l.take (tw l))=false:=by simpa using hp
          rw [this];simp
       unfold DT
       rw [hloc]
       simp
theorem GV (n:Nat) (a b:BA) (ha:a.size≤100000) (hb:b.size≤100000):pJ n (a,(b,()))=some ((a++(⟨#[64]⟩:BA))++b)∧Nr n (a,(b,()))=some ((a++(⟨#[64]⟩:BA))++b):=by
 have h64:(⟨#[64]⟩:BA).size=1:=rfl
 have f1:Ca a (⟨#[64]⟩:BA)=true:=FN (by omega)
 have f2:Ca (a++(⟨#[64]⟩:BA)) b=true:=FN (by rw [ByteArray.size_append];omega)
 unfold pJ QK Nr aH
 rw [if_pos f1,if_pos f2]
 exact ⟨rfl,rfl⟩
end Go.Proofs.YtddefjokgaajfaaGreatDoor.AM
