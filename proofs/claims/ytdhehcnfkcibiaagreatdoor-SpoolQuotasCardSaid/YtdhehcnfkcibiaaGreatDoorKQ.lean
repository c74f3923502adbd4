/- Strings as lists of numbers: what the typed functions do to them. -/
import Derived.Test.YtdhehcnfkcibiaaGreatDoorKA
import Derived.Lib.Strings
import Derived.Lib.Bytealg
import Derived.IntWalk
import Derived.Test.YtdhehcnfkcibiaaGreatDoorKFz
import Derived.Lib.ItoaNum
import Derived.Test.YtdhehcnfkcibiaaGreatDoorKB2
set_option linter.all false
set_option linter.unusedVariables false
set_option linter.unusedSimpArgs false
namespace Go.Proofs.YtdhehcnfkcibiaaGreatDoor.AM
open Go
def bs (s:BA):List Int:=s.data.toList.map fun c=>(c.toNat:Int)
theorem Fa (s:BA):(bs s).length=s.size:=by simp [bs,ByteArray.size_data]
theorem uE:∀ {a b:List UInt8},(a.map fun c=>(c.toNat:Int))=(b.map fun c=>(c.toNat:Int))→a=b
 | [],[],_=>rfl
 | [],_::_,h=>by simp at h
 | _::_,[],h=>by simp at h
 | x::xs,y::ys,h=>by
  simp only [List.map_cons,List.cons.injEq] at h
  rw [uE h.2,UInt8.toNat_inj.1 (by have:=h.1;omega:x.toNat=y.toNat)]
theorem GY {a b:BA} (h:bs a=bs b):a=b:=by
 have:=uE h
 exact ByteArray.ext (Array.toList_inj.1 this)
theorem Hv (a b:BA):(a.toList==b.toList)=decide (bs a=bs b):=by
 rw [Lib.toList_data,Lib.toList_data]
 by_cases h:bs a=bs b
 · rw [decide_eq_true h,GY h];simp
 · rw [decide_eq_false h]
   have:a.data.toList≠b.data.toList:=fun e=>h (by unfold bs;rw [e])
   simpa using this
theorem aR (a b:BA):bs (a++b)=bs a++bs b:=by simp [bs,ByteArray.data_append]
theorem sj (a:BA) (i j:Nat):bs (a.extract i j)=((bs a).take j).drop i:=by
 simp [bs,ByteArray.data_extract,List.map_drop,List.map_take,List.extract,List.drop_take]
theorem cR {s:BA} {c:Int} (h:c∈bs s):0≤c∧c<256:=by
 simp only [bs,List.mem_map] at h
 obtain ⟨x,_,rfl⟩:=h
 have:=x.toNat_lt
 omega
theorem dR {s:BA} {k:Nat} {c:Int} (h:(bs s)[k]?=some c):bt s (k:Int)=c:=by
 have hl:k<s.size:=by have:=(List.getElem?_eq_some_iff.1 h).1;rwa [Fa] at this
 unfold bt
 rw [dif_pos (by simpa using hl)]
 simp only [bs,List.getElem?_map] at h
 rw [Array.getElem?_toList,Array.getElem?_eq_getElem (by rwa [ByteArray.size_data])] at h
 simp at h
 exact h
theorem dl {s:BA} {k:Nat} {c:Int} {r:List Int} (h:(bs s).drop k=c::r):(k:Int)<(s.size:Int)∧bt s (k:Int)=c∧(bs s).drop (k+1)=r∧0≤c∧c<256:=by
 have h1:(bs s)[k]?=some c:=by
  have:=congrArg (fun l=>l[0]?) h
  simpa using this
 have hl:k<s.size:=by have:=(List.getElem?_eq_some_iff.1 h1).1;rwa [Fa] at this
 refine ⟨by omega,dR h1,?_,cR (List.mem_of_getElem? h1)⟩
 rw [←List.drop_drop,h];rfl
theorem Vs {s:BA} {k:Nat} (h:(bs s).drop k=[]):¬((k:Int)<(s.size:Int)):=by
 have:=List.drop_eq_nil_iff.1 h
 rw [Fa] at this
 omega
theorem wr {x:Int} (h1: -9223372036854775808≤x) (h2:x≤9223372036854775807):IntKind.wrap .i64 x=x:=by
 rw [IntKind.wrap_i64]
 omega
theorem L8 {k:Nat} (h:k<4611686018427387904):IntKind.wrap .i64 ((k:Int)+1)=((k+1:Nat):Int):=by
 rw [wr (by omega) (by omega)];rfl
theorem EI:∀ (l:List Int) (r:BA),(∀ x∈l,0≤x∧x<256)→bs (l.foldl (fun r c=>r.push (UInt8.ofNat c.toNat)) r)=bs r++l
 | [],r,_=>by simp
 | x::l,r,h=>by
  rw [List.foldl_cons,EI l _ fun y hy=>h y (List.mem_cons_of_mem _ hy)]
  have hx:=h x List.mem_cons_self
  have:bs (r.push (UInt8.ofNat x.toNat))=bs r++[x]:=by
   have e:(UInt8.ofNat x.toNat).toNat=x.toNat:=by simp [UInt8.toNat_ofNat'];omega
   simp [bs,ByteArray.push,e]
   omega
  rw [this];simp
theorem qO {n:Nat} {f:Nat→Int} (h:∀ i,i<n→0≤f i∧f i<256):bs (lE n f)=(List.range n).map f:=by
 unfold lE
 rw [EI _ _ fun x hx=>by
  simp only [List.mem_map,List.mem_range] at hx
  obtain ⟨i,hi,rfl⟩:=hx
  exact h i hi]
 rfl
def s7 (c:Int):List Int→Int
 | []=> -1
 | b::l=>if b=c then 0 else if s7 c l= -1 then -1 else s7 c l+1
theorem HV {c:Int} (h0:0≤c) (h1:c<256):∀ l:List UInt8,Lib.indexByte l (Nat.toUInt8 (Int.toNat c))=s7 c (l.map fun c=>(c.toNat:Int))
 | []=>rfl
 | b::l=>by
  have e:(Nat.toUInt8 (Int.toNat c)).toNat=c.toNat:=by simp [Nat.toUInt8,UInt8.toNat_ofNat'];omega
  simp only [Lib.indexByte,List.map_cons,s7,HV h0 h1 l]
  have hb:(b==Nat.toUInt8 (Int.toNat c))=decide ((b.toNat:Int)=c):=by
   by_cases hh:(b.toNat:Int)=c
   · rw [decide_eq_true hh]
     have:b=Nat.toUInt8 (Int.toNat c):=UInt8.toNat_inj.1 (by rw [e];omega)
     simp [←this]
   · rw [decide_eq_false hh]
     have:b≠Nat.toUInt8 (Int.toNat c):=fun h=>hh (by rw [h,e];omega)
     simpa using this
  rw [hb]
  by_cases hh:(b.toNat:Int)=c<;>simp [hh]
theorem gT {c:Int} (h0:0≤c) (h1:c<256) (l:List UInt8):Lib.countByte l (Nat.toUInt8 (Int.toNat c))=(l.map fun c=>(c.toNat:Int)).count c:=by
 have e:(Nat.toUInt8 (Int.toNat c)).toNat=c.toNat:=by simp [Nat.toUInt8,UInt8.toNat_ofNat'];omega
 unfold Lib.countByte
 induction l with
 | nil=>rfl
 | cons b l ih=>
  simp only [List.map_cons,List.count_cons,ih]
  by_cases hh:(b.toNat:Int)=c
  · have:b=Nat.toUInt8 (Int.toNat c):=UInt8.toNat_inj.1 (by rw [e];omega)
    simp [hh,←this]
  · have:b≠Nat.toUInt8 (Int.toNat c):=fun h=>hh (by rw [h,e];omega)
    simp [hh,this]
open Go
def o8 (c:Int):Bool:=decide (97≤c)&&decide (c≤122) || decide (48≤c)&&decide (c≤57)
def XA:List Int:=[33,35,36,37,38,39,42,43,45,47,61,63,94,95,96,123,124,125,126]
def vV (c:Int):Bool:=o8 c || decide (65≤c)&&decide (c≤90) || decide (c∈XA)
theorem wS (n:Nat) (c:Int):iy n c=some (o8 c):=by
 unfold iy Mz o8
 by_cases h1:97≤c<;>by_cases h2:c≤122<;>by_cases h3:48≤c<;>by_cases h4:c≤57<;>simp [h1,h2,h3,h4]<;>omega
theorem Um {c:Int}:∀ l:List Int,(0≤s7 c l↔c∈l)∧ -1≤s7 c l
 | []=>by simp [s7]
 | b::l=>by
  have:=Um (c:=c) l
  simp only [s7]
  by_cases h:b=c
  · simp [h]
  · rw [if_neg h]
    have hc:c≠b:=fun e=>h e.symm
    by_cases h2:s7 c l= -1
    · rw [if_pos h2]
      have:¬c∈l:=fun hm=>by have:=this.1.2 hm;omega
      simp [hc,this]
    · rw [if_neg h2]
      have h3:0≤s7 c l:=by omega
      have:=this.1.1 h3
      constructor
      · constructor
        · intro _;exact List.mem_cons_of_mem _ this
        · intro _;omega
      · omega
theorem dD (n:Nat) (s:BA) {c:Int} (h0:0≤c) (h1:c<256):tf n s c=some (s7 c (bs s)):=by
 unfold tf Ak Gk jk
 simp [HV h0 h1,bs]
theorem MN:bs (⟨#[33,35,36,37,38,39,42,43,45,47,61,63,94,95,96,123,124,125,126]⟩:BA)=XA:=by decide
theorem gW (n:Nat) {c:Int} (h0:0≤c) (h1:c<256):dy n c=some (vV c):=by
 unfold dy pz vV
 rw [wS,dD _ _ h0 h1,MN]
 have:=(Um (c:=c) XA).1
 have hd:decide (s7 c XA≥0)=decide (c∈XA):=by rw [decide_eq_decide];exact this
 cases hs:o8 c<;>by_cases h2:65≤c<;>by_cases h3:c≤90<;>simp [h2,h3,hd]<;>omega
def pl:Nat→List Int→Bool
 | w,[]=>decide (0<w)
 | w,c::r=>if c=46 then (if w=0 then false else pl 0 r) else if vV c=true then pl (w+1) r else false
def g8:Nat→List Int→Lx Int Bool
 | w,[]=>.out w
 | w,c::r=>if c=46 then (if w=0 then .ret false else g8 0 r) else if vV c=true then g8 (w+1) r else .ret false
theorem YO (n:Nat) (s:BA) (hs:s.size<4611686018427387904):∀ (r:List Int) (k w m:Nat),(bs s).drop k=r→k≤s.size→w≤k→r.length<m→Pd n m s w s.size k=some (g8 w r)
 | [],k,w,m,h,hk,hw,hm=>by
  obtain ⟨m,rfl⟩:∃ q,m=q+1:=⟨m - 1,by omega⟩
  have:=Vs h
  simp [Pd,Ej,this,g8]
 | c::r,k,w,m,h,hk,hw,hm=>by
  obtain ⟨m,rfl⟩:∃ q,m=q+1:=⟨m - 1,by omega⟩
  obtain ⟨h1,h2,h3,h4,h5⟩:=dl h
  have ih:=fun w hw=>YO n s hs r (k+1) w m h3 (by omega) hw (by simpa using hm)
  have hk0:(0:Int)≤(k:Int):=by omega
  have e1:=L8 (k:=k) (by omega)
  have e2:=L8 (k:=w) (by omega)
  simp only [Pd,Ej,h1,h2,hk0,gW n h4 h5,e1,e2,g8]
  by_cases hc:c=46
  · subst hc
    by_cases hw0:w=0
    · subst hw0;simp
    · have:((w:Int)==0)=false:=by simpa using hw0
      have:=ih 0 (by omega)
      simp_all
  · have hc':(c==46)=false:=by simpa using hc
    cases ha:vV c with
    | true=>simp [hc,hc',ha];exact ih (w+1) (by omega)
    | false=>simp [hc,hc',ha]
theorem mS:∀ (r:List Int) (w:Nat),W7 (g8 w r) (fun a=>decide (a>(0:Int))) (fun b=>b) (fun _=>false)=pl w r
 | [],w=>by simp [g8,pl,W7]
 | c::r,w=>by
  simp only [g8,pl]
  split
  · split
    · rfl
    · exact mS r 0
  · split
    · exact mS r (w+1)
    · rfl
theorem RF:∀ (r:List Int) (w:Nat) (p:Int),g8 w r≠.pan p
 | [],w,p=>by simp [g8]
 | c::r,w,p=>by
  simp only [g8]
  split
  · split
    · simp
    · exact RF r 0 p
  · split
    · exact RF r (w+1) p
    · simp
theorem ZO (n:Nat) (s:BA) (hs:s.size<4611686018427387904) (hn:s.size<n):Po n s=some (pl 0 (bs s)):=by
 unfold Po Ov
 have:=YO n s hs (bs s) 0 0 n (by simp) (by omega) (by omega) (by rw [Fa];exact hn)
 rw [show ((0:Nat):Int)=0 from rfl] at this
 rw [this,Option.bind_some,←mS]
 cases h:g8 0 (bs s) with
 | out a=>rfl
 | ret b=>rfl
 | pan p=>exact absurd h (RF _ _ _)
open Go
def r8 {α β:Type} (f:α→β) (q:Sq α):List β:=(List.range q.n).map fun i=>f (q.at' i)
theorem qo {α β:Type} (f:α→β) (q:Sq α):(r8 f q).length=q.n:=by simp [r8]
theorem uG {α β:Type} {f:α→β} {q:Sq α} {i:Nat} (h:i<q.n):(r8 f q)[i]?=some (f (q.at' i)):=by simp [r8,h]
theorem lK {α β:Type} (f:α→β) (q:Sq α) (y z:α):r8 f (⟨q.n+1,fun i=>if i<q.n then q.at' i else (fun i=>List.getD [y] i z) (i - q.n)⟩:Sq α)=r8 f q++[f y]:=by
 unfold r8
 simp only [List.range_succ,List.map_append,List.map_cons,List.map_nil]
 congr 1
 · apply List.map_congr_left
   intro i hi
   simp only [List.mem_range] at hi
   simp [hi]
 · simp
theorem kK {α β:Type} {f:α→β} {q:Sq α} {k:Nat} {x:β} {r:List β} (h:(r8 f q).drop k=x::r):k<q.n∧f (q.at' k)=x∧(r8 f q).drop (k+1)=r:=by
 have h1:(r8 f q)[k]?=some x:=by
  have:=congrArg (fun l=>l[0]?) h
  simpa using this
 have hl:k<q.n:=by have:=(List.getElem?_eq_some_iff.1 h1).1;rwa [qo] at this
 refine ⟨hl,?_,?_⟩
 · rw [uG hl] at h1;exact Option.some.inj h1
 · rw [←List.drop_drop,h];rfl
theorem RN {α β:Type} {f:α→β} {q:Sq α} {k:Nat} (h:(r8 f q).drop k=[]):q.n≤k:=by
 have:=List.drop_eq_nil_iff.1 h
 rwa [qo] at this
theorem J2 {n:Nat} (h:n≤4000000):wc (n+1) 16=true:=by
 unfold wc
 simp only [Bool.and_eq_true,Nat.ble_eq]
 omega
theorem O2 {n:Nat} (h:n≤4000000):wc (n+1) 1=true:=by
 unfold wc
 simp only [Bool.and_eq_true,Nat.ble_eq]
 omega
def fc (d:Int):List Int→List Int→List (List Int)
 | cur,[]=>[cur]
 | cur,c::r=>if c=d then cur::fc d [] r else fc d (cur++[c]) r
theorem mT {s:BA} {f k:Nat} {c:Int} {r:List Int} (h:(bs s).drop k=c::r) (hf:f≤k):bs (s.extract f (k+1))=bs (s.extract f k)++[c]:=by
 rw [sj,sj]
 have h1:(bs s)[k]?=some c:=by
  have:=congrArg (fun l=>l[0]?) h
  simpa using this
 have hk:k<(bs s).length:=(List.getElem?_eq_some_iff.1 h1).1
 rw [List.take_add_one,h1]
 rw [List.drop_append_of_le_length (by rw [List.length_take];omega)]
 rfl
theorem wO {s:BA} (k:Nat):bs (s.extract k k)=[]:=by
 rw [sj]
 simp
theorem PI (n:Nat) (s:BA) (d:Int) (hs:s.size≤1000000):∀ (r:List Int) (k f m:Nat) (l:Sq BA),(bs s).drop k=r→k≤s.size→f≤k→l.n≤k→r.length+2≤m→
  ∃ q,Ud n m s d f k l=some (.out q)∧r8 bs q=r8 bs l++fc d (bs (s.extract f k)) r
 | [],k,f,m,l,h,hk,hf,hl,hm=>by
  obtain ⟨m,rfl⟩:∃ q,m=q+2:=⟨m - 2,by simp at hm;omega⟩
  have hn:=Vs h
  have hks:k=s.size:=by omega
  have e1:=L8 (k:=k) (by omega)
  have a1:((k:Int)≤(s.size:Int)):=by omega
  have a2:((k:Int)==(s.size:Int))=true:=by rw [hks];simp
  have a3:(0:Int)≤(k:Int):=by omega
  have a4:(0:Int)≤(f:Int):=by omega
  have a5:(f:Int)≤(k:Int):=by omega
  have a6:=J2 (n:=l.n) (by omega)
  have a7:¬(((k+1:Nat):Int)≤(s.size:Int)):=by omega
  refine ⟨(⟨(l.n+1),fun q=>if q<l.n then l.at' q else (fun q=>List.getD (α:=BA) [(s.extract f k)] q (Ea .str)) (q - l.n)⟩:Sq BA),?_,?_⟩
  · simp only [Ud,Oj,a1,a2,a3,a4,a5,a6,a7,e1]
    simp
  · refine (lK bs l (s.extract f k) _).trans ?_;simp [fc]
 | c::r,k,f,m,l,h,hk,hf,hl,hm=>by
  obtain ⟨m,rfl⟩:∃ q,m=q+1:=⟨m - 1,by simp at hm;omega⟩
  obtain ⟨h1,h2,h3,h4,h5⟩:=dl h
  have e1:=L8 (k:=k) (by omega)
  have a1:((k:Int)≤(s.size:Int)):=by omega
  have a2:((k:Int)==(s.size:Int))=false:=by simp;omega
  have a3:(0:Int)≤(k:Int):=by omega
  have a4:(0:Int)≤(f:Int):=by omega
  have a5:(f:Int)≤(k:Int):=by omega
  have a6:=J2 (n:=l.n) (by omega)
  simp only [Ud,Oj,a1,a2,a3,a4,a5,a6,h1,h2,e1]
  by_cases hc:c=d
  · subst hc
    obtain ⟨q,hq,hl'⟩:=PI n s c hs r (k+1) (k+1) m (⟨(l.n+1),fun q=>if q<l.n then l.at' q else (fun q=>List.getD (α:=BA) [(s.extract f k)] q (Ea .str)) (q - l.n)⟩:Sq BA) h3 (by omega) (by omega) (by simp;omega) (by simp at hm;omega)
    refine ⟨q,by simpa using hq,?_⟩
    rw [hl',wO,show r8 bs (⟨(l.n+1),fun q=>if q<l.n then l.at' q else (fun q=>List.getD (α:=BA) [(s.extract f k)] q (Ea .str)) (q - l.n)⟩:Sq BA)=r8 bs l++[bs (s.extract f k)] from lK bs l (s.extract f k) _]
    simp [fc]
  · have hc':(c==d)=false:=by simpa using hc
    obtain ⟨q,hq,hl'⟩:=PI n s d hs r (k+1) f m l h3 (by omega) (by omega) (by omega) (by simp at hm;omega)
    refine ⟨q,by simpa [hc'] using hq,?_⟩
    rw [hl',mT h hf]
    simp [fc,hc]
theorem kO (n:Nat) (s:BA) (d:Int) (hs:s.size≤1000000) (hn:10000000≤n):∃ q,ss n s d=some q∧r8 bs q=fc d [] (bs s):=by
 obtain ⟨q,h1,h2⟩:=PI n s d hs (bs s) 0 0 n (⟨0,fun _=>Ea .str⟩:Sq BA) (by simp) (by omega) (by omega) (Nat.le_refl _) (by rw [Fa];omega)
 refine ⟨q,?_,by rw [h2,wO];rfl⟩
 unfold ss cw
 rw [show ((0:Nat):Int)=0 from rfl] at h1
 rw [h1];rfl
theorem iT (n:Nat) (c:Int):Bs n c=some (decide (48≤c)&&decide (c≤57)):=by
 unfold Bs fw
 by_cases h3:48≤c<;>by_cases h4:c≤57<;>simp [h3,h4]
theorem xC (d:Int):∀ (r cur:List Int),(fc d cur r).length≤r.length+1∧∀ w∈fc d cur r,w.length≤cur.length+r.length
 | [],cur=>by simp [fc]
 | c::r,cur=>by
  simp only [fc]
  split
  · have:=xC d r []
    refine ⟨by simp;omega,fun w hw=>?_⟩
    rcases List.mem_cons.1 hw with rfl | hw
    · omega
    · have:=this.2 w hw;simp at this ⊢;omega
  · have:=xC d r (cur++[c])
    refine ⟨by simp;omega,fun w hw=>?_⟩
    have:=this.2 w hw;simp at this ⊢;omega
theorem az {q:Sq BA} {s:BA} {d:Int} (h:r8 bs q=fc d [] (bs s)):q.n≤s.size+1∧∀ i,i<q.n→(q.at' i).size≤s.size:=by
 have h0:=xC d (bs s) []
 rw [Fa,←h,qo] at h0
 refine ⟨h0.1,fun i hi=>?_⟩
 have:=h0.2 (bs (q.at' i)) (List.mem_of_getElem? (uG hi))
 rw [Fa] at this
 simpa using this
open Go
def U6 (c:Int):Bool:=decide (48≤c)&&decide (c≤57)
def sM:Int→List Int→Int
 | n,[]=>n
 | n,c::r=>sM (10*n+(c - 48)) r
def S7 (w:List Int):Bool:=!w.isEmpty&&decide (w.length≤16)&&!(decide (1<w.length)&&decide (w.head?=some 48))&&w.all U6&&decide (sM 0 w≤255)
def T6 (u:Nat):List UInt8:=if u<10 then [UInt8.ofNat (48+u)] else if u<100 then [UInt8.ofNat (48+u / 10),UInt8.ofNat (48+u%10)] else [UInt8.ofNat (48+u / 100),UInt8.ofNat (48+u / 10%10),UInt8.ofNat (48+u%10)]
theorem xV {u:Nat} (h:u<1000):Lib.decDigits u=T6 u:=by
 unfold T6
 split
 · rename_i h1;rw [Lib.decDigits_one h1]
 · rename_i h1
   split
   · rename_i h2;rw [Lib.decDigits_two h1 h2]
   · rename_i h2
     rw [Lib.decDigits,dif_neg h1,Lib.decDigits_two (by omega) (by omega)]
     simp only [List.cons_append,List.nil_append]
     congr 3
     omega
def xL (l:List UInt8):List Int:=l.map fun c=>(c.toNat:Int)
theorem HY:∀ v:Fin 256,S7 (xL (T6 v.val))=true:=by decide+kernel
theorem L7:∀ a:Fin 10,S7 [48+(a.val:Int)]=true→Lib.atoiAll [UInt8.ofNat (48+a.val)]=.ok (a.val:Int)∧T6 a.val=[UInt8.ofNat (48+a.val)]:=by decide+kernel
theorem M7:∀ a b:Fin 10,S7 [48+(a.val:Int),48+(b.val:Int)]=true→Lib.atoiAll [UInt8.ofNat (48+a.val),UInt8.ofNat (48+b.val)]=.ok ((10*a.val+b.val:Nat):Int)∧T6 (10*a.val+b.val)=[UInt8.ofNat (48+a.val),UInt8.ofNat (48+b.val)]:=by decide+kernel
theorem N7:∀ a b c:Fin 10,S7 [48+(a.val:Int),48+(b.val:Int),48+(c.val:Int)]=true→
  100*a.val+10*b.val+c.val<256∧Lib.atoiAll [UInt8.ofNat (48+a.val),UInt8.ofNat (48+b.val),UInt8.ofNat (48+c.val)]=.ok ((100*a.val+10*b.val+c.val:Nat):Int)∧T6 (100*a.val+10*b.val+c.val)=[UInt8.ofNat (48+a.val),UInt8.ofNat (48+b.val),UInt8.ofNat (48+c.val)]:=by decide+kernel
theorem JS:∀ (r:List Int) (n:Int),0≤n→r.all U6=true→n≤sM n r∧(∀ m:Int,m≤n→0≤m→∀ k,k≤r.length→m*10^k≤sM n r)
 | [],n,h,_=>⟨by simp [sM],fun m hm h0 k hk=>by
  have:k=0:=by simpa using hk
  subst this;simpa [sM] using hm⟩
 | c::r,n,h,hd=>by
  simp only [List.all_cons,Bool.and_eq_true] at hd
  have hc:48≤c∧c≤57:=by simpa [U6] using hd.1
  have ih:=JS r (10*n+(c - 48)) (by omega) hd.2
  simp only [sM]
  refine ⟨by have:=ih.1;omega,fun m hm h0 k hk=>?_⟩
  cases k with
  | zero=>have:=ih.1;simp;omega
  | succ k=>
   have:=ih.2 (10*m) (by omega) (by omega) k (by simpa using hk)
   rw [Int.pow_succ]
   have e:m*(10^k*10)=10*m*10^k:=by
    rw [Int.mul_comm (10^k) 10,←Int.mul_assoc,Int.mul_comm m 10]
   rw [e];exact this
def R7 (l:List UInt8):Bool:=match Lib.atoiAll l with
 | .ok v=>decide (0≤v)&&decide (v≤255)&&decide (Lib.itoa v=l)
 | _=>false
theorem RB {c:Int} (h:U6 c=true):∃ a:Fin 10,c=48+(a.val:Int):=by
 have hc:48≤c∧c≤57:=by simpa [U6] using h
 exact ⟨⟨(c - 48).toNat,by omega⟩,by simp;omega⟩
theorem mN:∀ {l:List UInt8} {l':List UInt8},xL l=xL l'→l=l':=fun h=>uE h
theorem rJ (a:Fin 10):((UInt8.ofNat (48+a.val)).toNat:Int)=48+(a.val:Int):=by
 have:=a.isLt
 simp [UInt8.toNat_ofNat']
 omega
theorem gS {l:List UInt8} {v:Nat} (hv:v<256) (h1:Lib.atoiAll l=.ok (v:Int)) (h2:T6 v=l):R7 l=true:=by
 unfold R7
 rw [h1]
 have:Lib.itoa (v:Int)=l:=by
  unfold Lib.itoa
  rw [if_neg (by omega)]
  rw [Int.toNat_natCast,xV (by omega),h2]
 simp [this]
 omega
theorem aZ (l:List UInt8):R7 l=S7 (xL l):=by
 apply Bool.eq_iff_iff.2
 constructor
 · intro h
   unfold R7 at h
   split at h
   · rename_i v hv
     simp only [Bool.and_eq_true,decide_eq_true_eq] at h
     obtain ⟨⟨h0,h1⟩,h2⟩:=h
     obtain ⟨u,rfl⟩:∃ u:Nat,v=(u:Int):=⟨v.toNat,by omega⟩
     have e:l=T6 u:=by
      rw [←h2,Lib.itoa,if_neg (by omega),Int.toNat_natCast,xV (by omega)]
     rw [e]
     exact HY ⟨u,by omega⟩
   · cases h
 · intro h
   have h':=h
   unfold S7 at h'
   simp only [Bool.and_eq_true,Bool.not_eq_true',decide_eq_true_eq] at h'
   obtain ⟨⟨⟨⟨h1,h2⟩,h3⟩,h4⟩,h5⟩:=h'
   rcases hl:l with _ | ⟨a,_ | ⟨b,_ | ⟨c,_ | ⟨d,r⟩⟩⟩⟩
   · subst hl;simp [xL] at h1
   · subst hl
     simp only [xL,List.map_cons,List.map_nil,List.all_cons,List.all_nil,Bool.and_true] at h4
     obtain ⟨x,hx⟩:=RB h4
     have ea:[a]=[UInt8.ofNat (48+x.val)]:=mN (by simp only [xL,List.map_cons,List.map_nil,rJ,hx])
     have ho:S7 [48+(x.val:Int)]=true:=by simpa [xL,hx] using h
     obtain ⟨p1,p2⟩:=L7 x ho
     rw [ea]
     exact gS (by have:=x.isLt;omega) p1 p2
   · subst hl
     simp only [xL,List.map_cons,List.map_nil,List.all_cons,List.all_nil,Bool.and_true,Bool.and_eq_true] at h4
     obtain ⟨x,hx⟩:=RB h4.1
     obtain ⟨y,hy⟩:=RB h4.2
     have ea:[a,b]=[UInt8.ofNat (48+x.val),UInt8.ofNat (48+y.val)]:=mN (by simp only [xL,List.map_cons,List.map_nil,rJ,hx,hy])
     have ho:S7 [48+(x.val:Int),48+(y.val:Int)]=true:=by simpa [xL,hx,hy] using h
     obtain ⟨p1,p2⟩:=M7 x y ho
     rw [ea]
     exact gS (by have:=x.isLt;have:=y.isLt;omega) p1 p2
   · subst hl
     simp only [xL,List.map_cons,List.map_nil,List.all_cons,List.all_nil,Bool.and_true,Bool.and_eq_true] at h4
     obtain ⟨x,hx⟩:=RB h4.1
     obtain ⟨y,hy⟩:=RB h4.2.1
     obtain ⟨z,hz⟩:=RB h4.2.2
     have ea:[a,b,c]=[UInt8.ofNat (48+x.val),UInt8.ofNat (48+y.val),UInt8.ofNat (48+z.val)]:=mN (by simp only [xL,List.map_cons,List.map_nil,rJ,hx,hy,hz])
     have ho:S7 [48+(x.val:Int),48+(y.val:Int),48+(z.val:Int)]=true:=by simpa [xL,hx,hy,hz] using h
     obtain ⟨p0,p1,p2⟩:=N7 x y z ho
     rw [ea]
     exact gS p0 p1 p2
   · exfalso
     subst hl
     simp only [xL,List.map_cons,List.length_cons,List.head?_cons,List.all_cons,Bool.and_eq_true] at h3 h4 h5
     have hne:(a.toNat:Int)≠48:=fun e=>by simp [e] at h3
     have ha:48≤(a.toNat:Int)∧(a.toNat:Int)≤57:=by simpa [U6] using h4.1
     simp only [sM] at h5
     have hd:=h4.2
     have hb:48≤(b.toNat:Int)∧(b.toNat:Int)≤57:=by simpa [U6] using hd.1
     have hc:48≤(c.toNat:Int)∧(c.toNat:Int)≤57:=by simpa [U6] using hd.2.1
     have hdd:48≤(d.toNat:Int)∧(d.toNat:Int)≤57:=by simpa [U6] using hd.2.2.1
     have:=(JS (List.map (fun c:UInt8=>(c.toNat:Int)) r) (10*(10*(10*(10*0+((a.toNat:Int) - 48))+((b.toNat:Int) - 48))+((c.toNat:Int) - 48))+((d.toNat:Int) - 48)) (by omega) hd.2.2.2).1
     omega
theorem M8 {x:Int} (h1:0≤x) (h2:x<256):IntKind.wrap .u8 x=x:=by
 unfold IntKind.wrap
 simp only [IntKind.bits,IntKind.signed]
 simp
 omega
def mV (n:Int) (r:List Int):Lx Int (Int×Bool):=if r.all U6=true then .out (sM n r) else .ret (0,false)
theorem mO (n:Nat) (s:BA) (hs:s.size≤16):∀ (r:List Int) (k m:Nat) (v:Int),(bs s).drop k=r→k≤s.size→r.length<m→0≤v→v<10^k→uc n m s v k=some (mV v r)
 | [],k,m,v,h,hk,hm,h0,hv=>by
  obtain ⟨m,rfl⟩:∃ q,m=q+1:=⟨m - 1,by simp at hm;omega⟩
  have:=Vs h
  simp [uc,Xg,this,mV,sM]
 | c::r,k,m,v,h,hk,hm,h0,hv=>by
  obtain ⟨m,rfl⟩:∃ q,m=q+1:=⟨m - 1,by simp at hm;omega⟩
  obtain ⟨h1,h2,h3,h4,h5⟩:=dl h
  have e1:=L8 (k:=k) (by omega)
  have a3:(0:Int)≤(k:Int):=by omega
  have hp:(10:Int)^k≤10^16:=by
   have:(10:Nat)^k≤10^16:=Nat.pow_le_pow_right (by decide) (by omega)
   exact_mod_cast this
  have hp2:(10:Int)^16=10000000000000000:=by decide
  by_cases hd:U6 c=true
  · have hc:48≤c∧c≤57:=by simpa [U6] using hd
    have ih:=mO n s hs r (k+1) m (10*v+(c - 48)) h3 (by omega) (by simpa using hm) (by omega) (by rw [Int.pow_succ];omega)
    have b1:¬c<48:=by omega
    have b2:¬c>57:=by omega
    have w1:=M8 (x:=c - 48) (by omega) (by omega)
    have w2:=wr (x:=c - 48) (by omega) (by omega)
    have w3:=wr (x:=10*v) (by omega) (by omega)
    have w4:=wr (x:=10*v+(c - 48)) (by omega) (by omega)
    simp only [uc,Xg,h1,h2,a3,e1,b1,b2,w1,w2,w3,w4]
    have:mV v (c::r)=mV (10*v+(c - 48)) r:=by simp only [mV,List.all_cons,hd,Bool.true_and,sM]
    rw [this]
    simpa using ih
  · have:mV v (c::r)=.ret (0,false):=by simp only [mV,List.all_cons,hd,Bool.false_and];simp
    rw [this]
    by_cases b1:c<48
    · simp [uc,Xg,h1,h2,a3,b1]
    · have b2:c>57:=by simp [U6] at hd;omega
      simp [uc,Xg,h1,h2,a3,b1,b2]
def U7 (w:List Int):Bool:=!w.isEmpty&&decide (w.length≤16)&&!(decide (1<w.length)&&decide (w.head?=some 48))&&w.all U6
theorem WS (n:Nat) (s:BA) (hn:10000000≤n):dw n s=some (if U7 (bs s)=true then (sM 0 (bs s),true,()) else (0,false,())):=by
 unfold dw ew U7
 rw [Hv,show bs (⟨#[]⟩:BA)=[] from rfl]
 have hlen:=Fa s
 by_cases he:bs s=[]
 · simp [he]
 · by_cases h16:s.size≤16
   · have hL:=mO n s h16 (bs s) 0 n 0 (by simp) (by omega) (by rw [hlen];omega) (by omega) (by simp)
     rw [show ((0:Nat):Int)=0 from rfl] at hL
     rw [hL]
     have hX:((some (mV 0 (bs s))).bind fun x_4=>W7 x_4 (fun a_5=>some (a_5,(true,()))) (fun a_6=>some (a_6.1,(a_6.2,()))) (fun _=>none))=some (if (bs s).all U6=true then (sM 0 (bs s),true,()) else (0,false,())):=by
      unfold mV
      cases (bs s).all U6<;>rfl
     rw [hX]
     have hne:(bs s).isEmpty=false:=by cases hb:bs s with
      | nil=>exact absurd hb he
      | cons _ _=>rfl
     have g16:¬((s.size:Int)>16):=by omega
     rw [hlen]
     by_cases h1:1<s.size
     · obtain ⟨c,r,hcr⟩:∃ c r,bs s=c::r:=by cases hb:bs s with
        | nil=>exact absurd hb he
        | cons c r=>exact ⟨c,r,rfl⟩
       have hb0:bt s ((0:Nat):Int)=c:=dR (by rw [hcr];rfl)
       rw [show ((0:Nat):Int)=0 from rfl] at hb0
       have g1:(s.size:Int)>1:=by omega
       have g2:(0:Int)<(s.size:Int):=by omega
       simp only [he,g16,g1,g2,hb0,hne,h1,h16]
       by_cases h48:c=48
       · subst h48;simp [hcr]
       · have:(c==48)=false:=by simpa using h48
         simp [hcr,h48,this]
     · have g1:¬((s.size:Int)>1):=by omega
       simp [he,g16,g1,hne,h1,h16]
   · have g16:(s.size:Int)>16:=by omega
     have:¬(bs s).length≤16:=by omega
     simp [he,g16,this]
theorem u3 (w:List Int):S7 w=(U7 w&&decide (sM 0 w≤255)):=rfl
open Go
theorem JO:∀ (l:List UInt8) (k:Int),GQ l [46] k=if s7 46 (l.map fun c=>(c.toNat:Int))= -1 then -1 else s7 46 (l.map fun c=>(c.toNat:Int))+k
 | [],k=>by simp [GQ,s7]
 | b::l,k=>by
  have ih:=JO l (k+1)
  have hge:=(Um (c:=46) (l.map fun c=>(c.toNat:Int))).2
  unfold GQ
  by_cases h:b=46
  · subst h
    have e:s7 46 (((46:UInt8)::l).map fun c=>(c.toNat:Int))=0:=by simp [s7]
    rw [e];simp
  · have h1:¬((b.toNat:Int)=46):=fun e=>h (by
     have:b.toNat=(46:UInt8).toNat:=by show b.toNat=46;omega
     exact UInt8.toNat_inj.1 this)
    have h2:(List.isPrefixOf [(46:UInt8)] (b::l))=false:=by
     simp only [List.isPrefixOf,Bool.and_true]
     simpa using fun e=>h e.symm
    rw [if_neg (by rw [h2];simp),ih,List.map_cons]
    by_cases h3:s7 46 (l.map fun c=>(c.toNat:Int))= -1
    · have e:s7 46 ((b.toNat:Int)::l.map fun c=>(c.toNat:Int))= -1:=by simp only [s7,h1,if_false,h3,if_true]
      rw [e,h3];simp
    · have e:s7 46 ((b.toNat:Int)::l.map fun c=>(c.toNat:Int))=s7 46 (l.map fun c=>(c.toNat:Int))+1:=by simp only [s7,h1,if_false,h3]
      rw [e,if_neg h3,if_neg (by omega)];omega
theorem gO (n:Nat) (s:BA) (hs:s.size≤1000000):zk n s Dom.dot=some (s7 46 (bs s)):=by
 unfold zk mw Bx
 rw [if_pos (by omega),Option.bind_some]
 congr 1
 have h:=JO s.data.toList 0
 rw [Int.add_zero] at h
 show GQ s.data.toList [46] 0=_
 rw [h]
 unfold bs
 split
 · rename_i h1;exact h1.symm
 · rfl
theorem jw (d:Int):∀ (l cur:List Int),fc d cur l=if s7 d l= -1 then [cur++l] else (cur++l.take (s7 d l).toNat)::fc d [] (l.drop ((s7 d l).toNat+1))
 | [],cur=>by simp [fc,s7]
 | c::l,cur=>by
  have ih:=jw d l (cur++[c])
  have hge:=(Um (c:=d) l).2
  by_cases h:c=d
  · have e:s7 d (c::l)=0:=by simp [s7,h]
    simp [fc,h,e]
    simp [s7]
  · by_cases h2:s7 d l= -1
    · have e:s7 d (c::l)= -1:=by simp [s7,h,h2]
      simp [fc,h,e,ih,h2]
    · have e:s7 d (c::l)=s7 d l+1:=by simp [s7,h,h2]
      have e2:(s7 d l+1).toNat=(s7 d l).toNat+1:=by omega
      have e3:¬(s7 d l+1= -1):=by omega
      simp only [fc,h,e,ih,h2,e2,e3,if_false]
      simp
theorem uL (d:Int):∀ (l:List Int),s7 d l<l.length∧(s7 d l= -1→l.count d=0)∧(s7 d l≠ -1→l.count d=(l.drop ((s7 d l).toNat+1)).count d+1)
 | []=>by simp [s7]
 | c::l=>by
  have ih:=uL d l
  have hge:=(Um (c:=d) l).2
  simp only [s7]
  by_cases h:c=d
  · first | (simp [h];done) | (simp [h];omega)
  · rw [if_neg h]
    have hc:(c==d)=false:=by simpa using h
    by_cases h2:s7 d l= -1
    · have:=ih.2.1 h2
      simp [h2,List.count_cons,this,hc]
      omega
    · rw [if_neg h2]
      have e:(s7 d l+1).toNat=(s7 d l).toNat+1:=by omega
      have:=ih.2.2 h2
      refine ⟨by simp;omega,fun h=>by omega,fun _=>?_⟩
      rw [e,List.count_cons,this]
      simp [hc]
theorem sF (n:Nat) (N:Nat) (hN:N≤1000000):∀ (c i m:Nat) (s:BA) (a:Sq BA),s.size≤1000000→(bs s).count 46=c→i+c=N→a.n=N+1→c<m→
  ∃ s' a',Nb n m s Dom.dot 0 N i a=some (.out (s',(N:Int),a'))∧a'.n=N+1∧(∀ j,j<i→a'.at' j=a.at' j)∧
   ∃ P:List (List Int),fc 46 [] (bs s)=P++[bs s']∧P.length=c∧∀ j w,P[j]?=some w→bs (a'.at' (i+j))=w
 | 0,i,m,s,a,hs,hc,hi,ha,hm=>by
  obtain ⟨m,rfl⟩:∃ q,m=q+1:=⟨m - 1,by omega⟩
  have hiN:i=N:=by omega
  subst hiN
  refine ⟨s,a,?_,ha,fun _ _=>rfl,[],?_,rfl,fun j w h=>by simp at h⟩
  · simp [Nb,tg]
  · have hx:s7 46 (bs s)= -1:=by
     have:=uL 46 (bs s)
     have hge:=(Um (c:=46) (bs s)).2
     refine Classical.byContradiction fun h=>?_
     have:=this.2.2 h
     omega
    rw [jw,if_pos hx];rfl
 | c+1,i,m,s,a,hs,hc,hi,ha,hm=>by
  obtain ⟨m,rfl⟩:∃ q,m=q+1:=⟨m - 1,by omega⟩
  have hlt:=uL 46 (bs s)
  have hge:=(Um (c:=46) (bs s)).2
  have hx:s7 46 (bs s)≠ -1:=fun h=>by have:=hlt.2.1 h;omega
  obtain ⟨k,hk⟩:∃ k:Nat,s7 46 (bs s)=(k:Int):=⟨(s7 46 (bs s)).toNat,by omega⟩
  have hks:k<s.size:=by have:=hlt.1;rw [Fa] at this;omega
  have hcount:=hlt.2.2 hx
  rw [hk,Int.toNat_natCast,hc] at hcount
  have hbe:bs (s.extract (k+1) s.size)=(bs s).drop (k+1):=by
   rw [sj,←Fa,List.take_length]
  have hsz:(s.extract (k+1) s.size).size≤1000000:=by
   rw [←Fa,hbe,List.length_drop,Fa];omega
  obtain ⟨s',a',h1,h2,h3,P,h4,h5,h6⟩:=sF n N hN c (i+1) m (s.extract (k+1) s.size)
   (⟨a.n,fun q=>if q=i∧q<a.n then s.extract 0 k else a.at' q⟩:Sq BA) hsz (by rw [hbe];omega) (by omega) ha (by omega)
  refine ⟨s',a',?_,h2,fun j hj=>?_,(bs s).take k::P,?_,by simp [h5],fun j w hw=>?_⟩
  · have a1:(i:Int)<(N:Int):=by omega
    have a2:¬((k:Int)<0):=by omega
    have a3:(0:Int)≤(i:Int):=by omega
    have a4:(i:Int)<(a.n:Int):=by omega
    have a5:(0:Int)≤(k:Int):=by omega
    have a6:(k:Int)≤(s.size:Int):=by omega
    have e0:IntKind.wrap .i64 ((k:Int)+0)=(k:Int):=by rw [Int.add_zero];exact wr (by omega) (by omega)
    have e1:(Dom.dot.size:Int)=1:=rfl
    have e2:=L8 (k:=k) (by omega)
    have e3:=L8 (k:=i) (by omega)
    have a7:(0:Int)≤((k+1:Nat):Int):=by omega
    have a8:((k+1:Nat):Int)≤(s.size:Int):=by omega
    simp only [Nb,tg,gO n s hs,hk,a1,a2,a3,a4,a5,a6,e0,e1,e2,e3,a7,a8,Int.toNat_natCast]
    have e0':IntKind.wrap .i64 (k:Int)=(k:Int):=wr (by omega) (by omega)
    have e2':IntKind.wrap .i64 ((k:Int)+1)=(k:Int)+1:=e2
    have a7':(0:Int)≤(k:Int)+1:=by omega
    have a8':(k:Int)+1≤(s.size:Int):=by omega
    have e9:((k:Int)+1).toNat=k+1:=by omega
    simpa [a2,a3,a4,a5,a6,e0',e2',a7',a8',e9] using h1
  · rw [h3 j (by omega)]
    simp [show ¬j=i by omega]
  · rw [jw,if_neg hx,hk,Int.toNat_natCast,←hbe,h4];simp
  · cases j with
    | zero=>
     simp at hw
     rw [Nat.add_zero,h3 i (by omega),←hw]
     simp only [show i<a.n by omega,and_self,if_true]
     rw [sj];simp
    | succ j=>
     have:=h6 j w (by simpa using hw)
     rwa [show i+(j+1)=i+1+j by omega]
theorem ZT (n:Nat) (s:BA) (hs:s.size≤1000000) (hn:10000000≤n):∃ q,nw n s (⟨#[46]⟩:BA)=some q∧r8 bs q=fc 46 [] (bs s):=by
 have hcl:(bs s).count 46≤s.size:=by rw [←Fa];exact List.count_le_length
 obtain ⟨c,hc⟩:∃ c,(bs s).count 46=c:=⟨_,rfl⟩
 rw [hc] at hcl
 have hcount:kw n s Dom.dot=some (c:Int):=by
  unfold kw lw
  have e2:bt Dom.dot 0=46:=rfl
  have:=gT (c:=46) (by decide) (by decide) s.data.toList
  rw [e2,this,show (Dom.dot.size:Int)=1 from rfl,←hc]
  rfl
 obtain ⟨s',a',h1,h2,h3,P,h4,h5,h6⟩:=sF n c (by omega) c 0 n s (⟨c+1,fun _=>(⟨#[]⟩:BA)⟩:Sq BA) hs hc (by omega) rfl (by omega)
 refine ⟨(⟨c+1,fun i=>(fun q=>if q=c∧q<a'.n then s' else a'.at' q) (0+i)⟩:Sq BA),?_,?_⟩
 · have e1:=L8 (k:=s.size) (by omega)
   have e2:=L8 (k:=c) (by omega)
   have hif:(if ((s.size+1:Nat):Int)<((c+1:Nat):Int) then ((s.size+1:Nat):Int) else ((c+1:Nat):Int))=((c+1:Nat):Int):=if_neg (by omega)
   have e3:IntKind.wrap .i64 (((c+1:Nat):Int) - 1)=(c:Int):=by rw [wr (by omega) (by omega)];omega
   have f1:=J2 (n:=c) (by omega)
   have f0:(0:Int)≤((c+1:Nat):Int):=by omega
   have f2:(c:Int)<(a'.n:Int):=by omega
   have f3:((c+1:Nat):Int)≤(a'.n:Int):=by omega
   have f4:(0:Int)≤(c:Int):=by omega
   have hne:(decide (bs Dom.dot=bs (⟨#[]⟩:BA)))=false:=by decide
   unfold nw ow xo Am
   rw [show (⟨#[46]⟩:BA)=Dom.dot from rfl,Hv,hne,hcount]
   rw [show ((0:Nat):Int)=0 from rfl] at h1
   simp only [Option.bind_some,e1,e2,hif,e3,f1,f0,Int.toNat_natCast,h1,W7,f2,f3,f4]
   simp
 · unfold r8
   rw [List.range_succ,List.map_append,h4]
   congr 1
   · apply List.ext_getElem?
     intro j
     rw [List.getElem?_map]
     by_cases hj:j<c
     · rw [List.getElem?_range hj,List.getElem?_eq_getElem (by omega)]
       have:=h6 j _ (List.getElem?_eq_getElem (by omega))
       rw [Nat.zero_add] at this
       simp [show ¬j=c by omega,this]
     · rw [List.getElem?_eq_none (by simp;omega),List.getElem?_eq_none (by omega)];rfl
   · simp [show c<a'.n by omega]
theorem KV (n:Nat) (l:Sq BA) (hl:l.n≤2000000) (hs:∀ i,i<l.n→(l.at' i).size≤1000000):∀ (W:List (List Int)) (i m:Nat),(r8 bs l).drop i=W→W.length<m→i≤l.n→
  jc n m l l l.n i=some (if W.all S7=true then .out l else .ret false)
 | [],i,m,h,hm,hi=>by
  obtain ⟨m,rfl⟩:∃ q,m=q+1:=⟨m - 1,by omega⟩
  have:=RN h
  have a4:¬((i:Int)<(l.n:Int)):=by omega
  simp [jc,lh,a4]
 | w::W,i,m,h,hm,hi=>by
  obtain ⟨m,rfl⟩:∃ q,m=q+1:=⟨m - 1,by omega⟩
  obtain ⟨h1,h2,h3⟩:=kK h
  have e1:=L8 (k:=i) (by omega)
  have a1:(0:Int)≤(i:Int):=by omega
  have a2:(i:Int)<(l.n:Int):=by omega
  have ih:=KV n l hl hs W (i+1) m h3 (by simpa using hm) (by omega)
  have hw:=aZ (l.at' i).data.toList
  rw [show xL (l.at' i).data.toList=w from h2] at hw
  have hsz:(l.at' i).size≤281474976710656:=by have:=hs i h1;omega
  simp only [jc,lh,a1,a2,Int.toNat_natCast,e1,List.all_cons,←hw,ZS,hsz]
  unfold R7
  rcases hv:Lib.atoiAll (l.at' i).data.toList with v | _ | _
  · have hb:=Lib.atoiAll_bounds hv
    by_cases g0:v<0
    · have:¬(0≤v):=by omega
      simp [g0,this]
    · by_cases g1:v>255
      · have:¬(v≤255):=by omega
        simp [g0,g1,this]
      · have q0:0≤v:=by omega
        have q1:v≤255:=by omega
        have q2: -9223372036854775808≤v∧v≤9223372036854775807:=⟨by omega,by omega⟩
        have hb:bs (⟨(Lib.itoa v).toArray⟩:BA)=xL (Lib.itoa v):=rfl
        have hdp:bs (⟨(Lib.itoa v).toArray⟩:BA)=bs (l.at' i)↔Lib.itoa v=(l.at' i).data.toList:=⟨fun h=>uE h,fun h=>by rw [hb,h];rfl⟩
        have hd:decide (bs (⟨(Lib.itoa v).toArray⟩:BA)=bs (l.at' i))=decide (Lib.itoa v=(l.at' i).data.toList):=decide_eq_decide.2 hdp
        simp only [g0,g1,q0,q1,NR,q2,Hv,hd]
        by_cases hi:Lib.itoa v=(l.at' i).data.toList
        · simpa [hi,q0,q1,q2.1,q2.2] using ih
        · have:¬bs (⟨(Lib.itoa v).toArray⟩:BA)=bs (l.at' i):=fun h=>hi (hdp.1 h)
          simp [hi,q0,q1,q2.1,q2.2,this]
  · simp
  · simp
def uT (l:List Int):Bool:=(fc 46 [] l).all S7&&decide ((fc 46 [] l).length=4)
theorem aQ (n:Nat) (s:BA) (hs:s.size≤1000000) (hn:10000000≤n):Dj n s=some (uT (bs s)):=by
 obtain ⟨q,h1,h2⟩:=ZT n s hs hn
 obtain ⟨h3,h4⟩:=az h2
 have h:=KV n q (by omega) (fun i hi=>Nat.le_trans (h4 i hi) hs) _ 0 n rfl (by rw [List.drop_zero,qo];omega) (by omega)
 rw [show ((0:Nat):Int)=0 from rfl,List.drop_zero,h2] at h
 unfold Dj Oo uT
 rw [h1,Option.bind_some,h,Option.bind_some,←h2,qo]
 cases (r8 bs q).all S7
 · rfl
 · by_cases h4:q.n=4
   · simp [W7,h4]
   · have:¬((q.n:Int)=4):=by omega
     simp [W7,h4,this]
theorem uS (n:Nat) (hn:10000000≤n) (l:Sq BA) (hl:l.n≤2000000):∀ (W:List (List Int)) (i m:Nat),(r8 bs l).drop i=W→W.length<m→i≤l.n→
  vc n m l i=some (if W.all S7=true then .out l else .ret false)
 | [],i,m,h,hm,hi=>by
  obtain ⟨m,rfl⟩:∃ q,m=q+1:=⟨m - 1,by omega⟩
  have:=RN h
  have a4:¬((i:Int)<(l.n:Int)):=by omega
  simp [vc,vh,a4]
 | w::W,i,m,h,hm,hi=>by
  obtain ⟨m,rfl⟩:∃ q,m=q+1:=⟨m - 1,by omega⟩
  obtain ⟨h1,h2,h3⟩:=kK h
  have e1:=L8 (k:=i) (by omega)
  have a1:(0:Int)≤(i:Int):=by omega
  have a2:(i:Int)<(l.n:Int):=by omega
  have ih:=uS n hn l hl W (i+1) m h3 (by simpa using hm) (by omega)
  simp only [vc,vh,a1,a2,Int.toNat_natCast,e1,List.all_cons,WS _ _ hn,h2,u3]
  by_cases hv:U7 w=true
  · by_cases g:sM 0 w≤255
    · have:¬(sM 0 w>255):=by omega
      simpa [hv,g,this] using ih
    · have:sM 0 w>255:=by omega
      simp [hv,g,this]
  · simp [hv]
open Go
def GD (l:List Int):List Int:=(l.take (l.length - 1)).drop 1
def wT (l:List Int):Bool:=decide (2≤l.length)&&decide (l.head?=some 91)&&decide (l.getLast?=some 93)&&uT (GD l)
theorem iJ (s:BA):bs (s.extract 1 (s.size - 1))=GD (bs s):=by rw [sj,GD,Fa]
theorem dm (s:BA) (i j:Nat):(s.extract i j).size≤s.size:=by
 rw [←Fa,←Fa,sj,List.length_drop,List.length_take];omega
theorem bR {s:BA} (h:0<s.size):∃ c,(bs s).head?=some c∧bt s 0=c:=by
 obtain ⟨c,hc⟩:∃ c,(bs s)[0]?=some c:=⟨_,List.getElem?_eq_getElem (by rw [Fa];exact h)⟩
 exact ⟨c,by rw [List.head?_eq_getElem?];exact hc,dR (k:=0) hc⟩
theorem YM {s:BA} (h:0<s.size):∃ c,(bs s).getLast?=some c∧bt s ((s.size - 1:Nat):Int)=c:=by
 obtain ⟨c,hc⟩:∃ c,(bs s)[s.size - 1]?=some c:=⟨_,List.getElem?_eq_getElem (by rw [Fa];omega)⟩
 exact ⟨c,by rw [List.getLast?_eq_getElem?,Fa];exact hc,dR hc⟩
theorem N8 {k:Nat} (h0:0<k) (h:k<4611686018427387904):IntKind.wrap .i64 ((k:Int) - 1)=((k - 1:Nat):Int):=by
 rw [wr (by omega) (by omega)];omega
theorem dG (n:Nat) (s:BA) (hs:s.size≤1000000) (hn:10000000≤n):Pj n s=some (wT (bs s)):=by
 unfold Pj pp wT
 rw [Fa]
 by_cases h2:2≤s.size
 · obtain ⟨c,hc,hb⟩:=bR (s:=s) (by omega)
   obtain ⟨d,hd,hb2⟩:=YM (s:=s) (by omega)
   have e1:=N8 (k:=s.size) (by omega) (by omega)
   have a1:¬((s.size:Int)<2):=by omega
   have a2:(0:Int)<(s.size:Int):=by omega
   have a3:(0:Int)≤((s.size - 1:Nat):Int):=by omega
   have a4:((s.size - 1:Nat):Int)<(s.size:Int):=by omega
   have a5:((s.size - 1:Nat):Int)≤(s.size:Int):=by omega
   have a6:(1:Int)≤((s.size - 1:Nat):Int):=by omega
   have hin:(s.extract (Int.toNat (1:Int)) (s.size - 1))=s.extract 1 (s.size - 1):=rfl
   obtain ⟨q,q1,q2⟩:=kO n (s.extract 1 (s.size - 1)) 46 (Nat.le_trans (dm _ _ _) hs) hn
   obtain ⟨q3,q4⟩:=az q2
   have hq:=dm s 1 (s.size - 1)
   have hL:=uS n hn q (by omega) _ 0 n rfl (by rw [List.drop_zero,qo];omega) (by omega)
   rw [show ((0:Nat):Int)=0 from rfl,List.drop_zero,q2,iJ] at hL
   simp only [a1,a2,hb,e1,a3,a4,a5,a6,hb2,hc,hd,Int.toNat_natCast,hin,q1,Option.bind_some,hL]
   by_cases g1:c=91
   · by_cases g2:d=93
     · subst g1 g2
       unfold uT
       have hl4:(fc 46 [] (GD (bs s))).length=q.n:=by rw [←iJ,←q2,qo]
       rw [hl4]
       by_cases ha:(fc 46 [] (GD (bs s))).all S7=true
       · by_cases h4:q.n=4
         · simp [W7,ha,h4,h2]
         · have:¬((q.n:Int)=4):=by omega
           simp [W7,ha,h4,this,h2]
       · simp [W7,ha,h2]
     · have:(d !=93)=true:=by simpa using g2
       simp [g1,g2,this]
   · have:(c !=91)=true:=by simpa using g1
     simp [g1,this]
 · have a1:(s.size:Int)<2:=by omega
   simp [a1,h2]
def y7 (c:Int):Bool:=o8 c || decide (c=45)
def wM (w:List Int):Bool:=decide (1≤w.length)&&decide (w.length≤63)&&decide (w.head?≠some 45)&&decide (w.getLast?≠some 45)&&w.all y7
theorem BV (n:Nat) (l:Sq BA) (i:Nat) (w:BA) (hs:w.size≤1000000):∀ (r:List Int) (k m:Nat),(bs w).drop k=r→k≤w.size→r.length<m→
  Yc n m l i w k=some (if r.all y7=true then .out (l,(i:Int)) else .ret false)
 | [],k,m,h,hk,hm=>by
  obtain ⟨m,rfl⟩:∃ q,m=q+1:=⟨m - 1,by omega⟩
  have:=Vs h
  simp [Yc,mi,this]
 | c::r,k,m,h,hk,hm=>by
  obtain ⟨m,rfl⟩:∃ q,m=q+1:=⟨m - 1,by omega⟩
  obtain ⟨h1,h2,h3,h4,h5⟩:=dl h
  have e1:=L8 (k:=k) (by omega)
  have a3:(0:Int)≤(k:Int):=by omega
  have ih:=BV n l i w hs r (k+1) m h3 (by omega) (by simpa using hm)
  simp only [Yc,mi,h1,h2,a3,e1,iT,List.all_cons]
  have hl:y7 c=((decide (97≤c)&&decide (c≤122)) || (decide (48≤c)&&decide (c≤57)) || decide (c=45)):=rfl
  simp only [hl]
  by_cases b1:97≤c<;>by_cases b2:c≤122<;>by_cases b3:48≤c<;>by_cases b4:c≤57<;>by_cases b5:c=45<;>first
   | (exfalso;omega)
   | (simp [b1,b2,b3,b4,b5];done)
   | (simpa [b1,b2,b3,b4,b5] using ih)
theorem zV (n:Nat) (hn:10000000≤n) (l:Sq BA) (hl:l.n≤2000000) (hs:∀ i,i<l.n→(l.at' i).size≤1000000):∀ (W:List (List Int)) (i m:Nat),(r8 bs l).drop i=W→W.length<m→i≤l.n→
  Xc n m l i=some (if W.all wM=true then .out () else .ret false)
 | [],i,m,h,hm,hi=>by
  obtain ⟨m,rfl⟩:∃ q,m=q+1:=⟨m - 1,by omega⟩
  have:=RN h
  have a4:¬((i:Int)<(l.n:Int)):=by omega
  simp [Xc,li,a4]
 | w::W,i,m,h,hm,hi=>by
  obtain ⟨m,rfl⟩:∃ q,m=q+1:=⟨m - 1,by omega⟩
  obtain ⟨h1,h2,h3⟩:=kK h
  have e1:=L8 (k:=i) (by omega)
  have a1:(0:Int)≤(i:Int):=by omega
  have a2:(i:Int)<(l.n:Int):=by omega
  have ih:=zV n hn l hl hs W (i+1) m h3 (by simpa using hm) (by omega)
  have hsz:=hs i h1
  have hw:=BV n l i (l.at' i) hsz (bs (l.at' i)) 0 n (by simp) (by omega) (by rw [Fa];omega)
  rw [show ((0:Nat):Int)=0 from rfl,h2] at hw
  have hlen:w.length=(l.at' i).size:=by rw [←h2,Fa]
  simp only [Xc,li,a1,a2,Int.toNat_natCast,hw,e1,List.all_cons]
  have hlab:wM w=(decide (1≤(l.at' i).size)&&decide ((l.at' i).size≤63)&&decide (w.head?≠some 45)&&decide (w.getLast?≠some 45)&&w.all y7):=by unfold wM;rw [hlen]
  simp only [hlab]
  by_cases g1:1≤(l.at' i).size
  · by_cases g2:(l.at' i).size≤63
    · obtain ⟨c,hc,hb⟩:=bR (s:=l.at' i) (by omega)
      obtain ⟨d,hd,hb2⟩:=YM (s:=l.at' i) (by omega)
      rw [h2] at hc hd
      have e2:=N8 (k:=(l.at' i).size) (by omega) (by omega)
      have b1:¬(((l.at' i).size:Int)<1):=by omega
      have b2:¬(((l.at' i).size:Int)>63):=by omega
      have b3:(0:Int)<((l.at' i).size:Int):=by omega
      have b4:(0:Int)≤(((l.at' i).size - 1:Nat):Int):=by omega
      have b5:(((l.at' i).size - 1:Nat):Int)<((l.at' i).size:Int):=by omega
      simp only [b1,b2,b3,hb,e2,b4,b5,hb2,hc,hd,g1,g2]
      by_cases x1:c=45
      · simp [x1]
      · by_cases x2:d=45
        · simp [x1,x2]
        · by_cases x3:w.all y7=true
          · simp only [x3,if_true,Option.bind_some,W7]
            have e1':IntKind.wrap .i64 ((i:Int)+1)=(i:Int)+1:=e1
            simpa [x1,x2,x3,e1'] using ih
          · simp [x1,x2,x3,W7]
    · have b1:¬(((l.at' i).size:Int)<1):=by omega
      have b2:(((l.at' i).size:Int)>63):=by omega
      simp [b1,b2,g2]
  · have b1:(((l.at' i).size:Int)<1):=by omega
    simp [b1,g1]
def XC (l:List Int):Bool:=decide (l.length≤255)&&(wT l || (fc 46 [] l).all wM)
theorem qQ (n:Nat) (s:BA) (hs:s.size≤1000000) (hn:10000000≤n):qr n s=some (XC (bs s)):=by
 obtain ⟨q,q1,q2⟩:=kO n s 46 hs hn
 obtain ⟨q3,q4⟩:=az q2
 have hL:=zV n hn q (by omega) (fun i hi=>Nat.le_trans (q4 i hi) hs) _ 0 n rfl (by rw [List.drop_zero,qo];omega) (by omega)
 rw [show ((0:Nat):Int)=0 from rfl,List.drop_zero,q2] at hL
 unfold qr ws XC
 rw [Fa,dG n s hs hn,q1,Option.bind_some,Option.bind_some,hL]
 by_cases g:s.size≤255
 · have:¬((s.size:Int)>255):=by omega
   by_cases h1:wT (bs s)=true
   · simp [g,this,h1]
   · by_cases h2:(fc 46 [] (bs s)).all wM=true
     · simp [g,this,h1,h2,W7]
     · simp [g,this,h1,h2,W7]
 · have:((s.size:Int)>255):=by omega
   simp [g,this]
def x7 (L:Nat):Nat→List Int→Bool
 | _,[]=>true
 | i,c::r=>if o8 c=true then x7 L (i+1) r else if c≠45 then false else if i=0 then false else if i=L - 1 then false else x7 L (i+1) r
theorem MO (n:Nat) (s:BA) (hs:s.size≤1000000):∀ (r:List Int) (k m:Nat),(bs s).drop k=r→k≤s.size→r.length<m→Nd n m s s.size k=some (if x7 s.size k r=true then .out s else .ret false)
 | [],k,m,h,hk,hm=>by
  obtain ⟨m,rfl⟩:∃ q,m=q+1:=⟨m - 1,by omega⟩
  have:=Vs h
  simp [Nd,Cj,this,x7]
 | c::r,k,m,h,hk,hm=>by
  obtain ⟨m,rfl⟩:∃ q,m=q+1:=⟨m - 1,by omega⟩
  obtain ⟨h1,h2,h3,h4,h5⟩:=dl h
  have e1:=L8 (k:=k) (by omega)
  have e2:=N8 (k:=s.size) (by omega) (by omega)
  have a3:(0:Int)≤(k:Int):=by omega
  have ih:=MO n s hs r (k+1) m h3 (by omega) (by simpa using hm)
  simp only [Nd,Cj,h1,h2,a3,e1,e2,wS,Option.bind_some,x7]
  by_cases g1:o8 c=true
  · simpa [g1] using ih
  · by_cases g2:c=45
    · have h45:o8 45=false:=by decide
      by_cases g3:k=0
      · subst g3;simp [g1,g2,h45]
      · have x3:((k:Int)==0)=false:=by simpa using g3
        by_cases g4:k=s.size - 1
        · have:((k:Int)==((s.size - 1:Nat):Int))=true:=by rw [g4];simp
          simp [g1,g2,g3,x3,this,←g4,h45]
        · have:((k:Int)==((s.size - 1:Nat):Int))=false:=by simp only [beq_eq_false_iff_ne];omega
          simpa [g1,g2,g3,g4,x3,this,h45] using ih
    · have:(c !=45)=true:=by simpa using g2
      simp [g1,g2,this]
theorem IV:∀ (r:List Int) (i L:Nat),i+r.length=L→x7 L i r=(r.all y7&&decide (i=0→r.head?≠some 45)&&decide (r.getLast?≠some 45))
 | [],i,L,h=>by simp [x7]
 | c::r,i,L,h=>by
  simp only [List.length_cons] at h
  have ih:=IV r (i+1) L (by omega)
  have hlast:(c::r).getLast?=if r=[] then some c else r.getLast?:=by
   cases r with
   | nil=>rfl
   | cons d r=>simp [List.getLast?_cons_cons]
  simp only [x7,List.all_cons,List.head?_cons,hlast]
  have h45:o8 45=false:=by decide
  by_cases g2:c=45
  · subst g2
    simp only [h45,y7]
    by_cases g3:i=0
    · subst g3;simp
    · by_cases g4:r=[]
      · subst g4
        have:i=L - 1:=by simp at h;omega
        simp [g3,←this]
      · have:¬i=L - 1:=by
         have:0<r.length:=List.length_pos_iff.2 g4
         omega
        simp [g3,g4,this,ih]
  · by_cases g1:o8 c=true
    · by_cases g4:r=[]
      · subst g4;simp [g1,g2,y7,x7]
      · simp [g1,g2,g4,y7,ih]
    · simp [g1,g2,y7]
theorem NO (n:Nat) (s:BA) (hs:s.size≤1000000) (hn:10000000≤n):No n s=some (wM (bs s)):=by
 have hL:=MO n s hs (bs s) 0 n (by simp) (by omega) (by rw [Fa];omega)
 rw [show ((0:Nat):Int)=0 from rfl] at hL
 have hx:wM (bs s)=(decide (1≤s.size)&&decide (s.size≤63)&&x7 s.size 0 (bs s)):=by
  rw [IV (bs s) 0 s.size (by rw [Fa];omega)]
  unfold wM
  rw [Fa]
  by_cases g4:(bs s).head?=some 45<;>by_cases g5:(bs s).getLast?=some 45<;>cases decide (1≤s.size)<;>cases decide (s.size≤63)<;>cases (bs s).all y7<;>simp [g4,g5]
 unfold No Nv
 rw [hL,hx]
 have e1:(decide ((s.size:Int)≥1))=decide (1≤s.size):=by rw [decide_eq_decide];omega
 have e2:(decide ((s.size:Int)≤63))=decide (s.size≤63):=by rw [decide_eq_decide];omega
 cases hb:x7 s.size 0 (bs s)
 · simp [W7]
 · simp only [if_true,Option.bind_some,W7,e1,e2]
   cases decide (1≤s.size)<;>simp
open Go
theorem zK (n:Nat) (s p:BA):jd n s p=some (decide ((bs s).take p.size=bs p)):=by
 unfold jd vk Ek fk
 by_cases h:p.size≤s.size
 · have a1:(s.size:Int)≥(p.size:Int):=by omega
   have a2:(0:Int)≤(p.size:Int):=by omega
   have a3:(p.size:Int)≤(s.size:Int):=by omega
   simp only [a1,a2,a3,Hv,Int.toNat_natCast,sj]
   simp
 · have a1:¬((s.size:Int)≥(p.size:Int)):=by omega
   have:¬(bs s).take p.size=bs p:=fun e=>by
    have:=congrArg List.length e
    rw [List.length_take,Fa,Fa] at this
    omega
   simp [a1,this]
theorem dU {l:List Int} {c:Int}:l.take 1=[c]↔l.head?=some c:=by cases l<;>simp
theorem Ol (n:Nat) (s p:BA) {c:Int} (hp:bs p=[c]):jd n s p=some (decide ((bs s).head?=some c)):=by
 have h1:p.size=1:=by rw [←Fa,hp];rfl
 rw [zK,h1,hp]
 congr 1
 rw [decide_eq_decide]
 exact dU
theorem MI (n:Nat) (s p:BA) (hs:s.size≤1000000) {c:Int} (hp:bs p=[c]):sf n s p=some (decide ((bs s).getLast?=some c)):=by
 have h1:p.size=1:=by rw [←Fa,hp];rfl
 unfold sf xk Fk ik
 by_cases h:1≤s.size
 · have e1:=N8 (k:=s.size) (by omega) (by omega)
   have a1:(s.size:Int)≥((1:Nat):Int):=by omega
   have a2:(0:Int)≤((s.size - 1:Nat):Int):=by omega
   have a3:((s.size - 1:Nat):Int)≤(s.size:Int):=by omega
   obtain ⟨d,hd,_⟩:=YM (s:=s) (by omega)
   have hx:((bs s).take s.size).drop (s.size - 1)=[d]:=by
    rw [show (bs s).take s.size=bs s by rw [←Fa,List.take_length]]
    have hl:s.size - 1<(bs s).length:=by rw [Fa];omega
    rw [List.drop_eq_getElem_cons hl]
    rw [List.getLast?_eq_getElem?,Fa,List.getElem?_eq_getElem hl] at hd
    rw [Option.some.inj hd,List.drop_eq_nil_of_le (by rw [Fa];omega)]
   rw [h1] at*
   rw [show ((1:Nat):Int)=1 from rfl] at*
   simp only [a1,e1,a2,a3,Hv,Int.toNat_natCast,sj,hx,hp,hd]
   simp
 · have a1:¬((s.size:Int)≥((1:Nat):Int)):=by omega
   have:(bs s)=[]:=by
    apply List.eq_nil_of_length_eq_zero
    rw [Fa];omega
   rw [h1]
   simp only [a1,this]
   simp
theorem pR (n:Nat) (hn:10000000≤n):∀ (m:Nat) (s:BA),s.size≤1000000→s.size<m→Dom.domL (fun x=>zk n x Dom.dot) (No n) m s=some ((fc 46 [] (bs s)).all wM)
 | 0,s,hs,hm=>absurd hm (Nat.not_lt_zero _)
 | m+1,s,hs,hm=>by
  have hlt:=uL 46 (bs s)
  have hge:=(Um (c:=46) (bs s)).2
  rw [Dom.domL]
  simp only [gO n s hs,Option.bind_some]
  rw [jw]
  by_cases hx:s7 46 (bs s)= -1
  · rw [if_pos hx,hx,if_pos (by decide),NO n s hs hn]
    simp
  · obtain ⟨k,hk⟩:∃ k:Nat,s7 46 (bs s)=(k:Int):=⟨(s7 46 (bs s)).toNat,by omega⟩
    have hks:k<s.size:=by have:=hlt.1;rw [Fa] at this;omega
    have hbe:bs (s.extract (k+1) s.size)=(bs s).drop (k+1):=by rw [sj,←Fa,List.take_length]
    have hb0:bs (s.extract 0 k)=(bs s).take k:=by rw [sj];rfl
    have ih:=pR n hn m (s.extract (k+1) s.size) (Nat.le_trans (dm _ _ _) hs) (by rw [←Fa,hbe,List.length_drop,Fa];omega)
    rw [if_neg hx,hk,if_neg (by omega),if_pos ⟨by omega,by omega⟩,Int.toNat_natCast,NO n _ (Nat.le_trans (dm _ _ _) hs) hn,Option.bind_some,ih,hb0,hbe]
    simp only [List.nil_append,List.all_cons]
    cases wM ((bs s).take k)<;>simp
def yV (l:List Int):Bool:=if l.head?=some 91 then decide (l.getLast?=some 93)&&uT (GD l) else (fc 46 [] l).all wM&&decide (l.length≤255)
theorem OC (n:Nat) (s:BA):ue n s=some (decide ((bs s).head?=some 91)):=by
 unfold ue dk
 rw [Ol n s _ (c:=91) rfl];rfl
theorem BE (n:Nat) (s:BA) (hs:s.size≤1000000) (hn:10000000≤n):Lg n s=some (yV (bs s)):=by
 unfold Lg yV
 rw [OC,Option.bind_some]
 by_cases h:(bs s).head?=some 91
 · rw [if_pos (by simpa using h),if_pos h,MI n s _ hs (c:=93) rfl,Option.bind_some]
   by_cases h2:(bs s).getLast?=some 93
   · have hsz:2≤s.size:=by
      rw [←Fa]
      cases hb:bs s with
      | nil=>rw [hb] at h;cases h
      | cons c r=>cases r with
       | nil=>rw [hb] at h h2;simp at h h2;omega
       | cons d r=>simp
     rw [if_pos (by simpa using h2),if_pos ⟨by omega,by omega⟩,aQ n _ (Nat.le_trans (dm _ _ _) hs) hn,iJ]
     simp [h2]
   · rw [if_neg (by simpa using h2)];simp [h2]
 · rw [if_neg (by simpa using h),if_neg h]
   unfold Dom.domT
   rw [pR n hn n s hs (by omega),Option.bind_some]
   have e:(decide ((s.size:Int)≤255))=decide ((bs s).length≤255):=by rw [Fa,decide_eq_decide];omega
   rw [e]
   cases (fc 46 [] (bs s)).all wM<;>simp
theorem RW {w:List Int} (h:S7 w=true):w.length≤16:=by
 unfold S7 at h
 simp only [Bool.and_eq_true,decide_eq_true_eq] at h
 exact h.1.1.1.2
theorem yC (d:Int):∀ (r cur:List Int),cur.length+r.length+1=((fc d cur r).map fun w=>w.length+1).sum
 | [],cur=>by simp [fc]
 | c::r,cur=>by
  simp only [fc]
  split
  · have:=yC d r []
    simp at this ⊢;omega
  · have:=yC d r (cur++[c])
    simp at this ⊢;omega
theorem vT {l:List Int} (h:uT l=true):l.length≤100:=by
 unfold uT at h
 simp only [Bool.and_eq_true,decide_eq_true_eq,List.all_eq_true] at h
 have hs:=yC 46 l []
 obtain ⟨h1,h2⟩:=h
 have key:∀ W:List (List Int),(∀ w∈W,w.length≤16)→(W.map fun w=>w.length+1).sum≤17*W.length:=fun W=>by
  induction W with
  | nil=>intro _;simp
  | cons w W ih=>
   intro hw
   have a:=hw w List.mem_cons_self
   have b:=ih fun x hx=>hw x (List.mem_cons_of_mem _ hx)
   simp only [List.map_cons,List.sum_cons,List.length_cons];omega
 have:=key _ fun w hw=>RW (h1 w hw)
 simp at hs
 omega
theorem GW {w:List Int} (h:w.head?=some 91):wM w=false:=by
 cases w with
 | nil=>cases h
 | cons c r=>
  simp at h;subst h
  have:y7 91=false:=by decide
  simp [wM,this]
theorem jG (d:Int):∀ (r cur:List Int),cur≠[]→∃ w W,fc d cur r=w::W∧w.head?=cur.head?
 | [],cur,h=>⟨cur,[],rfl,rfl⟩
 | c::r,cur,h=>by
  simp only [fc]
  split
  · exact ⟨cur,_,rfl,rfl⟩
  · obtain ⟨w,W,h1,h2⟩:=jG d r (cur++[c]) (by simp)
    refine ⟨w,W,h1,h2.trans ?_⟩
    cases cur with
    | nil=>exact absurd rfl h
    | cons x xs=>rfl
theorem sE (l:List Int):yV l=XC l:=by
 unfold yV XC wT
 by_cases h:l.head?=some 91
 · rw [if_pos h]
   have hsp:(fc 46 [] l).all wM=false:=by
    cases l with
    | nil=>cases h
    | cons c r=>
     simp at h;subst h
     simp only [fc]
     rw [if_neg (by decide)]
     obtain ⟨w,W,h1,h2⟩:=jG 46 r ([]++[91]) (by simp)
     rw [h1,List.all_cons,GW (by rw [h2];rfl)];rfl
   rw [hsp]
   by_cases h2:l.getLast?=some 93
   · have hl:2≤l.length:=by
      cases l with
      | nil=>cases h
      | cons c r=>cases r with
       | nil=>simp at h h2;omega
       | cons d r=>simp
     cases hp:uT (GD l) with
     | false=>simp [h2]
     | true=>
      have:=vT hp
      have hle:l.length≤255:=by
       unfold GD at this
       rw [List.length_drop,List.length_take] at this
       omega
      simp [h,h2,hl,hle]
   · simp [h2]
 · rw [if_neg h]
   simp [h,Bool.and_comm]
/-! Small letters. -/
def B7 (c:Int):Int:=if 65≤c∧c≤90 then c+32 else c
theorem F3 (s:BA):r8 id (⟨s.size,fun q=>bt s q⟩:Sq Int)=bs s:=by
 apply List.ext_getElem?
 intro j
 unfold r8
 rw [List.getElem?_map]
 by_cases h:j<s.size
 · rw [List.getElem?_range h]
   obtain ⟨c,hc⟩:∃ c,(bs s)[j]?=some c:=⟨_,List.getElem?_eq_getElem (by rw [Fa];exact h)⟩
   rw [hc]
   simp [dR hc]
 · rw [List.getElem?_eq_none (by simp;omega),List.getElem?_eq_none (by rw [Fa];omega)];rfl
theorem fX {b:Sq Int} {k:Nat} {v:Int}:r8 id (⟨b.n,fun q=>if q=k∧q<b.n then v else b.at' q⟩:Sq Int)=(r8 id b).set k v:=by
 apply List.ext_getElem?
 intro j
 unfold r8
 rw [List.getElem?_map,List.getElem?_set]
 by_cases h:j<b.n
 · rw [List.getElem?_range h]
   by_cases hk:k=j
   · subst hk;simp [h]
   · have:¬j=k:=fun e=>hk e.symm
     simp [hk,this,h]
 · rw [List.getElem?_eq_none (by simp;omega)]
   by_cases hk:k=j
   · subst hk;simp [h]
   · simp [hk,h]
theorem XJ (n:Nat) (t:Nat) (ht:t≤1000000):∀ (r P:List Int) (m:Nat) (b:Sq Int),r8 id b=P++r→b.n=t→(∀ c∈P++r,0≤c∧c<256)→r.length<m→
  ∃ b',lc n m t P.length b=some (.out b')∧r8 id b'=P++r.map B7∧b'.n=t
 | [],P,m,b,hb,hbn,hr,hm=>by
  obtain ⟨m,rfl⟩:∃ q,m=q+1:=⟨m - 1,by omega⟩
  have hl:=qo id b
  rw [hb,List.append_nil,hbn] at hl
  refine ⟨b,?_,by simpa using hb,hbn⟩
  have:¬((P.length:Int)<(t:Int)):=by omega
  simp [lc,Ng,this]
 | c::r,P,m,b,hb,hbn,hr,hm=>by
  obtain ⟨m,rfl⟩:∃ q,m=q+1:=⟨m - 1,by omega⟩
  have hl:=qo id b
  rw [hb,hbn] at hl
  simp at hl
  have hat:b.at' P.length=c:=by
   have h1:=uG (f:=id) (q:=b) (i:=P.length) (by omega)
   rw [hb,List.getElem?_append_right (Nat.le_refl _),Nat.sub_self] at h1
   simpa using h1.symm
  have hc:=hr c (by simp)
  have e1:=L8 (k:=P.length) (by omega)
  have a1:(P.length:Int)<(t:Int):=by omega
  have a2:(0:Int)≤(P.length:Int):=by omega
  have a3:(P.length:Int)<(b.n:Int):=by omega
  by_cases hlow:65≤c∧c≤90
  · have w1:=M8 (x:=c+97) (by omega) (by omega)
    have w2:=M8 (x:=c+97 - 65) (by omega) (by omega)
    obtain ⟨b',h1,h2,h3⟩:=XJ n t ht r (P++[c+32]) m (⟨b.n,fun q=>if q=P.length∧q<b.n then c+97 - 65 else b.at' q⟩:Sq Int)
     (by rw [fX,hb,List.set_append_right _ _ (Nat.le_refl _),Nat.sub_self,show c+97 - 65=c+32 by omega];simp) hbn
     (fun x hx=>by
      simp only [List.append_assoc,List.mem_append,List.mem_cons,List.mem_nil_iff,or_false,false_or,List.cons_append,List.nil_append] at hx
      rcases hx with h | h | h
      · exact hr x (by simp [h])
      · omega
      · exact hr x (by simp [h])) (by simpa using hm)
    refine ⟨b',?_,by rw [h2];simp [B7,hlow],h3⟩
    have b1:c≥65:=hlow.1
    simp only [lc,Ng,a1,a2,a3,Int.toNat_natCast,hat,e1,w1,w2,b1,hlow.2]
    simpa using h1
  · obtain ⟨b',h1,h2,h3⟩:=XJ n t ht r (P++[c]) m b (by rw [hb];simp) hbn (fun x hx=>hr x (by simpa using hx)) (by simpa using hm)
    refine ⟨b',?_,by rw [h2];simp [B7,hlow],h3⟩
    have h1':lc n m t ((P.length+1:Nat):Int) b=some (.out b'):=by simpa using h1
    by_cases b1:c≥65
    · have b2:¬c≤90:=fun h=>hlow ⟨b1,h⟩
      simp only [lc,Ng,a1,a2,a3,Int.toNat_natCast,hat,e1,b1,b2]
      simpa using h1'
    · simp only [lc,Ng,a1,a2,a3,Int.toNat_natCast,hat,e1,b1]
      simpa using h1'
theorem KW {c:Int} (h:0≤c∧c<256):0≤B7 c∧B7 c<256:=by unfold B7;split<;>omega
theorem YT (n:Nat) (s:BA) (hs:s.size≤1000000) (hn:10000000≤n):∃ t,Qo n s=some t∧bs t=(bs s).map B7:=by
 obtain ⟨b',h1,h2,h3⟩:=XJ n s.size hs (bs s) [] n (⟨s.size,fun q=>bt s q⟩:Sq Int) (F3 s) rfl (fun c hc=>cR (by simpa using hc)) (by rw [Fa];omega)
 refine ⟨lE b'.n b'.at',?_,?_⟩
 · unfold Qo Rv
   rw [show (([]:List Int).length:Int)=0 from rfl] at h1
   rw [h1];rfl
 · rw [qO fun i hi=>?_]
   · have:r8 id b'=(List.range b'.n).map b'.at':=rfl
     rw [←this,h2];rfl
   · have:=uG (f:=id) (q:=b') hi
     rw [h2] at this
     have hm:=List.mem_of_getElem? this
     simp only [List.nil_append,List.mem_map] at hm
     obtain ⟨c,hc,e⟩:=hm
     have:=KW (cR hc)
     rw [e] at this
     exact this
open Go
def Y6:List Int→List Int
 | []=>[]
 | c::r=>if c=34∨c=92 then 92::c::Y6 r else c::Y6 r
def V7 (c:Int):Bool:=decide (32≤c)&&decide (c≤126)
def qd:List Int→Option (List Int×List Int)
 | []=>none
 | c::r=>if c=34 then some ([],r) else if c=92 then (match r with
   | []=>none
   | d::r'=>if V7 d=true then (qd r').map fun x=>(d::x.1,x.2) else none)
  else if V7 c=true then (qd r).map fun x=>(c::x.1,x.2) else none
theorem Nj (c:Int) (r:List Int):qd (c::r)=if c=34 then some ([],r) else if c=92 then (match r with
   | []=>none
   | d::r'=>if V7 d=true then (qd r').map fun x=>(d::x.1,x.2) else none)
  else if V7 c=true then (qd r).map fun x=>(c::x.1,x.2) else none:=by
 conv=>lhs;unfold qd
theorem vR:∀ l:List Int,(Y6 l).length≤2*l.length
 | []=>by simp [Y6]
 | c::r=>by
  have:=vR r
  simp only [Y6]
  split<;>simp<;>omega
theorem Xr (n:Nat) (b:Bool):Xb n b=some (if b=true then .ok () else .error 8):=by
 unfold Xb Bz
 cases b<;>rfl
theorem DK (n:Nat) (c:Int) (r1:Sq Int) (h:r1.n≤4000000):∃ r2,Ta n c r1=some (r2,())∧r8 id r2=r8 id r1++[c]∧r2.n=r1.n+1:=by
 refine ⟨_,?_,lK id r1 c (Ea (.int .u8)),rfl⟩
 unfold Ta wh af xh
 rw [Option.bind_some,if_pos (O2 h)]
theorem SQ (n:Nat) (c:Int):∃ r2,Vb n c=some (r2,())∧r8 id r2=[c]∧r2.n=1:=by
 refine ⟨_,rfl,?_,rfl⟩
 show [_]=[c]
 rfl
theorem PQ (n:Nat) (r1:Sq Int) (h:r1.n≤4000000) (hr:∀ c∈r8 id r1,0≤c∧c<256):∃ t,qf n r1=some (t,())∧bs t=r8 id r1:=by
 refine ⟨lE r1.n r1.at',?_,?_⟩
 · unfold qf sk
   rw [if_pos ⟨rfl,by omega⟩]
 · exact qO (f:=r1.at') fun i hi=>hr _ (List.mem_of_getElem? (uG (f:=id) hi))
theorem map_none {α β:Type} {f:α→β} {x:Option α} (h:x.map f=none):x=none:=by cases x with
 | none=>rfl
 | some _=>cases h
theorem DA (n:Nat) (s:BA) (hs:s.size≤1000000):∀ (N:Nat) (r:List Int) (k m:Nat) (r1:Sq Int),r.length≤N→(bs s).drop k=r→k≤s.size→r1.n≤k→(∀ c∈r8 id r1,0≤c∧c<256)→r.length<m→
  match qd r with
  | none=>wa n m s k r1=some (.pan 8)
  | some (mean,rest)=>∃ t1 t2,wa n m s k r1=some (.ret (t1,t2))∧bs t1=r8 id r1++mean∧bs t2=rest
 | N,[],k,m,r1,hN,h,hk,hr1,hb,hm=>by
  obtain ⟨m,rfl⟩:∃ q,m=q+1:=⟨m - 1,by omega⟩
  have:=Vs h
  simp only [qd]
  simp [wa,ac,this,Xr,X7]
 | 0,c::r,k,m,r1,hN,_,_,_,_,_=>by simp at hN
 | N+1,c::r,k,m,r1,hN,h,hk,hr1,hb,hm=>by
  obtain ⟨m,rfl⟩:∃ q,m=q+1:=⟨m - 1,by omega⟩
  obtain ⟨h1,h2,h3,h4,h5⟩:=dl h
  have e1:=L8 (k:=k) (by omega)
  have a1:(0:Int)≤(k:Int):=by omega
  have a2:(0:Int)≤((k+1:Nat):Int):=by omega
  have a3:((k+1:Nat):Int)≤(s.size:Int):=by omega
  have hm':(Xb n true)=some (.ok ()):=Xr n true
  have hm2:(Xb n false)=some (.error 8):=Xr n false
  have hd1:decide ((k:Int)<(s.size:Int))=true:=decide_eq_true h1
  by_cases g1:c=34
  · subst g1
    obtain ⟨t,ht,htb⟩:=PQ n r1 (by omega) hb
    have hq:qd (34::r)=some ([],r):=by rw [Nj];rfl
    rw [hq]
    refine ⟨t,s.extract (k+1) s.size,?_,by rw [htb,List.append_nil],by rw [sj,show (bs s).take s.size=bs s by rw [←Fa,List.take_length]];exact h3⟩
    simp only [wa,ac,hd1,decide_true,decide_false,hm',h1,h2,a1,e1,a2,a3,ht,Option.bind_some,X7,Int.toNat_natCast]
    simp
  · have g1':(c==34)=false:=by simpa using g1
    by_cases g2:c=92
    · subst g2
      cases r with
      | nil=>
       have hq:qd [92]=none:=by rw [Nj];rfl
       rw [hq]
       have hn:=Vs h3
       have hd2:decide (((k+1:Nat):Int)<(s.size:Int))=false:=decide_eq_false hn
       simp only [wa,ac,hd1,decide_true,decide_false,hm',h1,h2,a1,e1,hd2,hm2,Option.bind_some,X7]
       simp
      | cons d r=>
       obtain ⟨i1,i2,i3,i4,i5⟩:=dl h3
       have e2:=L8 (k:=k+1) (by omega)
       have hd2:decide (((k+1:Nat):Int)<(s.size:Int))=true:=decide_eq_true i1
       have hq:qd (92::d::r)=if V7 d=true then (qd r).map fun x=>(d::x.1,x.2) else none:=by rw [Nj];rfl
       rw [hq]
       by_cases g3:V7 d=true
       · have hdd:32≤d∧d≤126:=by simpa [V7] using g3
         obtain ⟨r2,w1,w2,w3⟩:=DK n d r1 (by omega)
         have ih:=DA n s hs N r (k+2) m r2 (by simp at hN;omega) (by rw [←i3]) (by omega) (by omega) (fun x hx=>by
          rw [w2] at hx
          rcases List.mem_append.1 hx with hx | hx
          · exact hb x hx
          · simp at hx;subst hx;omega) (by simp at hm;omega)
         have b1:decide (d≥32)=true:=decide_eq_true hdd.1
         have b2:decide (d≤126)=true:=decide_eq_true hdd.2
         have hstep:wa n (m+1) s k r1=wa n m s ((k+1+1:Nat):Int) r2:=by
          simp only [wa,ac,hd1,decide_true,decide_false,hm',h1,h2,a1,e1,hd2,i1,i2,a2,b1,b2,w1,e2,Option.bind_some,X7]
          simp
         rw [hstep,if_pos g3]
         cases hqr:qd r with
         | none=>rw [hqr] at ih;exact ih
         | some x=>
          rw [hqr] at ih
          obtain ⟨t1,t2,j1,j2,j3⟩:=ih
          exact ⟨t1,t2,j1,by rw [j2,w2];simp,j3⟩
       · rw [if_neg g3]
         by_cases b1:d≥32
         · have b2:¬d≤126:=fun hb=>g3 (by simp [V7];omega)
           have b1':decide (d≥32)=true:=decide_eq_true b1
           have b2':decide (d≤126)=false:=decide_eq_false b2
           simp only [wa,ac,hd1,decide_true,decide_false,hm',h1,h2,a1,e1,hd2,i1,i2,a2,b1',b2',hm2,Option.bind_some,X7]
           simp
         · have b1':decide (d≥32)=false:=decide_eq_false b1
           simp only [wa,ac,hd1,decide_true,decide_false,hm',h1,h2,a1,e1,hd2,i1,i2,a2,b1',hm2,Option.bind_some,X7]
           simp
    · have g2':(c==92)=false:=by simpa using g2
      have hq:qd (c::r)=if V7 c=true then (qd r).map fun x=>(c::x.1,x.2) else none:=by rw [Nj,if_neg g1,if_neg g2]
      rw [hq]
      by_cases g3:V7 c=true
      · have hdd:32≤c∧c≤126:=by simpa [V7] using g3
        obtain ⟨r2,w1,w2,w3⟩:=DK n c r1 (by omega)
        have ih:=DA n s hs N r (k+1) m r2 (by simp at hN;omega) h3 (by omega) (by omega) (fun x hx=>by
         rw [w2] at hx
         rcases List.mem_append.1 hx with hx | hx
         · exact hb x hx
         · simp at hx;subst hx;omega) (by simp at hm;omega)
        have b1:decide (c≥32)=true:=decide_eq_true hdd.1
        have b2:decide (c≤126)=true:=decide_eq_true hdd.2
        have hstep:wa n (m+1) s k r1=wa n m s ((k+1:Nat):Int) r2:=by
         simp only [wa,ac,hd1,decide_true,decide_false,hm',h1,h2,a1,e1,g1',g2',b1,b2,w1,Option.bind_some,X7]
         simp
        rw [hstep,if_pos g3]
        cases hqr:qd r with
        | none=>rw [hqr] at ih;exact ih
        | some x=>
         rw [hqr] at ih
         obtain ⟨t1,t2,j1,j2,j3⟩:=ih
         exact ⟨t1,t2,j1,by rw [j2,w2];simp,j3⟩
      · rw [if_neg g3]
        by_cases b1:c≥32
        · have b2:¬c≤126:=fun hb=>g3 (by simp [V7];omega)
          have b1':decide (c≥32)=true:=decide_eq_true b1
          have b2':decide (c≤126)=false:=decide_eq_false b2
          simp only [wa,ac,hd1,decide_true,decide_false,hm',h1,h2,a1,e1,g1',g2',b1',b2',hm2,Option.bind_some,X7]
          simp
        · have b1':decide (c≥32)=false:=decide_eq_false b1
          simp only [wa,ac,hd1,decide_true,decide_false,hm',h1,h2,a1,e1,g1',g2',b1',hm2,Option.bind_some,X7]
          simp
open Go
theorem qS (n:Nat) (s:BA) (hs:s.size≤1000000) (hn:10000000≤n):match qd ((bs s).drop 1) with
  | none=>Qd n s=some (.error 8)
  | some (mean,rest)=>∃ t1 t2,Qd n s=some (.ok (t1,t2,()))∧bs t1=mean∧bs t2=rest:=by
 have hm':(Xb n true)=some (.ok ()):=Xr n true
 have hm2:(Xb n false)=some (.error 8):=Xr n false
 have w2:IntKind.wrap .i64 ((1:Int)+(1:Int))=((2:Nat):Int):=L8 (k:=1) (by decide)
 have w3:IntKind.wrap .i64 (((2:Nat):Int)+(1:Int))=((3:Nat):Int):=L8 (k:=2) (by decide)
 have a0:(0:Int)≤1:=by decide
 have a2:(0:Int)≤((2:Nat):Int):=by decide
 cases h:(bs s).drop 1 with
 | nil=>
  have hk:¬((1:Int)<(s.size:Int)):=Vs (k:=1) h
  rw [show qd []=none from rfl]
  unfold Qd Ee
  simp only [hk,decide_false,hm2,Option.bind_some,X7]
 | cons c r=>
  obtain ⟨h1',h2',h3,h4,h5⟩:=dl h
  have h1:(1:Int)<(s.size:Int):=h1'
  have h2:bt s (1:Int)=c:=h2'
  have a3:((2:Nat):Int)≤(s.size:Int):=by omega
  by_cases g1:c=34
  · subst g1
    rw [show qd (34::r)=some ([],r) by rw [Nj];rfl]
    refine ⟨_,s.extract 2 s.size,?_,(rfl:bs (⟨#[]⟩:BA)=[]),by rw [sj,show (bs s).take s.size=bs s by rw [←Fa,List.take_length]];exact h3⟩
    unfold Qd Ee ni rk
    simp only [h1,decide_true,decide_false,hm',h2,a0,w2,a2,a3,Option.bind_some,X7,Int.toNat_natCast]
    rfl
  · have g1':(c==34)=false:=by simpa using g1
    by_cases g2:c=92
    · subst g2
      cases r with
      | nil=>
       have hn':¬(((2:Nat):Int)<(s.size:Int)):=Vs (k:=2) h3
       rw [show qd [92]=none by rw [Nj];rfl]
       unfold Qd Ee
       simp only [h1,hn',decide_true,decide_false,hm',hm2,h2,a0,w2,Option.bind_some,X7]
       rfl
      | cons d r=>
       obtain ⟨i1',i2',i3,i4,i5⟩:=dl h3
       have i1:((2:Nat):Int)<(s.size:Int):=i1'
       have i2:bt s ((2:Nat):Int)=d:=i2'
       have hq:qd (92::d::r)=if V7 d=true then (qd r).map fun x=>(d::x.1,x.2) else none:=by rw [Nj];rfl
       rw [hq]
       by_cases g3:V7 d=true
       · have hdd:32≤d∧d≤126:=by simpa [V7] using g3
         obtain ⟨r2,x1,x2,x3⟩:=SQ n d
         have ih:=DA n s hs r.length r 3 n r2 (Nat.le_refl _) i3 (by omega) (by omega) (fun x hx=>by rw [x2] at hx;simp at hx;subst hx;omega) (by
          have:=congrArg List.length i3
          rw [List.length_drop,Fa] at this;omega)
         have b1:d≥32:=hdd.1
         have b2:d≤126:=hdd.2
         have hstep:Qd n s=(wa n n s ((3:Nat):Int) r2).bind fun x=>W7 x (fun _=>none) (fun a=>some (.ok (a.1,a.2,()))) (fun p=>some (.error p)):=by
          unfold Qd Ee
          simp only [h1,i1,i2,b1,b2,decide_true,decide_false,hm',h2,a0,w2,a2,x1,w3,Option.bind_some,X7]
          rfl
         rw [hstep,if_pos g3]
         cases hqr:qd r with
         | none=>rw [hqr] at ih;rw [ih];rfl
         | some x=>
          rw [hqr] at ih
          obtain ⟨t1,t2,j1,j2,j3⟩:=ih
          exact ⟨t1,t2,by rw [j1];rfl,by rw [j2,x2];rfl,j3⟩
       · rw [if_neg g3]
         unfold Qd Ee
         by_cases b1:d≥32
         · have b2:¬d≤126:=fun hb=>g3 (by simp [V7];omega)
           simp only [h1,i1,i2,b1,b2,decide_true,decide_false,hm',hm2,h2,a0,w2,a2,Option.bind_some,X7]
           rfl
         · simp only [h1,i1,i2,b1,decide_true,decide_false,hm',hm2,h2,a0,w2,a2,Option.bind_some,X7]
           rfl
    · have g2':(c==92)=false:=by simpa using g2
      have hq:qd (c::r)=if V7 c=true then (qd r).map fun x=>(c::x.1,x.2) else none:=by rw [Nj,if_neg g1,if_neg g2]
      rw [hq]
      by_cases g3:V7 c=true
      · have hdd:32≤c∧c≤126:=by simpa [V7] using g3
        obtain ⟨r2,x1,x2,x3⟩:=SQ n c
        have ih:=DA n s hs r.length r 2 n r2 (Nat.le_refl _) h3 (by omega) (by omega) (fun x hx=>by rw [x2] at hx;simp at hx;subst hx;omega) (by
         have:=congrArg List.length h3
         rw [List.length_drop,Fa] at this;omega)
        have b1:c≥32:=hdd.1
        have b2:c≤126:=hdd.2
        have hstep:Qd n s=(wa n n s ((2:Nat):Int) r2).bind fun x=>W7 x (fun _=>none) (fun a=>some (.ok (a.1,a.2,()))) (fun p=>some (.error p)):=by
         unfold Qd Ee
         simp only [h1,b1,b2,decide_true,decide_false,hm',h2,g1',g2',a0,w2,x1,Option.bind_some,X7]
         rfl
        rw [hstep,if_pos g3]
        cases hqr:qd r with
        | none=>rw [hqr] at ih;rw [ih];rfl
        | some x=>
         rw [hqr] at ih
         obtain ⟨t1,t2,j1,j2,j3⟩:=ih
         exact ⟨t1,t2,by rw [j1];rfl,by rw [j2,x2];rfl,j3⟩
      · rw [if_neg g3]
        unfold Qd Ee
        by_cases b1:c≥32
        · have b2:¬c≤126:=fun hb=>g3 (by simp [V7];omega)
          simp only [h1,b1,b2,decide_true,decide_false,hm',hm2,h2,g1',g2',a0,Option.bind_some,X7]
          rfl
        · simp only [h1,b1,decide_true,decide_false,hm',hm2,h2,g1',g2',a0,Option.bind_some,X7]
          rfl
theorem YJ {b b':Sq Int} {c:Int} (h:r8 id b'=r8 id b++[c]) (hb:∀ c∈r8 id b,0≤c∧c<256) (hc:0≤c∧c<256):∀ c∈r8 id b',0≤c∧c<256:=fun x hx=>by
 rw [h] at hx
 rcases List.mem_append.1 hx with hx | hx
 · exact hb x hx
 · simp at hx;subst hx;exact hc
open Go
theorem I2 {a b:BA} (h:a.size+b.size≤9000000000):yo a b=true:=by
 unfold yo
 rw [Nat.ble_eq];omega
theorem qJ (c:Int) (r:List Int):Y6 (c::r)=(if c=34∨c=92 then [92,c] else [c])++Y6 r:=by
 simp only [Y6];split<;>rfl
def qt (l:List Int):List Int:=34::Y6 l++[34]
theorem NJ (n:Nat) (s:BA) (hs:s.size≤1000000):∀ (r:List Int) (k m:Nat) (q:Sq Int),(bs s).drop k=r→k≤s.size→q.n≤2*k+1→(∀ c∈r8 id q,0≤c∧c<256)→r.length<m→
  ∃ q',Mc n m s s.size k q=some (.out q')∧r8 id q'=r8 id q++Y6 r∧q'.n≤2*s.size+1∧(∀ c∈r8 id q',0≤c∧c<256)
 | [],k,m,q,h,hk,hq,hb,hm=>by
  obtain ⟨m,rfl⟩:∃ q,m=q+1:=⟨m - 1,by omega⟩
  have:=Vs h
  exact ⟨q,by simp [Mc,Mg,this],by simp [Y6],by omega,hb⟩
 | c::r,k,m,q,h,hk,hq,hb,hm=>by
  obtain ⟨m,rfl⟩:∃ q,m=q+1:=⟨m - 1,by omega⟩
  obtain ⟨h1,h2,h3,h4,h5⟩:=dl h
  have e1:=L8 (k:=k) (by omega)
  have a1:(0:Int)≤(k:Int):=by omega
  by_cases g:c=34∨c=92
  · obtain ⟨q1,w1,w2,w3⟩:=DK n 92 q (by omega)
    obtain ⟨q2,x1,x2,x3⟩:=DK n c q1 (by omega)
    have hb1:=YJ w2 hb ⟨by decide,by decide⟩
    have hb2:=YJ x2 hb1 ⟨h4,h5⟩
    obtain ⟨q',j1,j2,j3,j4⟩:=NJ n s hs r (k+1) m q2 h3 (by omega) (by omega) hb2 (by simp at hm;omega)
    refine ⟨q',?_,by rw [j2,x2,w2,qJ,if_pos g];simp,j3,j4⟩
    rw [←j1]
    rcases g with rfl | rfl
    · simp only [Mc,Mg,h1,h2,a1,e1,w1,x1,decide_true,Option.bind_some]
      rfl
    · simp only [Mc,Mg,h1,h2,a1,e1,w1,x1,decide_true,Option.bind_some]
      rfl
  · obtain ⟨q2,x1,x2,x3⟩:=DK n c q (by omega)
    have hb2:=YJ x2 hb ⟨h4,h5⟩
    obtain ⟨q',j1,j2,j3,j4⟩:=NJ n s hs r (k+1) m q2 h3 (by omega) (by omega) hb2 (by simp at hm;omega)
    refine ⟨q',?_,by rw [j2,x2,qJ,if_neg g];simp,j3,j4⟩
    have g1:(c==34)=false:=by simp;exact fun e=>g (.inl e)
    have g2:(c==92)=false:=by simp;exact fun e=>g (.inr e)
    rw [←j1]
    simp only [Mc,Mg,h1,h2,g1,g2,a1,e1,x1,decide_true,Option.bind_some]
    rfl
def qs (l:List Int):List Int:=if pl 0 l=true then l else qt l
theorem NT (n:Nat) (s:BA) (hs:s.size≤1000000) (hn:10000000≤n):∃ t,Pv n s=some t∧bs t=qs (bs s):=by
 unfold Pv Qv qs
 rw [ZO n s (by omega) (by omega),Option.bind_some]
 by_cases hp:pl 0 (bs s)=true
 · rw [if_pos hp,if_pos hp]
   exact ⟨s,rfl,rfl⟩
 · rw [if_neg hp,if_neg hp]
   obtain ⟨q0,w1,w2,w3⟩:=SQ n 34
   have hb0:∀ c∈r8 id q0,0≤c∧c<256:=fun c hc=>by rw [w2] at hc;simp at hc;subst hc;omega
   obtain ⟨q',j1,j2,j3,j4⟩:=NJ n s hs (bs s) 0 n q0 (by simp) (by omega) (by omega) hb0 (by rw [Fa];omega)
   obtain ⟨t,s1,s2⟩:=PQ n q' (by omega) j4
   have hts:t.size≤2*s.size+1:=by
    have:=congrArg List.length s2
    rw [Fa,qo] at this;omega
   refine ⟨t++(⟨#[34]⟩:BA),?_,by rw [aR,s2,j2,w2];rfl⟩
   rw [show ((0:Nat):Int)=0 from rfl] at j1
   rw [w1,Option.bind_some,j1,Option.bind_some]
   simp only [W7]
   rw [s1,Option.bind_some,if_pos (I2 (by show t.size+(⟨#[34]⟩:BA).size≤9000000000;rw [show (⟨#[34]⟩:BA).size=1 from rfl];omega))]
theorem cZ (l:List Int):(qt l).length≤2*l.length+2:=by
 have:=vR l
 simp [qt];omega
theorem bZ (l:List Int):(qs l).length≤2*l.length+2:=by
 unfold qs
 split
 · omega
 · exact cZ l
theorem eP:∀ (N:Nat) (r:List Int),r.length≤N→∀ x,qd r=some x→x.1.length+x.2.length+1≤r.length
 | _,[],_,x,h=>by cases h
 | 0,c::r,h,_,_=>by simp at h
 | N+1,c::r,hN,x,h=>by
  rw [Nj] at h
  split at h
  · cases h;simp
  · split at h
    · cases r with
      | nil=>cases h
      | cons d r=>
       simp only at h
       split at h
       · obtain ⟨y,hy,rfl⟩:=Option.map_eq_some_iff.1 h
         have:=eP N r (by simp at hN;omega) y hy
         simp;omega
       · cases h
    · split at h
      · obtain ⟨y,hy,rfl⟩:=Option.map_eq_some_iff.1 h
        have:=eP N r (by simp at hN;omega) y hy
        simp;omega
      · cases h
def A7 (l:List Int):Option (List Int×List Int):=if l.head?=some 34 then (qd (l.drop 1)).map fun x=>(qs x.1,x.2)
 else if s7 64 l= -1 then none else if pl 0 (l.take (s7 64 l).toNat)=true then some (l.take (s7 64 l).toNat,l.drop (s7 64 l).toNat) else none
theorem yT (n:Nat) (s:BA) (hs:s.size≤1000000) (hn:10000000≤n):match A7 (bs s) with
  | none=>xi n s=some (.error 8)
  | some (a,b)=>∃ t1 t2,xi n s=some (.ok (t1,t2,()))∧bs t1=a∧bs t2=b:=by
 have hm':(Xb n true)=some (.ok ()):=Xr n true
 have hm2:(Xb n false)=some (.error 8):=Xr n false
 unfold A7
 by_cases h:(bs s).head?=some 34
 · rw [if_pos h]
   have hq:=qS n s hs hn
   have hP:jd n s (⟨#[34]⟩:BA)=some true:=by rw [Ol n s _ (c:=34) rfl,decide_eq_true h]
   cases hx:qd ((bs s).drop 1) with
   | none=>
    rw [hx] at hq
    simp only at hq
    simp only [Option.map_none]
    unfold xi fi
    rw [hP,Option.bind_some,if_pos rfl,hq];rfl
   | some x=>
    rw [hx] at hq
    obtain ⟨t1,t2,j1,j2,j3⟩:=hq
    have hl:=eP _ _ (Nat.le_refl _) x hx
    rw [List.length_drop,Fa,←j2,Fa] at hl
    obtain ⟨t3,k1,k2⟩:=NT n t1 (by omega) hn
    simp only [Option.map_some]
    refine ⟨t3,t2,?_,by rw [k2,j2],j3⟩
    unfold xi fi
    rw [hP,Option.bind_some,if_pos rfl,j1,Option.bind_some]
    simp only [X7]
    rw [k1];rfl
 · rw [if_neg h]
   have hP:jd n s (⟨#[34]⟩:BA)=some false:=by rw [Ol n s _ (c:=34) rfl,decide_eq_false h]
   have hI:=dD n s (c:=64) (by decide) (by decide)
   have hge:=(Um (c:=64) (bs s)).2
   have hlt:=uL 64 (bs s)
   by_cases hx:s7 64 (bs s)= -1
   · rw [if_pos hx]
     simp only
     have b1:¬((-1:Int)≥0):=by decide
     unfold xi fi
     rw [hP,Option.bind_some,if_neg (by decide),hI,hx]
     simp only [b1,hm2,decide_false,Option.bind_some,X7]
     rfl
   · rw [if_neg hx]
     obtain ⟨k,hk⟩:∃ k:Nat,s7 64 (bs s)=(k:Int):=⟨(s7 64 (bs s)).toNat,by omega⟩
     have hks:k<s.size:=by have:=hlt.1;rw [Fa] at this;omega
     rw [hk,Int.toNat_natCast]
     have hb0:bs (s.extract 0 k)=(bs s).take k:=by rw [sj];rfl
     have hb1:bs (s.extract k s.size)=(bs s).drop k:=by rw [sj,←Fa,List.take_length]
     have hpl:=ZO n (s.extract 0 k) (by have:=dm s 0 k;omega) (by have:=dm s 0 k;omega)
     rw [hb0] at hpl
     have a1:(k:Int)≥0:=by omega
     have a2:(0:Int)≤(k:Int):=by omega
     have a3:(k:Int)≤(s.size:Int):=by omega
     have hpl':Po n (s.extract (Int.toNat (0:Int)) k)=some (pl 0 ((bs s).take k)):=hpl
     by_cases hp:pl 0 ((bs s).take k)=true
     · rw [if_pos hp]
       refine ⟨s.extract 0 k,s.extract k s.size,?_,hb0,hb1⟩
       unfold xi fi
       rw [hP,Option.bind_some,if_neg (by decide),hI,hk]
       simp only [a1,a2,a3,hpl',hp,hm',decide_true,Option.bind_some,X7,Int.toNat_natCast]
       rfl
     · rw [if_neg hp]
       simp only
       unfold xi fi
       rw [hP,Option.bind_some,if_neg (by decide),hI,hk]
       have hp':pl 0 ((bs s).take k)=false:=by simpa using hp
       simp only [a1,a2,a3,hpl',hp',hm2,decide_true,Option.bind_some,X7,Int.toNat_natCast]
       rfl
def wI (l:List Int):Bool:=decide (1≤l.length)&&decide (l.length≤64)&&(if l.head?=some 34 then (match qd (l.drop 1) with
  | none=>false
  | some x=>decide (x.2=[])&&!pl 0 x.1&&decide (qt x.1=l)) else pl 0 l)
open Go
abbrev b6:=BA×(BA×Unit)
def r3:b6:=((⟨#[]⟩:BA),((⟨#[]⟩:BA),()))
def wY (l:List Int):Option (List Int×List Int):=(A7 l).bind fun x=>if x.1.length≤64∧x.2.head?=some 64∧yV ((x.2.drop 1).map B7)=true then some (x.1,(x.2.drop 1).map B7) else none
theorem IW {l:List Int} {x:List Int×List Int} (h:A7 l=some x):x.1.length≤2*l.length+2∧x.2.length≤l.length:=by
 unfold A7 at h
 split at h
 · obtain ⟨y,hy,rfl⟩:=Option.map_eq_some_iff.1 h
   have h1:=eP _ _ (Nat.le_refl _) y hy
   have h2:=bZ y.1
   rw [List.length_drop] at h1
   exact ⟨by simp;omega,by simp;omega⟩
 · split at h
   · cases h
   · split at h
     · cases h;simp;omega
     · cases h
theorem lP {t:BA}:bs (t.extract 1 t.size)=(bs t).drop 1:=by rw [sj,←Fa,List.take_length]
theorem XW (n:Nat) (s:BA) (hs:s.size≤400000) (hn:10000000≤n):match wY (bs s) with
  | none=>Mm n s=some (.error 8)
  | some (a,d)=>∃ t1 t2,Mm n s=some (.ok (t1,(t2,())))∧bs t1=a∧bs t2=d:=by
 have hm':(Xb n true)=some (.ok ()):=Xr n true
 have hm2:(Xb n false)=some (.error 8):=Xr n false
 have hl:=yT n s (by omega) hn
 unfold wY
 cases hx:A7 (bs s) with
 | none=>
  rw [hx] at hl
  simp only at hl
  simp only [Option.bind_none]
  unfold Mm Bk
  rw [hl];rfl
 | some x=>
  rw [hx] at hl
  obtain ⟨t1,t2,j1,j2,j3⟩:=hl
  have hlen:=IW hx
  rw [←j2,←j3,Fa,Fa,Fa] at hlen
  simp only [Option.bind_some]
  rw [←j2,←j3,Fa]
  by_cases g1:t1.size≤64
  · have b1:(t1.size:Int)≤64:=by omega
    have hP:=Ol n t2 (⟨#[64]⟩:BA) (c:=64) rfl
    by_cases g2:(bs t2).head?=some 64
    · rw [decide_eq_true g2] at hP
      have hne:1≤t2.size:=by
       rw [←Fa]
       cases hb:bs t2 with
       | nil=>rw [hb] at g2;cases g2
       | cons _ _=>simp
      have b2:(1:Int)≤(t2.size:Int):=by omega
      have b3:(0:Int)≤1:=by decide
      obtain ⟨t3,k1,k2⟩:=YT n (t2.extract 1 t2.size) (by have:=dm t2 1 t2.size;omega) hn
      have hsz:t3.size≤t2.size:=by rw [←Fa t3,k2,List.length_map,Fa];exact dm _ _ _
      have hD:=BE n t3 (by omega) hn
      rw [k2,lP] at hD
      rw [lP] at k2
      have k1':Qo n (t2.extract (Int.toNat (1:Int)) t2.size)=some t3:=k1
      by_cases g3:yV (((bs t2).drop 1).map B7)=true
      · rw [if_pos ⟨g1,g2,g3⟩]
        refine ⟨t1,t3,?_,rfl,k2⟩
        unfold Mm Bk
        rw [j1]
        simp only [Option.bind_some,X7,b1,decide_true,hP,hm',b2,b3,Int.toNat_natCast,k1',hD,g3]
        rfl
      · rw [if_neg fun h=>g3 h.2.2]
        simp only
        have g3':yV (((bs t2).drop 1).map B7)=false:=by simpa using g3
        unfold Mm Bk
        rw [j1]
        simp only [Option.bind_some,X7,b1,decide_true,hP,hm',hm2,b2,b3,Int.toNat_natCast,k1',hD,g3']
        rfl
    · rw [decide_eq_false g2] at hP
      rw [if_neg fun h=>g2 h.2.1]
      simp only
      unfold Mm Bk
      rw [j1]
      simp only [Option.bind_some,X7,b1,decide_true,hP,hm2]
      rfl
  · have b1:¬((t1.size:Int)≤64):=by omega
    rw [if_neg fun h=>g1 h.1]
    simp only
    unfold Mm Bk
    rw [j1]
    simp only [Option.bind_some,X7,b1,decide_false,hm2]
    rfl
theorem US (n:Nat) (s:BA) (hs:s.size≤400000) (hn:10000000≤n):match wY (bs s) with
  | none=>Mo n s=some (r3,8,())
  | some (a,d)=>∃ t1 t2,Mo n s=some ((t1,(t2,())),0,())∧bs t1=a∧bs t2=d:=by
 have h:=XW n s hs hn
 cases hx:wY (bs s) with
 | none=>
  rw [hx] at h
  simp only at h ⊢
  unfold Mo Cm
  rw [h];rfl
 | some x=>
  rw [hx] at h
  obtain ⟨t1,t2,j1,j2,j3⟩:=h
  refine ⟨t1,t2,?_,j2,j3⟩
  unfold Mo Cm
  rw [j1];rfl
def HG (a z:List Int):Option (List Int×List Int):=if z.head?=some 64∧(wI a&&XC ((z.drop 1).map B7))=true then some (a,(z.drop 1).map B7) else none
def tw:List Int→Nat
 | []=>0
 | c::r=>if c=64 then 0 else tw r+1
def xY (l:List Int):Option (List Int×List Int):=if l.head?=some 34 then (qd (l.drop 1)).bind fun x=>HG (qs x.1) x.2 else HG (l.take (tw l)) (l.drop (tw l))
open Go Go.RowKit
theorem MT:∀ (N:Nat) (r:List Int),r.length≤N→∀ x,qd r=some x→x.1.all V7=true
 | _,[],_,x,h=>by cases h
 | 0,c::r,h,_,_=>by simp at h
 | N+1,c::r,hN,x,h=>by
  rw [Nj] at h
  split at h
  · cases h;rfl
  · split at h
    · cases r with
      | nil=>cases h
      | cons d r=>
       simp only at h
       split at h
       · rename_i hd
         obtain ⟨y,hy,rfl⟩:=Option.map_eq_some_iff.1 h
         have:=MT N r (by simp at hN;omega) y hy
         rw [List.all_cons,hd,this];rfl
       · cases h
    · split at h
      · rename_i hd
        obtain ⟨y,hy,rfl⟩:=Option.map_eq_some_iff.1 h
        have:=MT N r (by simp at hN;omega) y hy
        rw [List.all_cons,hd,this];rfl
      · cases h
theorem pS:∀ (l:List Int),l.all V7=true→∀ z,qd (Y6 l++34::z)=some (l,z)
 | [],_,z=>by rw [show Y6 []++34::z=34::z from rfl,Nj];rfl
 | c::r,h,z=>by
  rw [List.all_cons,Bool.and_eq_true] at h
  have ih:=pS r h.2 z
  rw [qJ]
  by_cases g:c=34∨c=92
  · rw [if_pos g]
    rw [show ([92,c]++Y6 r)++34::z=92::c::(Y6 r++34::z) by simp,Nj]
    simp only [h.1,ih]
    rfl
  · rw [if_neg g]
    rw [show ([c]++Y6 r)++34::z=c::(Y6 r++34::z) by simp,Nj,if_neg fun e=>g (.inl e),if_neg fun e=>g (.inr e),if_pos h.1,ih]
    rfl
theorem nS {l:List Int} (h:pl 0 l=true):1≤l.length∧l.head?≠some 34:=by
 cases l with
 | nil=>simp [pl] at h
 | cons c r=>
  refine ⟨by simp,fun e=>?_⟩
  simp at e
  subst e
  have:vV 34=false:=by decide
  simp [pl,this] at h
theorem HW {m:List Int} (h:m.all V7=true):wI (qs m)=decide ((qs m).length≤64):=by
 unfold qs
 by_cases hp:pl 0 m=true
 · rw [if_pos hp]
   obtain ⟨h1,h2⟩:=nS hp
   unfold wI
   rw [if_neg h2,hp]
   simp [h1]
 · rw [if_neg hp]
   have hp':pl 0 m=false:=by simpa using hp
   unfold wI
   have hd:(qt m).drop 1=Y6 m++34::[]:=rfl
   rw [if_pos (by rfl:(qt m).head?=some 34),hd,pS m h []]
   simp [hp',qt]
theorem XV:∀ l:List Int,(s7 64 l= -1→tw l=l.length)∧(s7 64 l≠ -1→s7 64 l=(tw l:Int)∧(l.drop (tw l)).head?=some 64)
 | []=>by simp [s7,tw]
 | c::r=>by
  have ih:=XV r
  have hge:=(Um (c:=64) r).2
  simp only [s7,tw]
  by_cases g:c=64
  · simp [g]
  · rw [if_neg g,if_neg g]
    by_cases g2:s7 64 r= -1
    · rw [if_pos g2]
      exact ⟨fun _=>by rw [ih.1 g2];rfl,fun h=>absurd rfl h⟩
    · rw [if_neg g2]
      have:=ih.2 g2
      exact ⟨fun h=>by omega,fun _=>⟨by rw [this.1];rfl,by rw [List.drop_succ_cons];exact this.2⟩⟩
theorem JT (l:List Int):wY l=xY l:=by
 unfold wY xY A7
 by_cases h:l.head?=some 34
 · rw [if_pos h,if_pos h]
   cases hx:qd (l.drop 1) with
   | none=>rfl
   | some x=>
    simp only [Option.map_some,Option.bind_some]
    unfold HG
    rw [HW (MT _ _ (Nat.le_refl _) x hx),sE]
    by_cases g1:(qs x.1).length≤64<;>by_cases g2:x.2.head?=some 64<;>cases XC ((x.2.drop 1).map B7)<;>simp [g1,g2]
 · rw [if_neg h,if_neg h]
   have ht:=XV l
   have hge:=(Um (c:=64) l).2
   by_cases g:s7 64 l= -1
   · rw [if_pos g,ht.1 g,List.drop_length]
     simp [HG]
   · rw [if_neg g]
     obtain ⟨e1,e2⟩:=ht.2 g
     rw [e1,Int.toNat_natCast]
     by_cases hp:pl 0 (l.take (tw l))=true
     · rw [if_pos hp]
       obtain ⟨h1,h2⟩:=nS hp
       simp only [Option.bind_some]
       unfold HG
       have hloc:wI (l.take (tw l))=decide ((l.take (tw l)).length≤64):=by
        unfold wI
        rw [if_neg h2,hp]
        simp only [h1,decide_true,Bool.true_and,Bool.and_true]
       rw [hloc,sE,e2]
       by_cases g1:(l.take (tw l)).length≤64<;>cases XC (((l.drop (tw l)).drop 1).map B7)<;>simp only [g1,decide_true,decide_false]<;>simp
     · rw [if_neg hp]
       simp only [Option.bind_none]
       have hloc:wI (l.take (tw l))=false:=by
        unfold wI
        by_cases h34:(l.take (tw l)).head?=some 34
        · exfalso
          apply h
          cases l with
          | nil=>simp at h34
          | cons c r=>
           cases htw:tw (c::r) with
           | zero=>rw [htw] at h34;simp at h34
           | succ k=>rw [htw] at h34;simpa using h34
        · rw [if_neg h34]
          have:pl 0 (l.take (tw l))=false:=by simpa using hp
          rw [this];simp
       unfold HG
       rw [hloc]
       simp
theorem iw (d:Int) (p:Int→Bool):∀ (r cur:List Int),(fc d cur r).all (fun w=>w.all p)=true→(∀ c∈cur,p c=true)∧∀ c∈r,p c=true∨c=d
 | [],cur,h=>by
  simp only [fc,List.all_cons,List.all_nil,Bool.and_true,List.all_eq_true] at h
  exact ⟨h,fun c hc=>by cases hc⟩
 | c::r,cur,h=>by
  simp only [fc] at h
  by_cases e:c=d
  · rw [if_pos e,List.all_cons,Bool.and_eq_true] at h
    obtain ⟨h1,h2⟩:=iw d p r [] h.2
    refine ⟨fun x hx=>List.all_eq_true.mp h.1 x hx,fun x hx=>?_⟩
    rcases List.mem_cons.mp hx with rfl | hx
    · exact .inr e
    · exact h2 x hx
  · rw [if_neg e] at h
    obtain ⟨h1,h2⟩:=iw d p r (cur++[c]) h
    refine ⟨fun x hx=>h1 x (List.mem_append_left _ hx),fun x hx=>?_⟩
    rcases List.mem_cons.mp hx with rfl | hx
    · exact .inl (h1 x (List.mem_append_right _ List.mem_cons_self))
    · exact h2 x hx
theorem JR {l:List Int} (h:2≤l.length) (h1:l.head?=some 91) (h2:l.getLast?=some 93):∀ c∈l,c=91∨c=93∨c∈GD l:=by
 intro c hc
 cases l with
 | nil=>cases hc
 | cons a r=>
  simp only [List.head?_cons,Option.some.injEq] at h1
  rcases List.mem_cons.mp hc with e | hm
  · exact .inl (e.trans h1)
  · have hr:r≠[]:=List.ne_nil_of_mem hm
    obtain ⟨k,hk⟩:∃ k,r.length=k+1:=⟨r.length - 1,by have:=List.length_pos_iff.mpr hr;omega⟩
    have hi:GD (a::r)=r.dropLast:=by
     unfold GD
     rw [List.length_cons,Nat.add_sub_cancel,hk,List.take_succ_cons,List.drop_one,List.tail_cons,List.dropLast_eq_take,hk];rfl
    have hg:r.getLast hr=93:=by
     rw [List.getLast?_cons,List.getLast?_eq_some_getLast hr] at h2
     simpa using h2
    rw [←List.dropLast_concat_getLast hr] at hm
    rcases List.mem_append.mp hm with hm | hm
    · exact .inr (.inr (hi▸hm))
    · rw [List.mem_singleton.mp hm,hg];exact .inr (.inl rfl)
theorem kT {l:List Int} (h:XC l=true):l.map B7=l:=by
 have key:∀ c∈l,¬(65≤c∧c≤90):=by
  unfold XC at h
  rw [Bool.and_eq_true,Bool.or_eq_true] at h
  rcases h.2 with h | h
  · unfold wT at h
    simp only [Bool.and_eq_true,decide_eq_true_eq] at h
    obtain ⟨⟨⟨h1,h2⟩,h3⟩,h4⟩:=h
    unfold uT at h4
    rw [Bool.and_eq_true] at h4
    have h5:(fc 46 [] (GD l)).all (fun w=>w.all U6)=true:=by
     rw [List.all_eq_true]
     intro w hw
     have:=List.all_eq_true.mp h4.1 w hw
     unfold S7 at this
     simp only [Bool.and_eq_true] at this
     exact this.1.2
    have h6:=(iw 46 U6 _ _ h5).2
    intro c hc
    rcases JR h1 h2 h3 c hc with rfl | rfl | hm
    · decide
    · decide
    · rcases h6 c hm with h7 | rfl
      · unfold U6 at h7
        simp only [Bool.and_eq_true,decide_eq_true_eq] at h7
        omega
      · decide
  · have h5:(fc 46 [] l).all (fun w=>w.all y7)=true:=by
     rw [List.all_eq_true]
     intro w hw
     have:=List.all_eq_true.mp h w hw
     unfold wM at this
     simp only [Bool.and_eq_true] at this
     exact this.2
    have h6:=(iw 46 y7 _ _ h5).2
    intro c hc
    rcases h6 c hc with h7 | rfl
    · unfold y7 o8 at h7
      simp only [Bool.and_eq_true,Bool.or_eq_true,decide_eq_true_eq] at h7
      omega
    · decide
 have:l.map B7=l.map id:=List.map_congr_left fun c hc=>by
  unfold B7
  rw [if_neg (key c hc)];rfl
 rw [this,List.map_id]
theorem UW:∀ (l:List Int) (w:Nat),pl w l=true→64 ∉ l
 | [],_,_=>by simp
 | c::r,w,h=>by
  simp only [pl] at h
  intro hm
  rcases List.mem_cons.mp hm with e | hm
  · subst e
    have a:vV 64=false:=by decide
    simp [a] at h
  · by_cases c1:c=46
    · rw [if_pos c1] at h
      by_cases c2:w=0
      · rw [if_pos c2] at h;cases h
      · rw [if_neg c2] at h;exact UW r 0 h hm
    · rw [if_neg c1] at h
      by_cases c2:vV c=true
      · rw [if_pos c2] at h;exact UW r (w+1) h hm
      · rw [if_neg c2] at h;cases h
theorem WV:∀ (l z:List Int),64 ∉ l→tw (l++64::z)=l.length
 | [],z,_=>by simp [tw]
 | c::r,z,h=>by
  have hc:¬c=64:=fun e=>h (by rw [e];exact List.mem_cons_self)
  have:=WV r z fun hm=>h (List.mem_cons_of_mem _ hm)
  show (if c=64 then 0 else tw (r++64::z)+1)=_
  rw [if_neg hc,this];rfl
theorem GI {a z l d:List Int} (h:HG a z=some (l,d)):(wI l&&XC d)=true:=by
 unfold HG at h
 by_cases c:z.head?=some 64∧(wI a&&XC ((z.drop 1).map B7))=true
 · rw [if_pos c] at h
   obtain ⟨h1,h2⟩:=Prod.mk.inj (Option.some.inj h)
   rw [←h1,←h2];exact c.2
 · rw [if_neg c] at h;cases h
theorem TW (l d:List Int):xY (l++64::d)=some (l,d)↔(wI l&&XC d)=true:=by
 constructor
 · intro h
   unfold xY at h
   by_cases c:(l++64::d).head?=some 34
   · rw [if_pos c] at h
     cases hq:qd ((l++64::d).drop 1) with
     | none=>rw [hq] at h;cases h
     | some x=>rw [hq,Option.bind_some] at h;exact GI h
   · rw [if_neg c] at h;exact GI h
 · intro h
   rw [Bool.and_eq_true] at h
   obtain ⟨h1,hd⟩:=h
   have hlow:=kT hd
   have tl:∀ a,wI a=true→HG a (64::d)=some (a,d):=by
    intro a ha
    unfold HG
    have e:(64::d).drop 1=d:=rfl
    rw [e,hlow,ha,hd]
    rfl
   have L1:=h1
   unfold wI at L1
   rw [Bool.and_eq_true,Bool.and_eq_true,decide_eq_true_eq] at L1
   obtain ⟨⟨L2,L3⟩,L1⟩:=L1
   have hh:(l++64::d).head?=l.head?:=by
    cases l with
    | nil=>simp at L2
    | cons a r=>rfl
   unfold xY
   by_cases c:l.head?=some 34
   · rw [if_pos c] at L1
     cases hx:qd (l.drop 1) with
     | none=>rw [hx] at L1;cases L1
     | some x=>
      rw [hx] at L1
      simp only [Bool.and_eq_true,decide_eq_true_eq,Bool.not_eq_true'] at L1
      obtain ⟨⟨e1,e2⟩,e3⟩:=L1
      have ok:=MT _ _ (Nat.le_refl _) x hx
      have hdr:(l++64::d).drop 1=Y6 x.1++34::64::d:=by
       rw [←e3];simp [qt]
      have hqs:qs x.1=l:=by
       unfold qs
       rw [if_neg (by rw [e2];decide),e3]
      rw [if_pos (hh.trans c),hdr,pS x.1 ok (64::d),Option.bind_some]
      show HG (qs x.1) (64::d)=_
      rw [hqs];exact tl l h1
   · rw [if_neg c] at L1
     rw [if_neg (by rw [hh];exact c),WV l d (UW l 0 L1),List.take_left' rfl,List.drop_left' rfl]
     exact tl l h1
theorem dW (n:Nat) (a b:BA) (ha:a.size≤100000) (hb:b.size≤100000):dI n (a,(b,()))=some ((a++(⟨#[64]⟩:BA))++b):=by
 have h64:(⟨#[64]⟩:BA).size=1:=rfl
 have f1:yo a (⟨#[64]⟩:BA)=true:=I2 (by omega)
 have f2:yo (a++(⟨#[64]⟩:BA)) b=true:=I2 (by rw [ByteArray.size_append];omega)
 unfold dI oE
 rw [if_pos f1,if_pos f2]
theorem TQ (n:Nat) (a b:BA) (ha:a.size≤100000) (hb:b.size≤100000) (hn:10000000≤n):GE n (a,(b,()))=some (wI (bs a)&&XC (bs b)):=by
 have h64:(⟨#[64]⟩:BA).size=1:=rfl
 have hs:((a++(⟨#[64]⟩:BA))++b).size≤400000:=by rw [ByteArray.size_append,ByteArray.size_append];omega
 have hP:=US n _ hs hn
 have hb':bs ((a++(⟨#[64]⟩:BA))++b)=bs a++64::bs b:=by
  rw [aR,aR,List.append_assoc];rfl
 rw [hb',JT] at hP
 have hm:=TW (bs a) (bs b)
 unfold GE pE
 simp only [dW n a b ha hb,Option.bind_some]
 cases hv:xY (bs a++64::bs b) with
 | none=>
  rw [hv] at hP hm
  simp only at hP
  have:(wI (bs a)&&XC (bs b))=false:=by
   cases e:(wI (bs a)&&XC (bs b)) with
   | false=>rfl
   | true=>cases hm.mpr e
  rw [hP,this];rfl
 | some y=>
  rw [hv] at hP hm
  obtain ⟨t1,t2,j1,j2,j3⟩:=hP
  rw [j1,Option.bind_some]
  simp only [Hv,j2,j3]
  have:(decide (y.1=bs a)&&(decide (y.2=bs b)&&true))=(wI (bs a)&&XC (bs b)):=by
   rw [Bool.eq_iff_iff,←hm]
   simp [Prod.ext_iff]
  rw [←this];rfl
end Go.Proofs.YtdhehcnfkcibiaaGreatDoor.AM
