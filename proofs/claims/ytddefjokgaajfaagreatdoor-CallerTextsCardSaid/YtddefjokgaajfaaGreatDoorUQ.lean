/- Strings as lists of numbers: what the typed functions do to them. -/
import Derived.Test.YtddefjokgaajfaaGreatDoorUA
import Derived.Lib.Strings
import Derived.Lib.Bytealg
import Derived.IntWalk
import Derived.Test.YtddefjokgaajfaaGreatDoorUF2
import Derived.Lib.ItoaNum
import Derived.Test.YtddefjokgaajfaaGreatDoorUB2
set_option linter.all false
set_option linter.unusedVariables false
set_option linter.unusedSimpArgs false
namespace Go.Proofs.YtddefjokgaajfaaGreatDoor.AM
open Go
def bs (s:BA):List Int:=s.data.toList.map fun c=>(c.toNat:Int)
theorem Ca (s:BA):(bs s).length=s.size:=by simp [bs,ByteArray.size_data]
theorem Ly:∀ {a b:List UInt8},(a.map fun c=>(c.toNat:Int))=(b.map fun c=>(c.toNat:Int))→a=b
 | [],[],_=>rfl
 | [],_::_,h=>by simp at h
 | _::_,[],h=>by simp at h
 | x::xs,y::ys,h=>by
  simp only [List.map_cons,List.cons.injEq] at h
  rw [Ly h.2,UInt8.toNat_inj.1 (by have:=h.1;omega:x.toNat=y.toNat)]
theorem XQ {a b:BA} (h:bs a=bs b):a=b:=by
 have:=Ly h
 exact ByteArray.ext (Array.toList_inj.1 this)
theorem Qg (a b:BA):(a.toList==b.toList)=decide (bs a=bs b):=by
 rw [Lib.toList_data,Lib.toList_data]
 by_cases h:bs a=bs b
 · rw [decide_eq_true h,XQ h];simp
 · rw [decide_eq_false h]
   have:a.data.toList≠b.data.toList:=fun e=>h (by unfold bs;rw [e])
   simpa using this
theorem DK (a b:BA):bs (a++b)=bs a++bs b:=by simp [bs,ByteArray.data_append]
theorem Fi (a:BA) (i j:Nat):bs (a.extract i j)=((bs a).take j).drop i:=by
 simp [bs,ByteArray.data_extract,List.map_drop,List.map_take,List.extract,List.drop_take]
theorem FN {s:BA} {c:Int} (h:c∈bs s):0≤c∧c<256:=by
 simp only [bs,List.mem_map] at h
 obtain ⟨x,_,rfl⟩:=h
 have:=x.toNat_lt
 omega
theorem IR {s:BA} {k:Nat} {c:Int} (h:(bs s)[k]?=some c):bt s (k:Int)=c:=by
 have hl:k<s.size:=by have:=(List.getElem?_eq_some_iff.1 h).1;rwa [Ca] at this
 unfold bt
 rw [dif_pos (by simpa using hl)]
 simp only [bs,List.getElem?_map] at h
 rw [Array.getElem?_toList,Array.getElem?_eq_getElem (by rwa [ByteArray.size_data])] at h
 simp at h
 exact h
theorem ol {s:BA} {k:Nat} {c:Int} {r:List Int} (h:(bs s).drop k=c::r):(k:Int)<(s.size:Int)∧bt s (k:Int)=c∧(bs s).drop (k+1)=r∧0≤c∧c<256:=by
 have h1:(bs s)[k]?=some c:=by
  have:=congrArg (fun l=>l[0]?) h
  simpa using this
 have hl:k<s.size:=by have:=(List.getElem?_eq_some_iff.1 h1).1;rwa [Ca] at this
 refine ⟨by omega,IR h1,?_,FN (List.mem_of_getElem? h1)⟩
 rw [←List.drop_drop,h];rfl
theorem Hw {s:BA} {k:Nat} (h:(bs s).drop k=[]):¬((k:Int)<(s.size:Int)):=by
 have:=List.drop_eq_nil_iff.1 h
 rw [Ca] at this
 omega
theorem wr {x:Int} (h1: -9223372036854775808≤x) (h2:x≤9223372036854775807):IntKind.wrap .i64 x=x:=by
 rw [IntKind.wrap_i64]
 omega
theorem BX {k:Nat} (h:k<4611686018427387904):IntKind.wrap .i64 ((k:Int)+1)=((k+1:Nat):Int):=by
 rw [wr (by omega) (by omega)];rfl
theorem wD:∀ (l:List Int) (r:BA),(∀ x∈l,0≤x∧x<256)→bs (l.foldl (fun r c=>r.push (UInt8.ofNat c.toNat)) r)=bs r++l
 | [],r,_=>by simp
 | x::l,r,h=>by
  rw [List.foldl_cons,wD l _ fun y hy=>h y (List.mem_cons_of_mem _ hy)]
  have hx:=h x List.mem_cons_self
  have:bs (r.push (UInt8.ofNat x.toNat))=bs r++[x]:=by
   have e:(UInt8.ofNat x.toNat).toNat=x.toNat:=by simp [UInt8.toNat_ofNat'];omega
   simp [bs,ByteArray.push,e]
   omega
  rw [this];simp
theorem EK {n:Nat} {f:Nat→Int} (h:∀ i,i<n→0≤f i∧f i<256):bs (Sk n f)=(List.range n).map f:=by
 unfold Sk
 rw [wD _ _ fun x hx=>by
  simp only [List.mem_map,List.mem_range] at hx
  obtain ⟨i,hi,rfl⟩:=hx
  exact h i hi]
 rfl
def LW (c:Int):List Int→Int
 | []=> -1
 | b::l=>if b=c then 0 else if LW c l= -1 then -1 else LW c l+1
theorem pO {c:Int} (h0:0≤c) (h1:c<256):∀ l:List UInt8,Lib.indexByte l (Nat.toUInt8 (Int.toNat c))=LW c (l.map fun c=>(c.toNat:Int))
 | []=>rfl
 | b::l=>by
  have e:(Nat.toUInt8 (Int.toNat c)).toNat=c.toNat:=by simp [Nat.toUInt8,UInt8.toNat_ofNat'];omega
  simp only [Lib.indexByte,List.map_cons,LW,pO h0 h1 l]
  have hb:(b==Nat.toUInt8 (Int.toNat c))=decide ((b.toNat:Int)=c):=by
   by_cases hh:(b.toNat:Int)=c
   · rw [decide_eq_true hh]
     have:b=Nat.toUInt8 (Int.toNat c):=UInt8.toNat_inj.1 (by rw [e];omega)
     simp [←this]
   · rw [decide_eq_false hh]
     have:b≠Nat.toUInt8 (Int.toNat c):=fun h=>hh (by rw [h,e];omega)
     simpa using this
  rw [hb]
  by_cases hh:(b.toNat:Int)=c<;>simp [hh]
theorem VP {c:Int} (h0:0≤c) (h1:c<256) (l:List UInt8):Lib.countByte l (Nat.toUInt8 (Int.toNat c))=(l.map fun c=>(c.toNat:Int)).count c:=by
 have e:(Nat.toUInt8 (Int.toNat c)).toNat=c.toNat:=by simp [Nat.toUInt8,UInt8.toNat_ofNat'];omega
 unfold Lib.countByte
 induction l with
 | nil=>rfl
 | cons b l ih=>
  simp only [List.map_cons,List.count_cons,ih]
  by_cases hh:(b.toNat:Int)=c
  · have:b=Nat.toUInt8 (Int.toNat c):=UInt8.toNat_inj.1 (by rw [e];omega)
    simp [hh,←this]
  · have:b≠Nat.toUInt8 (Int.toNat c):=fun h=>hh (by rw [h,e];omega)
    simp [hh,this]
open Go
def qX (c:Int):Bool:=decide (97≤c)&&decide (c≤122) || decide (48≤c)&&decide (c≤57)
def gu:List Int:=[33,35,36,37,38,39,42,43,45,47,61,63,94,95,96,123,124,125,126]
def WQ (c:Int):Bool:=qX c || decide (65≤c)&&decide (c≤90) || decide (c∈gu)
theorem SO (n:Nat) (c:Int):Gq n c=some (qX c):=by
 unfold Gq Gs qX
 by_cases h1:97≤c<;>by_cases h2:c≤122<;>by_cases h3:48≤c<;>by_cases h4:c≤57<;>simp [h1,h2,h3,h4]<;>omega
theorem Jj {c:Int}:∀ l:List Int,(0≤LW c l↔c∈l)∧ -1≤LW c l
 | []=>by simp [LW]
 | b::l=>by
  have:=Jj (c:=c) l
  simp only [LW]
  by_cases h:b=c
  · simp [h]
  · rw [if_neg h]
    have hc:c≠b:=fun e=>h e.symm
    by_cases h2:LW c l= -1
    · rw [if_pos h2]
      have:¬c∈l:=fun hm=>by have:=this.1.2 hm;omega
      simp [hc,this]
    · rw [if_neg h2]
      have h3:0≤LW c l:=by omega
      have:=this.1.1 h3
      constructor
      · constructor
        · intro _;exact List.mem_cons_of_mem _ this
        · intro _;omega
      · omega
theorem Zw (n:Nat) (s:BA) {c:Int} (h0:0≤c) (h1:c<256):Dc n s c=some (LW c (bs s)):=by
 unfold Dc jg Dd me
 simp [pO h0 h1,bs]
theorem QJ:bs (⟨#[33,35,36,37,38,39,42,43,45,47,61,63,94,95,96,123,124,125,126]⟩:BA)=gu:=by decide
theorem DR (n:Nat) {c:Int} (h0:0≤c) (h1:c<256):Bq n c=some (WQ c):=by
 unfold Bq Nr WQ
 rw [SO,Zw _ _ h0 h1,QJ]
 have:=(Jj (c:=c) gu).1
 have hd:decide (LW c gu≥0)=decide (c∈gu):=by rw [decide_eq_decide];exact this
 cases hs:qX c<;>by_cases h2:65≤c<;>by_cases h3:c≤90<;>simp [h2,h3,hd]<;>omega
def pl:Nat→List Int→Bool
 | w,[]=>decide (0<w)
 | w,c::r=>if c=46 then (if w=0 then false else pl 0 r) else if WQ c=true then pl (w+1) r else false
def lX:Nat→List Int→Lx Int Bool
 | w,[]=>.out w
 | w,c::r=>if c=46 then (if w=0 then .ret false else lX 0 r) else if WQ c=true then lX (w+1) r else .ret false
theorem iL (n:Nat) (s:BA) (hs:s.size<4611686018427387904):∀ (r:List Int) (k w m:Nat),(bs s).drop k=r→k≤s.size→w≤k→r.length<m→Jb n m s w s.size k=some (lX w r)
 | [],k,w,m,h,hk,hw,hm=>by
  obtain ⟨m,rfl⟩:∃ q,m=q+1:=⟨m - 1,by omega⟩
  have:=Hw h
  simp [Jb,Gf,this,lX]
 | c::r,k,w,m,h,hk,hw,hm=>by
  obtain ⟨m,rfl⟩:∃ q,m=q+1:=⟨m - 1,by omega⟩
  obtain ⟨h1,h2,h3,h4,h5⟩:=ol h
  have ih:=fun w hw=>iL n s hs r (k+1) w m h3 (by omega) hw (by simpa using hm)
  have hk0:(0:Int)≤(k:Int):=by omega
  have e1:=BX (k:=k) (by omega)
  have e2:=BX (k:=w) (by omega)
  simp only [Jb,Gf,h1,h2,hk0,DR n h4 h5,e1,e2,lX]
  by_cases hc:c=46
  · subst hc
    by_cases hw0:w=0
    · subst hw0;simp
    · have:((w:Int)==0)=false:=by simpa using hw0
      have:=ih 0 (by omega)
      simp_all
  · have hc':(c==46)=false:=by simpa using hc
    cases ha:WQ c with
    | true=>simp [hc,hc',ha];exact ih (w+1) (by omega)
    | false=>simp [hc,hc',ha]
theorem GO:∀ (r:List Int) (w:Nat),dX (lX w r) (fun a=>decide (a>(0:Int))) (fun b=>b) (fun _=>false)=pl w r
 | [],w=>by simp [lX,pl,dX]
 | c::r,w=>by
  simp only [lX,pl]
  split
  · split
    · rfl
    · exact GO r 0
  · split
    · exact GO r (w+1)
    · rfl
theorem lA:∀ (r:List Int) (w:Nat) (p:Int),lX w r≠.pan p
 | [],w,p=>by simp [lX]
 | c::r,w,p=>by
  simp only [lX]
  split
  · split
    · simp
    · exact lA r 0 p
  · split
    · exact lA r (w+1) p
    · simp
theorem jL (n:Nat) (s:BA) (hs:s.size<4611686018427387904) (hn:s.size<n):Ei n s=some (pl 0 (bs s)):=by
 unfold Ei Eo
 have:=iL n s hs (bs s) 0 0 n (by simp) (by omega) (by omega) (by rw [Ca];exact hn)
 rw [show ((0:Nat):Int)=0 from rfl] at this
 rw [this,Option.bind_some,←GO]
 cases h:lX 0 (bs s) with
 | out a=>rfl
 | ret b=>rfl
 | pan p=>exact absurd h (lA _ _ _)
open Go
def rX {α β:Type} (f:α→β) (q:Sq α):List β:=(List.range q.n).map fun i=>f (q.at' i)
theorem Ge {α β:Type} (f:α→β) (q:Sq α):(rX f q).length=q.n:=by simp [rX]
theorem JA {α β:Type} {f:α→β} {q:Sq α} {i:Nat} (h:i<q.n):(rX f q)[i]?=some (f (q.at' i)):=by simp [rX,h]
theorem vL {α β:Type} (f:α→β) (q:Sq α) (y z:α):rX f (⟨q.n+1,fun i=>if i<q.n then q.at' i else (fun i=>List.getD [y] i z) (i - q.n)⟩:Sq α)=rX f q++[f y]:=by
 unfold rX
 simp only [List.range_succ,List.map_append,List.map_cons,List.map_nil]
 congr 1
 · apply List.map_congr_left
   intro i hi
   simp only [List.mem_range] at hi
   simp [hi]
 · simp
theorem iu {α β:Type} {f:α→β} {q:Sq α} {k:Nat} {x:β} {r:List β} (h:(rX f q).drop k=x::r):k<q.n∧f (q.at' k)=x∧(rX f q).drop (k+1)=r:=by
 have h1:(rX f q)[k]?=some x:=by
  have:=congrArg (fun l=>l[0]?) h
  simpa using this
 have hl:k<q.n:=by have:=(List.getElem?_eq_some_iff.1 h1).1;rwa [Ge] at this
 refine ⟨hl,?_,?_⟩
 · rw [JA hl] at h1;exact Option.some.inj h1
 · rw [←List.drop_drop,h];rfl
theorem KA {α β:Type} {f:α→β} {q:Sq α} {k:Nat} (h:(rX f q).drop k=[]):q.n≤k:=by
 have:=List.drop_eq_nil_iff.1 h
 rwa [Ge] at this
theorem HU {n:Nat} (h:n≤4000000):Ya (n+1) 16=true:=by
 unfold Ya
 simp only [Bool.and_eq_true,Nat.ble_eq]
 omega
theorem IU {n:Nat} (h:n≤4000000):Ya (n+1) 1=true:=by
 unfold Ya
 simp only [Bool.and_eq_true,Nat.ble_eq]
 omega
def Db (d:Int):List Int→List Int→List (List Int)
 | cur,[]=>[cur]
 | cur,c::r=>if c=d then cur::Db d [] r else Db d (cur++[c]) r
theorem Zv (d:Int):∀ (r cur:List Int),(Db d cur r).length≤r.length+1∧∀ w∈Db d cur r,w.length≤cur.length+r.length
 | [],cur=>by simp [Db]
 | c::r,cur=>by
  simp only [Db]
  split
  · have:=Zv d r []
    refine ⟨by simp;omega,fun w hw=>?_⟩
    rcases List.mem_cons.1 hw with rfl | hw
    · omega
    · have:=this.2 w hw;simp at this ⊢;omega
  · have:=Zv d r (cur++[c])
    refine ⟨by simp;omega,fun w hw=>?_⟩
    have:=this.2 w hw;simp at this ⊢;omega
theorem SJ {q:Sq BA} {s:BA} {d:Int} (h:rX bs q=Db d [] (bs s)):q.n≤s.size+1∧∀ i,i<q.n→(q.at' i).size≤s.size:=by
 have h0:=Zv d (bs s) []
 rw [Ca,←h,Ge] at h0
 refine ⟨h0.1,fun i hi=>?_⟩
 have:=h0.2 (bs (q.at' i)) (List.mem_of_getElem? (JA hi))
 rw [Ca] at this
 simpa using this
open Go
def uW (c:Int):Bool:=decide (48≤c)&&decide (c≤57)
def uR:Int→List Int→Int
 | n,[]=>n
 | n,c::r=>uR (10*n+(c - 48)) r
def bX (w:List Int):Bool:=!w.isEmpty&&decide (w.length≤16)&&!(decide (1<w.length)&&decide (w.head?=some 48))&&w.all uW&&decide (uR 0 w≤255)
def tW (u:Nat):List UInt8:=if u<10 then [UInt8.ofNat (48+u)] else if u<100 then [UInt8.ofNat (48+u / 10),UInt8.ofNat (48+u%10)] else [UInt8.ofNat (48+u / 100),UInt8.ofNat (48+u / 10%10),UInt8.ofNat (48+u%10)]
theorem ZQ {u:Nat} (h:u<1000):Lib.decDigits u=tW u:=by
 unfold tW
 split
 · rename_i h1;rw [Lib.decDigits_one h1]
 · rename_i h1
   split
   · rename_i h2;rw [Lib.decDigits_two h1 h2]
   · rename_i h2
     rw [Lib.decDigits,dif_neg h1,Lib.decDigits_two (by omega) (by omega)]
     simp only [List.cons_append,List.nil_append]
     congr 3
     omega
def eH (l:List UInt8):List Int:=l.map fun c=>(c.toNat:Int)
theorem qT:∀ v:Fin 256,bX (eH (tW v.val))=true:=by decide+kernel
theorem WW:∀ a:Fin 10,bX [48+(a.val:Int)]=true→Lib.atoiAll [UInt8.ofNat (48+a.val)]=.ok (a.val:Int)∧tW a.val=[UInt8.ofNat (48+a.val)]:=by decide+kernel
theorem XW:∀ a b:Fin 10,bX [48+(a.val:Int),48+(b.val:Int)]=true→Lib.atoiAll [UInt8.ofNat (48+a.val),UInt8.ofNat (48+b.val)]=.ok ((10*a.val+b.val:Nat):Int)∧tW (10*a.val+b.val)=[UInt8.ofNat (48+a.val),UInt8.ofNat (48+b.val)]:=by decide+kernel
theorem YW:∀ a b c:Fin 10,bX [48+(a.val:Int),48+(b.val:Int),48+(c.val:Int)]=true→
  100*a.val+10*b.val+c.val<256∧Lib.atoiAll [UInt8.ofNat (48+a.val),UInt8.ofNat (48+b.val),UInt8.ofNat (48+c.val)]=.ok ((100*a.val+10*b.val+c.val:Nat):Int)∧tW (100*a.val+10*b.val+c.val)=[UInt8.ofNat (48+a.val),UInt8.ofNat (48+b.val),UInt8.ofNat (48+c.val)]:=by decide+kernel
theorem oP:∀ (r:List Int) (n:Int),0≤n→r.all uW=true→n≤uR n r∧(∀ m:Int,m≤n→0≤m→∀ k,k≤r.length→m*10^k≤uR n r)
 | [],n,h,_=>⟨by simp [uR],fun m hm h0 k hk=>by
  have:k=0:=by simpa using hk
  subst this;simpa [uR] using hm⟩
 | c::r,n,h,hd=>by
  simp only [List.all_cons,Bool.and_eq_true] at hd
  have hc:48≤c∧c≤57:=by simpa [uW] using hd.1
  have ih:=oP r (10*n+(c - 48)) (by omega) hd.2
  simp only [uR]
  refine ⟨by have:=ih.1;omega,fun m hm h0 k hk=>?_⟩
  cases k with
  | zero=>have:=ih.1;simp;omega
  | succ k=>
   have:=ih.2 (10*m) (by omega) (by omega) k (by simpa using hk)
   rw [Int.pow_succ]
   have e:m*(10^k*10)=10*m*10^k:=by
    rw [Int.mul_comm (10^k) 10,←Int.mul_assoc,Int.mul_comm m 10]
   rw [e];exact this
def aX (l:List UInt8):Bool:=match Lib.atoiAll l with
 | .ok v=>decide (0≤v)&&decide (v≤255)&&decide (Lib.itoa v=l)
 | _=>false
theorem wv {c:Int} (h:uW c=true):∃ a:Fin 10,c=48+(a.val:Int):=by
 have hc:48≤c∧c≤57:=by simpa [uW] using h
 exact ⟨⟨(c - 48).toNat,by omega⟩,by simp;omega⟩
theorem tJ:∀ {l:List UInt8} {l':List UInt8},eH l=eH l'→l=l':=fun h=>Ly h
theorem zE (a:Fin 10):((UInt8.ofNat (48+a.val)).toNat:Int)=48+(a.val:Int):=by
 have:=a.isLt
 simp [UInt8.toNat_ofNat']
 omega
theorem CO {l:List UInt8} {v:Nat} (hv:v<256) (h1:Lib.atoiAll l=.ok (v:Int)) (h2:tW v=l):aX l=true:=by
 unfold aX
 rw [h1]
 have:Lib.itoa (v:Int)=l:=by
  unfold Lib.itoa
  rw [if_neg (by omega)]
  rw [Int.toNat_natCast,ZQ (by omega),h2]
 simp [this]
 omega
theorem JT (l:List UInt8):aX l=bX (eH l):=by
 apply Bool.eq_iff_iff.2
 constructor
 · intro h
   unfold aX at h
   split at h
   · rename_i v hv
     simp only [Bool.and_eq_true,decide_eq_true_eq] at h
     obtain ⟨⟨h0,h1⟩,h2⟩:=h
     obtain ⟨u,rfl⟩:∃ u:Nat,v=(u:Int):=⟨v.toNat,by omega⟩
     have e:l=tW u:=by
      rw [←h2,Lib.itoa,if_neg (by omega),Int.toNat_natCast,ZQ (by omega)]
     rw [e]
     exact qT ⟨u,by omega⟩
   · cases h
 · intro h
   have h':=h
   unfold bX at h'
   simp only [Bool.and_eq_true,Bool.not_eq_true',decide_eq_true_eq] at h'
   obtain ⟨⟨⟨⟨h1,h2⟩,h3⟩,h4⟩,h5⟩:=h'
   rcases hl:l with _ | ⟨a,_ | ⟨b,_ | ⟨c,_ | ⟨d,r⟩⟩⟩⟩
   · subst hl;simp [eH] at h1
   · subst hl
     simp only [eH,List.map_cons,List.map_nil,List.all_cons,List.all_nil,Bool.and_true] at h4
     obtain ⟨x,hx⟩:=wv h4
     have ea:[a]=[UInt8.ofNat (48+x.val)]:=tJ (by simp only [eH,List.map_cons,List.map_nil,zE,hx])
     have ho:bX [48+(x.val:Int)]=true:=by simpa [eH,hx] using h
     obtain ⟨p1,p2⟩:=WW x ho
     rw [ea]
     exact CO (by have:=x.isLt;omega) p1 p2
   · subst hl
     simp only [eH,List.map_cons,List.map_nil,List.all_cons,List.all_nil,Bool.and_true,Bool.and_eq_true] at h4
     obtain ⟨x,hx⟩:=wv h4.1
     obtain ⟨y,hy⟩:=wv h4.2
     have ea:[a,b]=[UInt8.ofNat (48+x.val),UInt8.ofNat (48+y.val)]:=tJ (by simp only [eH,List.map_cons,List.map_nil,zE,hx,hy])
     have ho:bX [48+(x.val:Int),48+(y.val:Int)]=true:=by simpa [eH,hx,hy] using h
     obtain ⟨p1,p2⟩:=XW x y ho
     rw [ea]
     exact CO (by have:=x.isLt;have:=y.isLt;omega) p1 p2
   · subst hl
     simp only [eH,List.map_cons,List.map_nil,List.all_cons,List.all_nil,Bool.and_true,Bool.and_eq_true] at h4
     obtain ⟨x,hx⟩:=wv h4.1
     obtain ⟨y,hy⟩:=wv h4.2.1
     obtain ⟨z,hz⟩:=wv h4.2.2
     have ea:[a,b,c]=[UInt8.ofNat (48+x.val),UInt8.ofNat (48+y.val),UInt8.ofNat (48+z.val)]:=tJ (by simp only [eH,List.map_cons,List.map_nil,zE,hx,hy,hz])
     have ho:bX [48+(x.val:Int),48+(y.val:Int),48+(z.val:Int)]=true:=by simpa [eH,hx,hy,hz] using h
     obtain ⟨p0,p1,p2⟩:=YW x y z ho
     rw [ea]
     exact CO p0 p1 p2
   · exfalso
     subst hl
     simp only [eH,List.map_cons,List.length_cons,List.head?_cons,List.all_cons,Bool.and_eq_true] at h3 h4 h5
     have hne:(a.toNat:Int)≠48:=fun e=>by simp [e] at h3
     have ha:48≤(a.toNat:Int)∧(a.toNat:Int)≤57:=by simpa [uW] using h4.1
     simp only [uR] at h5
     have hd:=h4.2
     have hb:48≤(b.toNat:Int)∧(b.toNat:Int)≤57:=by simpa [uW] using hd.1
     have hc:48≤(c.toNat:Int)∧(c.toNat:Int)≤57:=by simpa [uW] using hd.2.1
     have hdd:48≤(d.toNat:Int)∧(d.toNat:Int)≤57:=by simpa [uW] using hd.2.2.1
     have:=(oP (List.map (fun c:UInt8=>(c.toNat:Int)) r) (10*(10*(10*(10*0+((a.toNat:Int) - 48))+((b.toNat:Int) - 48))+((c.toNat:Int) - 48))+((d.toNat:Int) - 48)) (by omega) hd.2.2.2).1
     omega
theorem CX {x:Int} (h1:0≤x) (h2:x<256):IntKind.wrap .u8 x=x:=by
 unfold IntKind.wrap
 simp only [IntKind.bits,IntKind.signed]
 simp
 omega
open Go
theorem sT:bs Dom.dot=[46]:=rfl
theorem yK (n:Nat) (s:BA) (hs:s.size≤1000000):ig n s Dom.dot=some (LW 46 (bs s)):=by
 unfold ig gp wt Uo Dd me
 rw [Qg,sT]
 have e1:(Dom.dot.size:Int)=1:=rfl
 have e2:bt Dom.dot 0=46:=rfl
 rw [e1,e2]
 by_cases h:[46]=bs s
 · rw [←h];simp [LW]
 · have:=pO (c:=46) (by decide) (by decide) s.data.toList
   have h':decide ([46]=bs s)=false:=decide_eq_false h
   rw [h']
   simp
   exact this
theorem dp (d:Int):∀ (l cur:List Int),Db d cur l=if LW d l= -1 then [cur++l] else (cur++l.take (LW d l).toNat)::Db d [] (l.drop ((LW d l).toNat+1))
 | [],cur=>by simp [Db,LW]
 | c::l,cur=>by
  have ih:=dp d l (cur++[c])
  have hge:=(Jj (c:=d) l).2
  by_cases h:c=d
  · have e:LW d (c::l)=0:=by simp [LW,h]
    simp [Db,h,e]
    simp [LW]
  · by_cases h2:LW d l= -1
    · have e:LW d (c::l)= -1:=by simp [LW,h,h2]
      simp [Db,h,e,ih,h2]
    · have e:LW d (c::l)=LW d l+1:=by simp [LW,h,h2]
      have e2:(LW d l+1).toNat=(LW d l).toNat+1:=by omega
      have e3:¬(LW d l+1= -1):=by omega
      simp only [Db,h,e,ih,h2,e2,e3,if_false]
      simp
theorem cH (d:Int):∀ (l:List Int),LW d l<l.length∧(LW d l= -1→l.count d=0)∧(LW d l≠ -1→l.count d=(l.drop ((LW d l).toNat+1)).count d+1)
 | []=>by simp [LW]
 | c::l=>by
  have ih:=cH d l
  have hge:=(Jj (c:=d) l).2
  simp only [LW]
  by_cases h:c=d
  · first | (simp [h];done) | (simp [h];omega)
  · rw [if_neg h]
    have hc:(c==d)=false:=by simpa using h
    by_cases h2:LW d l= -1
    · have:=ih.2.1 h2
      simp [h2,List.count_cons,this,hc]
      omega
    · rw [if_neg h2]
      have e:(LW d l+1).toNat=(LW d l).toNat+1:=by omega
      have:=ih.2.2 h2
      refine ⟨by simp;omega,fun h=>by omega,fun _=>?_⟩
      rw [e,List.count_cons,this]
      simp [hc]
theorem Wz (n:Nat) (N:Nat) (hN:N≤1000000):∀ (c i m:Nat) (s:BA) (a:Sq BA),s.size≤1000000→(bs s).count 46=c→i+c=N→a.n=N+1→c<m→
  ∃ s' a',Oa n m s Dom.dot 0 N i a=some (.out (s',(N:Int),a'))∧a'.n=N+1∧(∀ j,j<i→a'.at' j=a.at' j)∧
   ∃ P:List (List Int),Db 46 [] (bs s)=P++[bs s']∧P.length=c∧∀ j w,P[j]?=some w→bs (a'.at' (i+j))=w
 | 0,i,m,s,a,hs,hc,hi,ha,hm=>by
  obtain ⟨m,rfl⟩:∃ q,m=q+1:=⟨m - 1,by omega⟩
  have hiN:i=N:=by omega
  subst hiN
  refine ⟨s,a,?_,ha,fun _ _=>rfl,[],?_,rfl,fun j w h=>by simp at h⟩
  · simp [Oa,ld]
  · have hx:LW 46 (bs s)= -1:=by
     have:=cH 46 (bs s)
     have hge:=(Jj (c:=46) (bs s)).2
     refine Classical.byContradiction fun h=>?_
     have:=this.2.2 h
     omega
    rw [dp,if_pos hx];rfl
 | c+1,i,m,s,a,hs,hc,hi,ha,hm=>by
  obtain ⟨m,rfl⟩:∃ q,m=q+1:=⟨m - 1,by omega⟩
  have hlt:=cH 46 (bs s)
  have hge:=(Jj (c:=46) (bs s)).2
  have hx:LW 46 (bs s)≠ -1:=fun h=>by have:=hlt.2.1 h;omega
  obtain ⟨k,hk⟩:∃ k:Nat,LW 46 (bs s)=(k:Int):=⟨(LW 46 (bs s)).toNat,by omega⟩
  have hks:k<s.size:=by have:=hlt.1;rw [Ca] at this;omega
  have hcount:=hlt.2.2 hx
  rw [hk,Int.toNat_natCast,hc] at hcount
  have hbe:bs (s.extract (k+1) s.size)=(bs s).drop (k+1):=by
   rw [Fi,←Ca,List.take_length]
  have hsz:(s.extract (k+1) s.size).size≤1000000:=by
   rw [←Ca,hbe,List.length_drop,Ca];omega
  obtain ⟨s',a',h1,h2,h3,P,h4,h5,h6⟩:=Wz n N hN c (i+1) m (s.extract (k+1) s.size)
   (⟨a.n,fun q=>if q=i∧q<a.n then s.extract 0 k else a.at' q⟩:Sq BA) hsz (by rw [hbe];omega) (by omega) ha (by omega)
  refine ⟨s',a',?_,h2,fun j hj=>?_,(bs s).take k::P,?_,by simp [h5],fun j w hw=>?_⟩
  · have a1:(i:Int)<(N:Int):=by omega
    have a2:¬((k:Int)<0):=by omega
    have a3:(0:Int)≤(i:Int):=by omega
    have a4:(i:Int)<(a.n:Int):=by omega
    have a5:(0:Int)≤(k:Int):=by omega
    have a6:(k:Int)≤(s.size:Int):=by omega
    have e0:IntKind.wrap .i64 ((k:Int)+0)=(k:Int):=by rw [Int.add_zero];exact wr (by omega) (by omega)
    have e1:(Dom.dot.size:Int)=1:=rfl
    have e2:=BX (k:=k) (by omega)
    have e3:=BX (k:=i) (by omega)
    have a7:(0:Int)≤((k+1:Nat):Int):=by omega
    have a8:((k+1:Nat):Int)≤(s.size:Int):=by omega
    simp only [Oa,ld,yK n s hs,hk,a1,a2,a3,a4,a5,a6,e0,e1,e2,e3,a7,a8,Int.toNat_natCast]
    have e0':IntKind.wrap .i64 (k:Int)=(k:Int):=wr (by omega) (by omega)
    have e2':IntKind.wrap .i64 ((k:Int)+1)=(k:Int)+1:=e2
    have a7':(0:Int)≤(k:Int)+1:=by omega
    have a8':(k:Int)+1≤(s.size:Int):=by omega
    have e9:((k:Int)+1).toNat=k+1:=by omega
    simpa [a2,a3,a4,a5,a6,e0',e2',a7',a8',e9] using h1
  · rw [h3 j (by omega)]
    simp [show ¬j=i by omega]
  · rw [dp,if_neg hx,hk,Int.toNat_natCast,←hbe,h4];simp
  · cases j with
    | zero=>
     simp at hw
     rw [Nat.add_zero,h3 i (by omega),←hw]
     simp only [show i<a.n by omega,and_self,if_true]
     rw [Fi];simp
    | succ j=>
     have:=h6 j w (by simpa using hw)
     rwa [show i+(j+1)=i+1+j by omega]
theorem BQ (n:Nat) (s:BA) (hs:s.size≤1000000) (hn:10000000≤n):∃ q,jp n s (⟨#[46]⟩:BA)=some q∧rX bs q=Db 46 [] (bs s):=by
 have hcl:(bs s).count 46≤s.size:=by rw [←Ca];exact List.count_le_length
 obtain ⟨c,hc⟩:∃ c,(bs s).count 46=c:=⟨_,rfl⟩
 rw [hc] at hcl
 have hcount:ep n s Dom.dot=some (c:Int):=by
  unfold ep fp
  have e2:bt Dom.dot 0=46:=rfl
  have:=VP (c:=46) (by decide) (by decide) s.data.toList
  rw [e2,this,show (Dom.dot.size:Int)=1 from rfl,←hc]
  rfl
 obtain ⟨s',a',h1,h2,h3,P,h4,h5,h6⟩:=Wz n c (by omega) c 0 n s (⟨c+1,fun _=>(⟨#[]⟩:BA)⟩:Sq BA) hs hc (by omega) rfl (by omega)
 refine ⟨(⟨c+1,fun i=>(fun q=>if q=c∧q<a'.n then s' else a'.at' q) (0+i)⟩:Sq BA),?_,?_⟩
 · have e1:=BX (k:=s.size) (by omega)
   have e2:=BX (k:=c) (by omega)
   have hif:(if ((s.size+1:Nat):Int)<((c+1:Nat):Int) then ((s.size+1:Nat):Int) else ((c+1:Nat):Int))=((c+1:Nat):Int):=if_neg (by omega)
   have e3:IntKind.wrap .i64 (((c+1:Nat):Int) - 1)=(c:Int):=by rw [wr (by omega) (by omega)];omega
   have f1:=HU (n:=c) (by omega)
   have f0:(0:Int)≤((c+1:Nat):Int):=by omega
   have f2:(c:Int)<(a'.n:Int):=by omega
   have f3:((c+1:Nat):Int)≤(a'.n:Int):=by omega
   have f4:(0:Int)≤(c:Int):=by omega
   have hne:(decide (bs Dom.dot=bs (⟨#[]⟩:BA)))=false:=by decide
   unfold jp lp ti sh
   rw [show (⟨#[46]⟩:BA)=Dom.dot from rfl,Qg,hne,hcount]
   rw [show ((0:Nat):Int)=0 from rfl] at h1
   simp only [Option.bind_some,e1,e2,hif,e3,f1,f0,Int.toNat_natCast,h1,dX,f2,f3,f4]
   simp
 · unfold rX
   rw [List.range_succ,List.map_append,h4]
   congr 1
   · apply List.ext_getElem?
     intro j
     rw [List.getElem?_map]
     by_cases hj:j<c
     · rw [List.getElem?_range hj,List.getElem?_eq_getElem (by omega)]
       have:=h6 j _ (List.getElem?_eq_getElem (by omega))
       rw [Nat.zero_add] at this
       simp [show ¬j=c by omega,this]
     · rw [List.getElem?_eq_none (by simp;omega),List.getElem?_eq_none (by omega)];rfl
   · simp [show c<a'.n by omega]
theorem iR (n:Nat) (l:Sq BA) (hl:l.n≤2000000) (hs:∀ i,i<l.n→(l.at' i).size≤1000000):∀ (W:List (List Int)) (i m:Nat),(rX bs l).drop i=W→W.length<m→i≤l.n→
  ab n m l l l.n i=some (if W.all bX=true then .out l else .ret false)
 | [],i,m,h,hm,hi=>by
  obtain ⟨m,rfl⟩:∃ q,m=q+1:=⟨m - 1,by omega⟩
  have:=KA h
  have a4:¬((i:Int)<(l.n:Int)):=by omega
  simp [ab,Rd,a4]
 | w::W,i,m,h,hm,hi=>by
  obtain ⟨m,rfl⟩:∃ q,m=q+1:=⟨m - 1,by omega⟩
  obtain ⟨h1,h2,h3⟩:=iu h
  have e1:=BX (k:=i) (by omega)
  have a1:(0:Int)≤(i:Int):=by omega
  have a2:(i:Int)<(l.n:Int):=by omega
  have ih:=iR n l hl hs W (i+1) m h3 (by simpa using hm) (by omega)
  have hw:=JT (l.at' i).data.toList
  rw [show eH (l.at' i).data.toList=w from h2] at hw
  have hsz:(l.at' i).size≤281474976710656:=by have:=hs i h1;omega
  simp only [ab,Rd,a1,a2,Int.toNat_natCast,e1,List.all_cons,←hw,FP,hsz]
  unfold aX
  rcases hv:Lib.atoiAll (l.at' i).data.toList with v | _ | _
  · have hb:=Lib.atoiAll_bounds hv
    by_cases g0:v<0
    · have:¬(0≤v):=by omega
      simp [g0,this]
    · by_cases g1:v>255
      · have:¬(v≤255):=by omega
        simp [g0,g1,this]
      · have q0:0≤v:=by omega
        have q1:v≤255:=by omega
        have q2: -9223372036854775808≤v∧v≤9223372036854775807:=⟨by omega,by omega⟩
        have hb:bs (⟨(Lib.itoa v).toArray⟩:BA)=eH (Lib.itoa v):=rfl
        have hdp:bs (⟨(Lib.itoa v).toArray⟩:BA)=bs (l.at' i)↔Lib.itoa v=(l.at' i).data.toList:=⟨fun h=>Ly h,fun h=>by rw [hb,h];rfl⟩
        have hd:decide (bs (⟨(Lib.itoa v).toArray⟩:BA)=bs (l.at' i))=decide (Lib.itoa v=(l.at' i).data.toList):=decide_eq_decide.2 hdp
        simp only [g0,g1,q0,q1,rO,q2,Qg,hd]
        by_cases hi:Lib.itoa v=(l.at' i).data.toList
        · simpa [hi,q0,q1,q2.1,q2.2] using ih
        · have:¬bs (⟨(Lib.itoa v).toArray⟩:BA)=bs (l.at' i):=fun h=>hi (hdp.1 h)
          simp [hi,q0,q1,q2.1,q2.2,this]
  · simp
  · simp
def gR (l:List Int):Bool:=(Db 46 [] l).all bX&&decide ((Db 46 [] l).length=4)
theorem xM (n:Nat) (s:BA) (hs:s.size≤1000000) (hn:10000000≤n):Ff n s=some (gR (bs s)):=by
 obtain ⟨q,h1,h2⟩:=BQ n s hs hn
 obtain ⟨h3,h4⟩:=SJ h2
 have h:=iR n q (by omega) (fun i hi=>Nat.le_trans (h4 i hi) hs) _ 0 n rfl (by rw [List.drop_zero,Ge];omega) (by omega)
 rw [show ((0:Nat):Int)=0 from rfl,List.drop_zero,h2] at h
 unfold Ff Di gR
 rw [h1,Option.bind_some,h,Option.bind_some,←h2,Ge]
 cases (rX bs q).all bX
 · rfl
 · by_cases h4:q.n=4
   · simp [dX,h4]
   · have:¬((q.n:Int)=4):=by omega
     simp [dX,h4,this]
open Go
def wC (l:List Int):List Int:=(l.take (l.length - 1)).drop 1
def RU (l:List Int):Bool:=decide (2≤l.length)&&decide (l.head?=some 91)&&decide (l.getLast?=some 93)&&gR (wC l)
theorem KP (s:BA):bs (s.extract 1 (s.size - 1))=wC (bs s):=by rw [Fi,wC,Ca]
theorem Bl (s:BA) (i j:Nat):(s.extract i j).size≤s.size:=by
 rw [←Ca,←Ca,Fi,List.length_drop,List.length_take];omega
theorem HR {s:BA} (h:0<s.size):∃ c,(bs s).getLast?=some c∧bt s ((s.size - 1:Nat):Int)=c:=by
 obtain ⟨c,hc⟩:∃ c,(bs s)[s.size - 1]?=some c:=⟨_,List.getElem?_eq_getElem (by rw [Ca];omega)⟩
 exact ⟨c,by rw [List.getLast?_eq_getElem?,Ca];exact hc,IR hc⟩
theorem DX {k:Nat} (h0:0<k) (h:k<4611686018427387904):IntKind.wrap .i64 ((k:Int) - 1)=((k - 1:Nat):Int):=by
 rw [wr (by omega) (by omega)];omega
def QW (c:Int):Bool:=qX c || decide (c=45)
def rN (w:List Int):Bool:=decide (1≤w.length)&&decide (w.length≤63)&&decide (w.head?≠some 45)&&decide (w.getLast?≠some 45)&&w.all QW
def uE (l:List Int):Bool:=decide (l.length≤255)&&(RU l || (Db 46 [] l).all rN)
def PW (L:Nat):Nat→List Int→Bool
 | _,[]=>true
 | i,c::r=>if qX c=true then PW L (i+1) r else if c≠45 then false else if i=0 then false else if i=L - 1 then false else PW L (i+1) r
theorem ZK (n:Nat) (s:BA) (hs:s.size≤1000000):∀ (r:List Int) (k m:Nat),(bs s).drop k=r→k≤s.size→r.length<m→Hb n m s s.size k=some (if PW s.size k r=true then .out s else .ret false)
 | [],k,m,h,hk,hm=>by
  obtain ⟨m,rfl⟩:∃ q,m=q+1:=⟨m - 1,by omega⟩
  have:=Hw h
  simp [Hb,Ef,this,PW]
 | c::r,k,m,h,hk,hm=>by
  obtain ⟨m,rfl⟩:∃ q,m=q+1:=⟨m - 1,by omega⟩
  obtain ⟨h1,h2,h3,h4,h5⟩:=ol h
  have e1:=BX (k:=k) (by omega)
  have e2:=DX (k:=s.size) (by omega) (by omega)
  have a3:(0:Int)≤(k:Int):=by omega
  have ih:=ZK n s hs r (k+1) m h3 (by omega) (by simpa using hm)
  simp only [Hb,Ef,h1,h2,a3,e1,e2,SO,Option.bind_some,PW]
  by_cases g1:qX c=true
  · simpa [g1] using ih
  · by_cases g2:c=45
    · have h45:qX 45=false:=by decide
      by_cases g3:k=0
      · subst g3;simp [g1,g2,h45]
      · have x3:((k:Int)==0)=false:=by simpa using g3
        by_cases g4:k=s.size - 1
        · have:((k:Int)==((s.size - 1:Nat):Int))=true:=by rw [g4];simp
          simp [g1,g2,g3,x3,this,←g4,h45]
        · have:((k:Int)==((s.size - 1:Nat):Int))=false:=by simp only [beq_eq_false_iff_ne];omega
          simpa [g1,g2,g3,g4,x3,this,h45] using ih
    · have:(c !=45)=true:=by simpa using g2
      simp [g1,g2,this]
theorem eR:∀ (r:List Int) (i L:Nat),i+r.length=L→PW L i r=(r.all QW&&decide (i=0→r.head?≠some 45)&&decide (r.getLast?≠some 45))
 | [],i,L,h=>by simp [PW]
 | c::r,i,L,h=>by
  simp only [List.length_cons] at h
  have ih:=eR r (i+1) L (by omega)
  have hlast:(c::r).getLast?=if r=[] then some c else r.getLast?:=by
   cases r with
   | nil=>rfl
   | cons d r=>simp [List.getLast?_cons_cons]
  simp only [PW,List.all_cons,List.head?_cons,hlast]
  have h45:qX 45=false:=by decide
  by_cases g2:c=45
  · subst g2
    simp only [h45,QW]
    by_cases g3:i=0
    · subst g3;simp
    · by_cases g4:r=[]
      · subst g4
        have:i=L - 1:=by simp at h;omega
        simp [g3,←this]
      · have:¬i=L - 1:=by
         have:0<r.length:=List.length_pos_iff.2 g4
         omega
        simp [g3,g4,this,ih]
  · by_cases g1:qX c=true
    · by_cases g4:r=[]
      · subst g4;simp [g1,g2,QW,PW]
      · simp [g1,g2,g4,QW,ih]
    · simp [g1,g2,QW]
theorem aL (n:Nat) (s:BA) (hs:s.size≤1000000) (hn:10000000≤n):Ci n s=some (rN (bs s)):=by
 have hL:=ZK n s hs (bs s) 0 n (by simp) (by omega) (by rw [Ca];omega)
 rw [show ((0:Nat):Int)=0 from rfl] at hL
 have hx:rN (bs s)=(decide (1≤s.size)&&decide (s.size≤63)&&PW s.size 0 (bs s)):=by
  rw [eR (bs s) 0 s.size (by rw [Ca];omega)]
  unfold rN
  rw [Ca]
  by_cases g4:(bs s).head?=some 45<;>by_cases g5:(bs s).getLast?=some 45<;>cases decide (1≤s.size)<;>cases decide (s.size≤63)<;>cases (bs s).all QW<;>simp [g4,g5]
 unfold Ci Co
 rw [hL,hx]
 have e1:(decide ((s.size:Int)≥1))=decide (1≤s.size):=by rw [decide_eq_decide];omega
 have e2:(decide ((s.size:Int)≤63))=decide (s.size≤63):=by rw [decide_eq_decide];omega
 cases hb:PW s.size 0 (bs s)
 · simp [dX]
 · simp only [if_true,Option.bind_some,dX,e1,e2]
   cases decide (1≤s.size)<;>simp
open Go
theorem IF (n:Nat) (s p:BA):mb n s p=some (decide ((bs s).take p.size=bs p)):=by
 unfold mb ne yc Xf
 by_cases h:p.size≤s.size
 · have a1:(s.size:Int)≥(p.size:Int):=by omega
   have a2:(0:Int)≤(p.size:Int):=by omega
   have a3:(p.size:Int)≤(s.size:Int):=by omega
   simp only [a1,a2,a3,Qg,Int.toNat_natCast,Fi]
   simp
 · have a1:¬((s.size:Int)≥(p.size:Int)):=by omega
   have:¬(bs s).take p.size=bs p:=fun e=>by
    have:=congrArg List.length e
    rw [List.length_take,Ca,Ca] at this
    omega
   simp [a1,this]
theorem DQ {l:List Int} {c:Int}:l.take 1=[c]↔l.head?=some c:=by cases l<;>simp
theorem Ve (n:Nat) (s p:BA) {c:Int} (hp:bs p=[c]):mb n s p=some (decide ((bs s).head?=some c)):=by
 have h1:p.size=1:=by rw [←Ca,hp];rfl
 rw [IF,h1,hp]
 congr 1
 rw [decide_eq_decide]
 exact DQ
theorem LD (n:Nat) (s p:BA) (hs:s.size≤1000000) {c:Int} (hp:bs p=[c]):Cc n s p=some (decide ((bs s).getLast?=some c)):=by
 have h1:p.size=1:=by rw [←Ca,hp];rfl
 unfold Cc gg pg Yf
 by_cases h:1≤s.size
 · have e1:=DX (k:=s.size) (by omega) (by omega)
   have a1:(s.size:Int)≥((1:Nat):Int):=by omega
   have a2:(0:Int)≤((s.size - 1:Nat):Int):=by omega
   have a3:((s.size - 1:Nat):Int)≤(s.size:Int):=by omega
   obtain ⟨d,hd,_⟩:=HR (s:=s) (by omega)
   have hx:((bs s).take s.size).drop (s.size - 1)=[d]:=by
    rw [show (bs s).take s.size=bs s by rw [←Ca,List.take_length]]
    have hl:s.size - 1<(bs s).length:=by rw [Ca];omega
    rw [List.drop_eq_getElem_cons hl]
    rw [List.getLast?_eq_getElem?,Ca,List.getElem?_eq_getElem hl] at hd
    rw [Option.some.inj hd,List.drop_eq_nil_of_le (by rw [Ca];omega)]
   rw [h1] at*
   rw [show ((1:Nat):Int)=1 from rfl] at*
   simp only [a1,e1,a2,a3,Qg,Int.toNat_natCast,Fi,hx,hp,hd]
   simp
 · have a1:¬((s.size:Int)≥((1:Nat):Int)):=by omega
   have:(bs s)=[]:=by
    apply List.eq_nil_of_length_eq_zero
    rw [Ca];omega
   rw [h1]
   simp only [a1,this]
   simp
theorem bO (n:Nat) (hn:10000000≤n):∀ (m:Nat) (s:BA),s.size≤1000000→s.size<m→Dom.domL (fun x=>ig n x Dom.dot) (Ci n) m s=some ((Db 46 [] (bs s)).all rN)
 | 0,s,hs,hm=>absurd hm (Nat.not_lt_zero _)
 | m+1,s,hs,hm=>by
  have hlt:=cH 46 (bs s)
  have hge:=(Jj (c:=46) (bs s)).2
  rw [Dom.domL]
  simp only [yK n s hs,Option.bind_some]
  rw [dp]
  by_cases hx:LW 46 (bs s)= -1
  · rw [if_pos hx,hx,if_pos (by decide),aL n s hs hn]
    simp
  · obtain ⟨k,hk⟩:∃ k:Nat,LW 46 (bs s)=(k:Int):=⟨(LW 46 (bs s)).toNat,by omega⟩
    have hks:k<s.size:=by have:=hlt.1;rw [Ca] at this;omega
    have hbe:bs (s.extract (k+1) s.size)=(bs s).drop (k+1):=by rw [Fi,←Ca,List.take_length]
    have hb0:bs (s.extract 0 k)=(bs s).take k:=by rw [Fi];rfl
    have ih:=bO n hn m (s.extract (k+1) s.size) (Nat.le_trans (Bl _ _ _) hs) (by rw [←Ca,hbe,List.length_drop,Ca];omega)
    rw [if_neg hx,hk,if_neg (by omega),if_pos ⟨by omega,by omega⟩,Int.toNat_natCast,aL n _ (Nat.le_trans (Bl _ _ _) hs) hn,Option.bind_some,ih,hb0,hbe]
    simp only [List.nil_append,List.all_cons]
    cases rN ((bs s).take k)<;>simp
def SR (l:List Int):Bool:=if l.head?=some 91 then decide (l.getLast?=some 93)&&gR (wC l) else (Db 46 [] l).all rN&&decide (l.length≤255)
theorem KF (n:Nat) (s:BA):wc n s=some (decide ((bs s).head?=some 91)):=by
 unfold wc Uf
 rw [Ve n s _ (c:=91) rfl];rfl
theorem Vy (n:Nat) (s:BA) (hs:s.size≤1000000) (hn:10000000≤n):rb n s=some (SR (bs s)):=by
 unfold rb SR
 rw [KF,Option.bind_some]
 by_cases h:(bs s).head?=some 91
 · rw [if_pos (by simpa using h),if_pos h,LD n s _ hs (c:=93) rfl,Option.bind_some]
   by_cases h2:(bs s).getLast?=some 93
   · have hsz:2≤s.size:=by
      rw [←Ca]
      cases hb:bs s with
      | nil=>rw [hb] at h;cases h
      | cons c r=>cases r with
       | nil=>rw [hb] at h h2;simp at h h2;omega
       | cons d r=>simp
     rw [if_pos (by simpa using h2),if_pos ⟨by omega,by omega⟩,xM n _ (Nat.le_trans (Bl _ _ _) hs) hn,KP]
     simp [h2]
   · rw [if_neg (by simpa using h2)];simp [h2]
 · rw [if_neg (by simpa using h),if_neg h]
   unfold Dom.domT
   rw [bO n hn n s hs (by omega),Option.bind_some]
   have e:(decide ((s.size:Int)≤255))=decide ((bs s).length≤255):=by rw [Ca,decide_eq_decide];omega
   rw [e]
   cases (Db 46 [] (bs s)).all rN<;>simp
theorem qS {w:List Int} (h:bX w=true):w.length≤16:=by
 unfold bX at h
 simp only [Bool.and_eq_true,decide_eq_true_eq] at h
 exact h.1.1.1.2
theorem aw (d:Int):∀ (r cur:List Int),cur.length+r.length+1=((Db d cur r).map fun w=>w.length+1).sum
 | [],cur=>by simp [Db]
 | c::r,cur=>by
  simp only [Db]
  split
  · have:=aw d r []
    simp at this ⊢;omega
  · have:=aw d r (cur++[c])
    simp at this ⊢;omega
theorem fQ {l:List Int} (h:gR l=true):l.length≤100:=by
 unfold gR at h
 simp only [Bool.and_eq_true,decide_eq_true_eq,List.all_eq_true] at h
 have hs:=aw 46 l []
 obtain ⟨h1,h2⟩:=h
 have key:∀ W:List (List Int),(∀ w∈W,w.length≤16)→(W.map fun w=>w.length+1).sum≤17*W.length:=fun W=>by
  induction W with
  | nil=>intro _;simp
  | cons w W ih=>
   intro hw
   have a:=hw w List.mem_cons_self
   have b:=ih fun x hx=>hw x (List.mem_cons_of_mem _ hx)
   simp only [List.map_cons,List.sum_cons,List.length_cons];omega
 have:=key _ fun w hw=>qS (h1 w hw)
 simp at hs
 omega
theorem jS {w:List Int} (h:w.head?=some 91):rN w=false:=by
 cases w with
 | nil=>cases h
 | cons c r=>
  simp at h;subst h
  have:QW 91=false:=by decide
  simp [rN,this]
theorem IA (d:Int):∀ (r cur:List Int),cur≠[]→∃ w W,Db d cur r=w::W∧w.head?=cur.head?
 | [],cur,h=>⟨cur,[],rfl,rfl⟩
 | c::r,cur,h=>by
  simp only [Db]
  split
  · exact ⟨cur,_,rfl,rfl⟩
  · obtain ⟨w,W,h1,h2⟩:=IA d r (cur++[c]) (by simp)
    refine ⟨w,W,h1,h2.trans ?_⟩
    cases cur with
    | nil=>exact absurd rfl h
    | cons x xs=>rfl
theorem vE (l:List Int):SR l=uE l:=by
 unfold SR uE RU
 by_cases h:l.head?=some 91
 · rw [if_pos h]
   have hsp:(Db 46 [] l).all rN=false:=by
    cases l with
    | nil=>cases h
    | cons c r=>
     simp at h;subst h
     simp only [Db]
     rw [if_neg (by decide)]
     obtain ⟨w,W,h1,h2⟩:=IA 46 r ([]++[91]) (by simp)
     rw [h1,List.all_cons,jS (by rw [h2];rfl)];rfl
   rw [hsp]
   by_cases h2:l.getLast?=some 93
   · have hl:2≤l.length:=by
      cases l with
      | nil=>cases h
      | cons c r=>cases r with
       | nil=>simp at h h2;omega
       | cons d r=>simp
     cases hp:gR (wC l) with
     | false=>simp [h2]
     | true=>
      have:=fQ hp
      have hle:l.length≤255:=by
       unfold wC at this
       rw [List.length_drop,List.length_take] at this
       omega
      simp [h,h2,hl,hle]
   · simp [h2]
 · rw [if_neg h]
   simp [h,Bool.and_comm]
/-! Small letters. -/
def SW (c:Int):Int:=if 65≤c∧c≤90 then c+32 else c
theorem cV (s:BA):rX id (⟨s.size,fun q=>bt s q⟩:Sq Int)=bs s:=by
 apply List.ext_getElem?
 intro j
 unfold rX
 rw [List.getElem?_map]
 by_cases h:j<s.size
 · rw [List.getElem?_range h]
   obtain ⟨c,hc⟩:∃ c,(bs s)[j]?=some c:=⟨_,List.getElem?_eq_getElem (by rw [Ca];exact h)⟩
   rw [hc]
   simp [IR hc]
 · rw [List.getElem?_eq_none (by simp;omega),List.getElem?_eq_none (by rw [Ca];omega)];rfl
theorem FS {b:Sq Int} {k:Nat} {v:Int}:rX id (⟨b.n,fun q=>if q=k∧q<b.n then v else b.at' q⟩:Sq Int)=(rX id b).set k v:=by
 apply List.ext_getElem?
 intro j
 unfold rX
 rw [List.getElem?_map,List.getElem?_set]
 by_cases h:j<b.n
 · rw [List.getElem?_range h]
   by_cases hk:k=j
   · subst hk;simp [h]
   · have:¬j=k:=fun e=>hk e.symm
     simp [hk,this,h]
 · rw [List.getElem?_eq_none (by simp;omega)]
   by_cases hk:k=j
   · subst hk;simp [h]
   · simp [hk,h]
theorem fF (n:Nat) (t:Nat) (ht:t≤1000000):∀ (r P:List Int) (m:Nat) (b:Sq Int),rX id b=P++r→b.n=t→(∀ c∈P++r,0≤c∧c<256)→r.length<m→
  ∃ b',db n m t P.length b=some (.out b')∧rX id b'=P++r.map SW∧b'.n=t
 | [],P,m,b,hb,hbn,hr,hm=>by
  obtain ⟨m,rfl⟩:∃ q,m=q+1:=⟨m - 1,by omega⟩
  have hl:=Ge id b
  rw [hb,List.append_nil,hbn] at hl
  refine ⟨b,?_,by simpa using hb,hbn⟩
  have:¬((P.length:Int)<(t:Int)):=by omega
  simp [db,vd,this]
 | c::r,P,m,b,hb,hbn,hr,hm=>by
  obtain ⟨m,rfl⟩:∃ q,m=q+1:=⟨m - 1,by omega⟩
  have hl:=Ge id b
  rw [hb,hbn] at hl
  simp at hl
  have hat:b.at' P.length=c:=by
   have h1:=JA (f:=id) (q:=b) (i:=P.length) (by omega)
   rw [hb,List.getElem?_append_right (Nat.le_refl _),Nat.sub_self] at h1
   simpa using h1.symm
  have hc:=hr c (by simp)
  have e1:=BX (k:=P.length) (by omega)
  have a1:(P.length:Int)<(t:Int):=by omega
  have a2:(0:Int)≤(P.length:Int):=by omega
  have a3:(P.length:Int)<(b.n:Int):=by omega
  by_cases hlow:65≤c∧c≤90
  · have w1:=CX (x:=c+97) (by omega) (by omega)
    have w2:=CX (x:=c+97 - 65) (by omega) (by omega)
    obtain ⟨b',h1,h2,h3⟩:=fF n t ht r (P++[c+32]) m (⟨b.n,fun q=>if q=P.length∧q<b.n then c+97 - 65 else b.at' q⟩:Sq Int)
     (by rw [FS,hb,List.set_append_right _ _ (Nat.le_refl _),Nat.sub_self,show c+97 - 65=c+32 by omega];simp) hbn
     (fun x hx=>by
      simp only [List.append_assoc,List.mem_append,List.mem_cons,List.mem_nil_iff,or_false,false_or,List.cons_append,List.nil_append] at hx
      rcases hx with h | h | h
      · exact hr x (by simp [h])
      · omega
      · exact hr x (by simp [h])) (by simpa using hm)
    refine ⟨b',?_,by rw [h2];simp [SW,hlow],h3⟩
    have b1:c≥65:=hlow.1
    simp only [db,vd,a1,a2,a3,Int.toNat_natCast,hat,e1,w1,w2,b1,hlow.2]
    simpa using h1
  · obtain ⟨b',h1,h2,h3⟩:=fF n t ht r (P++[c]) m b (by rw [hb];simp) hbn (fun x hx=>hr x (by simpa using hx)) (by simpa using hm)
    refine ⟨b',?_,by rw [h2];simp [SW,hlow],h3⟩
    have h1':db n m t ((P.length+1:Nat):Int) b=some (.out b'):=by simpa using h1
    by_cases b1:c≥65
    · have b2:¬c≤90:=fun h=>hlow ⟨b1,h⟩
      simp only [db,vd,a1,a2,a3,Int.toNat_natCast,hat,e1,b1,b2]
      simpa using h1'
    · simp only [db,vd,a1,a2,a3,Int.toNat_natCast,hat,e1,b1]
      simpa using h1'
theorem mS {c:Int} (h:0≤c∧c<256):0≤SW c∧SW c<256:=by unfold SW;split<;>omega
theorem AQ (n:Nat) (s:BA) (hs:s.size≤1000000) (hn:10000000≤n):∃ t,ah n s=some t∧bs t=(bs s).map SW:=by
 obtain ⟨b',h1,h2,h3⟩:=fF n s.size hs (bs s) [] n (⟨s.size,fun q=>bt s q⟩:Sq Int) (cV s) rfl (fun c hc=>FN (by simpa using hc)) (by rw [Ca];omega)
 refine ⟨Sk b'.n b'.at',?_,?_⟩
 · unfold ah Io
   rw [show (([]:List Int).length:Int)=0 from rfl] at h1
   rw [h1];rfl
 · rw [EK fun i hi=>?_]
   · have:rX id b'=(List.range b'.n).map b'.at':=rfl
     rw [←this,h2];rfl
   · have:=JA (f:=id) (q:=b') hi
     rw [h2] at this
     have hm:=List.mem_of_getElem? this
     simp only [List.nil_append,List.mem_map] at hm
     obtain ⟨c,hc,e⟩:=hm
     have:=mS (FN hc)
     rw [e] at this
     exact this
open Go
def yW:List Int→List Int
 | []=>[]
 | c::r=>if c=34∨c=92 then 92::c::yW r else c::yW r
def cX (c:Int):Bool:=decide (32≤c)&&decide (c≤126)
def qd:List Int→Option (List Int×List Int)
 | []=>none
 | c::r=>if c=34 then some ([],r) else if c=92 then (match r with
   | []=>none
   | d::r'=>if cX d=true then (qd r').map fun x=>(d::x.1,x.2) else none)
  else if cX c=true then (qd r).map fun x=>(c::x.1,x.2) else none
theorem If (c:Int) (r:List Int):qd (c::r)=if c=34 then some ([],r) else if c=92 then (match r with
   | []=>none
   | d::r'=>if cX d=true then (qd r').map fun x=>(d::x.1,x.2) else none)
  else if cX c=true then (qd r).map fun x=>(c::x.1,x.2) else none:=by
 conv=>lhs;unfold qd
theorem fO:∀ l:List Int,(yW l).length≤2*l.length
 | []=>by simp [yW]
 | c::r=>by
  have:=fO r
  simp only [yW]
  split<;>simp<;>omega
theorem Dl (n:Nat) (b:Bool):Sa n b=some (if b=true then .ok () else .error 8):=by
 unfold Sa Zr
 cases b<;>rfl
theorem QF (n:Nat) (c:Int) (r1:Sq Int) (h:r1.n≤4000000):∃ r2,Ga n c r1=some (r2,())∧rX id r2=rX id r1++[c]∧r2.n=r1.n+1:=by
 refine ⟨_,?_,vL id r1 c (sa (.int .u8)),rfl⟩
 unfold Ga Xd tc Yd
 rw [Option.bind_some,if_pos (IU h)]
theorem wN (n:Nat) (c:Int):∃ r2,Ra n c=some (r2,())∧rX id r2=[c]∧r2.n=1:=by
 refine ⟨_,rfl,?_,rfl⟩
 show [_]=[c]
 rfl
theorem vN (n:Nat) (r1:Sq Int) (h:r1.n≤4000000) (hr:∀ c∈rX id r1,0≤c∧c<256):∃ t,Bc n r1=some (t,())∧bs t=rX id r1:=by
 refine ⟨Sk r1.n r1.at',?_,?_⟩
 · unfold Bc fg
   rw [if_pos ⟨rfl,by omega⟩]
 · exact EK (f:=r1.at') fun i hi=>hr _ (List.mem_of_getElem? (JA (f:=id) hi))
theorem map_none {α β:Type} {f:α→β} {x:Option α} (h:x.map f=none):x=none:=by cases x with
 | none=>rfl
 | some _=>cases h
theorem Ft (n:Nat) (s:BA) (hs:s.size≤1000000):∀ (N:Nat) (r:List Int) (k m:Nat) (r1:Sq Int),r.length≤N→(bs s).drop k=r→k≤s.size→r1.n≤k→(∀ c∈rX id r1,0≤c∧c<256)→r.length<m→
  match qd r with
  | none=>ya n m s k r1=some (.pan 8)
  | some (mean,rest)=>∃ t1 t2,ya n m s k r1=some (.ret (t1,t2))∧bs t1=rX id r1++mean∧bs t2=rest
 | N,[],k,m,r1,hN,h,hk,hr1,hb,hm=>by
  obtain ⟨m,rfl⟩:∃ q,m=q+1:=⟨m - 1,by omega⟩
  have:=Hw h
  simp only [qd]
  simp [ya,Va,this,Dl,eX]
 | 0,c::r,k,m,r1,hN,_,_,_,_,_=>by simp at hN
 | N+1,c::r,k,m,r1,hN,h,hk,hr1,hb,hm=>by
  obtain ⟨m,rfl⟩:∃ q,m=q+1:=⟨m - 1,by omega⟩
  obtain ⟨h1,h2,h3,h4,h5⟩:=ol h
  have e1:=BX (k:=k) (by omega)
  have a1:(0:Int)≤(k:Int):=by omega
  have a2:(0:Int)≤((k+1:Nat):Int):=by omega
  have a3:((k+1:Nat):Int)≤(s.size:Int):=by omega
  have hm':(Sa n true)=some (.ok ()):=Dl n true
  have hm2:(Sa n false)=some (.error 8):=Dl n false
  have hd1:decide ((k:Int)<(s.size:Int))=true:=decide_eq_true h1
  by_cases g1:c=34
  · subst g1
    obtain ⟨t,ht,htb⟩:=vN n r1 (by omega) hb
    have hq:qd (34::r)=some ([],r):=by rw [If];rfl
    rw [hq]
    refine ⟨t,s.extract (k+1) s.size,?_,by rw [htb,List.append_nil],by rw [Fi,show (bs s).take s.size=bs s by rw [←Ca,List.take_length]];exact h3⟩
    simp only [ya,Va,hd1,decide_true,decide_false,hm',h1,h2,a1,e1,a2,a3,ht,Option.bind_some,eX,Int.toNat_natCast]
    simp
  · have g1':(c==34)=false:=by simpa using g1
    by_cases g2:c=92
    · subst g2
      cases r with
      | nil=>
       have hq:qd [92]=none:=by rw [If];rfl
       rw [hq]
       have hn:=Hw h3
       have hd2:decide (((k+1:Nat):Int)<(s.size:Int))=false:=decide_eq_false hn
       simp only [ya,Va,hd1,decide_true,decide_false,hm',h1,h2,a1,e1,hd2,hm2,Option.bind_some,eX]
       simp
      | cons d r=>
       obtain ⟨i1,i2,i3,i4,i5⟩:=ol h3
       have e2:=BX (k:=k+1) (by omega)
       have hd2:decide (((k+1:Nat):Int)<(s.size:Int))=true:=decide_eq_true i1
       have hq:qd (92::d::r)=if cX d=true then (qd r).map fun x=>(d::x.1,x.2) else none:=by rw [If];rfl
       rw [hq]
       by_cases g3:cX d=true
       · have hdd:32≤d∧d≤126:=by simpa [cX] using g3
         obtain ⟨r2,w1,w2,w3⟩:=QF n d r1 (by omega)
         have ih:=Ft n s hs N r (k+2) m r2 (by simp at hN;omega) (by rw [←i3]) (by omega) (by omega) (fun x hx=>by
          rw [w2] at hx
          rcases List.mem_append.1 hx with hx | hx
          · exact hb x hx
          · simp at hx;subst hx;omega) (by simp at hm;omega)
         have b1:decide (d≥32)=true:=decide_eq_true hdd.1
         have b2:decide (d≤126)=true:=decide_eq_true hdd.2
         have hstep:ya n (m+1) s k r1=ya n m s ((k+1+1:Nat):Int) r2:=by
          simp only [ya,Va,hd1,decide_true,decide_false,hm',h1,h2,a1,e1,hd2,i1,i2,a2,b1,b2,w1,e2,Option.bind_some,eX]
          simp
         rw [hstep,if_pos g3]
         cases hqr:qd r with
         | none=>rw [hqr] at ih;exact ih
         | some x=>
          rw [hqr] at ih
          obtain ⟨t1,t2,j1,j2,j3⟩:=ih
          exact ⟨t1,t2,j1,by rw [j2,w2];simp,j3⟩
       · rw [if_neg g3]
         by_cases b1:d≥32
         · have b2:¬d≤126:=fun hb=>g3 (by simp [cX];omega)
           have b1':decide (d≥32)=true:=decide_eq_true b1
           have b2':decide (d≤126)=false:=decide_eq_false b2
           simp only [ya,Va,hd1,decide_true,decide_false,hm',h1,h2,a1,e1,hd2,i1,i2,a2,b1',b2',hm2,Option.bind_some,eX]
           simp
         · have b1':decide (d≥32)=false:=decide_eq_false b1
           simp only [ya,Va,hd1,decide_true,decide_false,hm',h1,h2,a1,e1,hd2,i1,i2,a2,b1',hm2,Option.bind_some,eX]
           simp
    · have g2':(c==92)=false:=by simpa using g2
      have hq:qd (c::r)=if cX c=true then (qd r).map fun x=>(c::x.1,x.2) else none:=by rw [If,if_neg g1,if_neg g2]
      rw [hq]
      by_cases g3:cX c=true
      · have hdd:32≤c∧c≤126:=by simpa [cX] using g3
        obtain ⟨r2,w1,w2,w3⟩:=QF n c r1 (by omega)
        have ih:=Ft n s hs N r (k+1) m r2 (by simp at hN;omega) h3 (by omega) (by omega) (fun x hx=>by
         rw [w2] at hx
         rcases List.mem_append.1 hx with hx | hx
         · exact hb x hx
         · simp at hx;subst hx;omega) (by simp at hm;omega)
        have b1:decide (c≥32)=true:=decide_eq_true hdd.1
        have b2:decide (c≤126)=true:=decide_eq_true hdd.2
        have hstep:ya n (m+1) s k r1=ya n m s ((k+1:Nat):Int) r2:=by
         simp only [ya,Va,hd1,decide_true,decide_false,hm',h1,h2,a1,e1,g1',g2',b1,b2,w1,Option.bind_some,eX]
         simp
        rw [hstep,if_pos g3]
        cases hqr:qd r with
        | none=>rw [hqr] at ih;exact ih
        | some x=>
         rw [hqr] at ih
         obtain ⟨t1,t2,j1,j2,j3⟩:=ih
         exact ⟨t1,t2,j1,by rw [j2,w2];simp,j3⟩
      · rw [if_neg g3]
        by_cases b1:c≥32
        · have b2:¬c≤126:=fun hb=>g3 (by simp [cX];omega)
          have b1':decide (c≥32)=true:=decide_eq_true b1
          have b2':decide (c≤126)=false:=decide_eq_false b2
          simp only [ya,Va,hd1,decide_true,decide_false,hm',h1,h2,a1,e1,g1',g2',b1',b2',hm2,Option.bind_some,eX]
          simp
        · have b1':decide (c≥32)=false:=decide_eq_false b1
          simp only [ya,Va,hd1,decide_true,decide_false,hm',h1,h2,a1,e1,g1',g2',b1',hm2,Option.bind_some,eX]
          simp
open Go
theorem LO (n:Nat) (s:BA) (hs:s.size≤1000000) (hn:10000000≤n):match qd ((bs s).drop 1) with
  | none=>Kb n s=some (.error 8)
  | some (mean,rest)=>∃ t1 t2,Kb n s=some (.ok (t1,t2,()))∧bs t1=mean∧bs t2=rest:=by
 have hm':(Sa n true)=some (.ok ()):=Dl n true
 have hm2:(Sa n false)=some (.error 8):=Dl n false
 have w2:IntKind.wrap .i64 ((1:Int)+(1:Int))=((2:Nat):Int):=BX (k:=1) (by decide)
 have w3:IntKind.wrap .i64 (((2:Nat):Int)+(1:Int))=((3:Nat):Int):=BX (k:=2) (by decide)
 have a0:(0:Int)≤1:=by decide
 have a2:(0:Int)≤((2:Nat):Int):=by decide
 cases h:(bs s).drop 1 with
 | nil=>
  have hk:¬((1:Int)<(s.size:Int)):=Hw (k:=1) h
  rw [show qd []=none from rfl]
  unfold Kb Xb
  simp only [hk,decide_false,hm2,Option.bind_some,eX]
 | cons c r=>
  obtain ⟨h1',h2',h3,h4,h5⟩:=ol h
  have h1:(1:Int)<(s.size:Int):=h1'
  have h2:bt s (1:Int)=c:=h2'
  have a3:((2:Nat):Int)≤(s.size:Int):=by omega
  by_cases g1:c=34
  · subst g1
    rw [show qd (34::r)=some ([],r) by rw [If];rfl]
    refine ⟨_,s.extract 2 s.size,?_,(rfl:bs (⟨#[]⟩:BA)=[]),by rw [Fi,show (bs s).take s.size=bs s by rw [←Ca,List.take_length]];exact h3⟩
    unfold Kb Xb Se dg
    simp only [h1,decide_true,decide_false,hm',h2,a0,w2,a2,a3,Option.bind_some,eX,Int.toNat_natCast]
    rfl
  · have g1':(c==34)=false:=by simpa using g1
    by_cases g2:c=92
    · subst g2
      cases r with
      | nil=>
       have hn':¬(((2:Nat):Int)<(s.size:Int)):=Hw (k:=2) h3
       rw [show qd [92]=none by rw [If];rfl]
       unfold Kb Xb
       simp only [h1,hn',decide_true,decide_false,hm',hm2,h2,a0,w2,Option.bind_some,eX]
       rfl
      | cons d r=>
       obtain ⟨i1',i2',i3,i4,i5⟩:=ol h3
       have i1:((2:Nat):Int)<(s.size:Int):=i1'
       have i2:bt s ((2:Nat):Int)=d:=i2'
       have hq:qd (92::d::r)=if cX d=true then (qd r).map fun x=>(d::x.1,x.2) else none:=by rw [If];rfl
       rw [hq]
       by_cases g3:cX d=true
       · have hdd:32≤d∧d≤126:=by simpa [cX] using g3
         obtain ⟨r2,x1,x2,x3⟩:=wN n d
         have ih:=Ft n s hs r.length r 3 n r2 (Nat.le_refl _) i3 (by omega) (by omega) (fun x hx=>by rw [x2] at hx;simp at hx;subst hx;omega) (by
          have:=congrArg List.length i3
          rw [List.length_drop,Ca] at this;omega)
         have b1:d≥32:=hdd.1
         have b2:d≤126:=hdd.2
         have hstep:Kb n s=(ya n n s ((3:Nat):Int) r2).bind fun x=>dX x (fun _=>none) (fun a=>some (.ok (a.1,a.2,()))) (fun p=>some (.error p)):=by
          unfold Kb Xb
          simp only [h1,i1,i2,b1,b2,decide_true,decide_false,hm',h2,a0,w2,a2,x1,w3,Option.bind_some,eX]
          rfl
         rw [hstep,if_pos g3]
         cases hqr:qd r with
         | none=>rw [hqr] at ih;rw [ih];rfl
         | some x=>
          rw [hqr] at ih
          obtain ⟨t1,t2,j1,j2,j3⟩:=ih
          exact ⟨t1,t2,by rw [j1];rfl,by rw [j2,x2];rfl,j3⟩
       · rw [if_neg g3]
         unfold Kb Xb
         by_cases b1:d≥32
         · have b2:¬d≤126:=fun hb=>g3 (by simp [cX];omega)
           simp only [h1,i1,i2,b1,b2,decide_true,decide_false,hm',hm2,h2,a0,w2,a2,Option.bind_some,eX]
           rfl
         · simp only [h1,i1,i2,b1,decide_true,decide_false,hm',hm2,h2,a0,w2,a2,Option.bind_some,eX]
           rfl
    · have g2':(c==92)=false:=by simpa using g2
      have hq:qd (c::r)=if cX c=true then (qd r).map fun x=>(c::x.1,x.2) else none:=by rw [If,if_neg g1,if_neg g2]
      rw [hq]
      by_cases g3:cX c=true
      · have hdd:32≤c∧c≤126:=by simpa [cX] using g3
        obtain ⟨r2,x1,x2,x3⟩:=wN n c
        have ih:=Ft n s hs r.length r 2 n r2 (Nat.le_refl _) h3 (by omega) (by omega) (fun x hx=>by rw [x2] at hx;simp at hx;subst hx;omega) (by
         have:=congrArg List.length h3
         rw [List.length_drop,Ca] at this;omega)
        have b1:c≥32:=hdd.1
        have b2:c≤126:=hdd.2
        have hstep:Kb n s=(ya n n s ((2:Nat):Int) r2).bind fun x=>dX x (fun _=>none) (fun a=>some (.ok (a.1,a.2,()))) (fun p=>some (.error p)):=by
         unfold Kb Xb
         simp only [h1,b1,b2,decide_true,decide_false,hm',h2,g1',g2',a0,w2,x1,Option.bind_some,eX]
         rfl
        rw [hstep,if_pos g3]
        cases hqr:qd r with
        | none=>rw [hqr] at ih;rw [ih];rfl
        | some x=>
         rw [hqr] at ih
         obtain ⟨t1,t2,j1,j2,j3⟩:=ih
         exact ⟨t1,t2,by rw [j1];rfl,by rw [j2,x2];rfl,j3⟩
      · rw [if_neg g3]
        unfold Kb Xb
        by_cases b1:c≥32
        · have b2:¬c≤126:=fun hb=>g3 (by simp [cX];omega)
          simp only [h1,b1,b2,decide_true,decide_false,hm',hm2,h2,g1',g2',a0,Option.bind_some,eX]
          rfl
        · simp only [h1,b1,decide_true,decide_false,hm',hm2,h2,g1',g2',a0,Option.bind_some,eX]
          rfl
theorem gF {b b':Sq Int} {c:Int} (h:rX id b'=rX id b++[c]) (hb:∀ c∈rX id b,0≤c∧c<256) (hc:0≤c∧c<256):∀ c∈rX id b',0≤c∧c<256:=fun x hx=>by
 rw [h] at hx
 rcases List.mem_append.1 hx with hx | hx
 · exact hb x hx
 · simp at hx;subst hx;exact hc
open Go
theorem pU {a b:BA} (h:a.size+b.size≤9000000000):qf a b=true:=by
 unfold qf
 rw [Nat.ble_eq];omega
theorem yE (c:Int) (r:List Int):yW (c::r)=(if c=34∨c=92 then [92,c] else [c])++yW r:=by
 simp only [yW];split<;>rfl
def qt (l:List Int):List Int:=34::yW l++[34]
theorem ME (n:Nat) (s:BA) (hs:s.size≤1000000):∀ (r:List Int) (k m:Nat) (q:Sq Int),(bs s).drop k=r→k≤s.size→q.n≤2*k+1→(∀ c∈rX id q,0≤c∧c<256)→r.length<m→
  ∃ q',tb n m s s.size k q=some (.out q')∧rX id q'=rX id q++yW r∧q'.n≤2*s.size+1∧(∀ c∈rX id q',0≤c∧c<256)
 | [],k,m,q,h,hk,hq,hb,hm=>by
  obtain ⟨m,rfl⟩:∃ q,m=q+1:=⟨m - 1,by omega⟩
  have:=Hw h
  exact ⟨q,by simp [tb,ud,this],by simp [yW],by omega,hb⟩
 | c::r,k,m,q,h,hk,hq,hb,hm=>by
  obtain ⟨m,rfl⟩:∃ q,m=q+1:=⟨m - 1,by omega⟩
  obtain ⟨h1,h2,h3,h4,h5⟩:=ol h
  have e1:=BX (k:=k) (by omega)
  have a1:(0:Int)≤(k:Int):=by omega
  by_cases g:c=34∨c=92
  · obtain ⟨q1,w1,w2,w3⟩:=QF n 92 q (by omega)
    obtain ⟨q2,x1,x2,x3⟩:=QF n c q1 (by omega)
    have hb1:=gF w2 hb ⟨by decide,by decide⟩
    have hb2:=gF x2 hb1 ⟨h4,h5⟩
    obtain ⟨q',j1,j2,j3,j4⟩:=ME n s hs r (k+1) m q2 h3 (by omega) (by omega) hb2 (by simp at hm;omega)
    refine ⟨q',?_,by rw [j2,x2,w2,yE,if_pos g];simp,j3,j4⟩
    rw [←j1]
    rcases g with rfl | rfl
    · simp only [tb,ud,h1,h2,a1,e1,w1,x1,decide_true,Option.bind_some]
      rfl
    · simp only [tb,ud,h1,h2,a1,e1,w1,x1,decide_true,Option.bind_some]
      rfl
  · obtain ⟨q2,x1,x2,x3⟩:=QF n c q (by omega)
    have hb2:=gF x2 hb ⟨h4,h5⟩
    obtain ⟨q',j1,j2,j3,j4⟩:=ME n s hs r (k+1) m q2 h3 (by omega) (by omega) hb2 (by simp at hm;omega)
    refine ⟨q',?_,by rw [j2,x2,yE,if_neg g];simp,j3,j4⟩
    have g1:(c==34)=false:=by simp;exact fun e=>g (.inl e)
    have g2:(c==92)=false:=by simp;exact fun e=>g (.inr e)
    rw [←j1]
    simp only [tb,ud,h1,h2,g1,g2,a1,e1,x1,decide_true,Option.bind_some]
    rfl
def qs (l:List Int):List Int:=if pl 0 l=true then l else qt l
theorem qQ (n:Nat) (s:BA) (hs:s.size≤1000000) (hn:10000000≤n):∃ t,Fo n s=some t∧bs t=qs (bs s):=by
 unfold Fo Ho qs
 rw [jL n s (by omega) (by omega),Option.bind_some]
 by_cases hp:pl 0 (bs s)=true
 · rw [if_pos hp,if_pos hp]
   exact ⟨s,rfl,rfl⟩
 · rw [if_neg hp,if_neg hp]
   obtain ⟨q0,w1,w2,w3⟩:=wN n 34
   have hb0:∀ c∈rX id q0,0≤c∧c<256:=fun c hc=>by rw [w2] at hc;simp at hc;subst hc;omega
   obtain ⟨q',j1,j2,j3,j4⟩:=ME n s hs (bs s) 0 n q0 (by simp) (by omega) (by omega) hb0 (by rw [Ca];omega)
   obtain ⟨t,s1,s2⟩:=vN n q' (by omega) j4
   have hts:t.size≤2*s.size+1:=by
    have:=congrArg List.length s2
    rw [Ca,Ge] at this;omega
   refine ⟨t++(⟨#[34]⟩:BA),?_,by rw [DK,s2,j2,w2];rfl⟩
   rw [show ((0:Nat):Int)=0 from rfl] at j1
   rw [w1,Option.bind_some,j1,Option.bind_some]
   simp only [dX]
   rw [s1,Option.bind_some,if_pos (pU (by show t.size+(⟨#[34]⟩:BA).size≤9000000000;rw [show (⟨#[34]⟩:BA).size=1 from rfl];omega))]
theorem LT (l:List Int):(qt l).length≤2*l.length+2:=by
 have:=fO l
 simp [qt];omega
theorem KT (l:List Int):(qs l).length≤2*l.length+2:=by
 unfold qs
 split
 · omega
 · exact LT l
theorem nL:∀ (N:Nat) (r:List Int),r.length≤N→∀ x,qd r=some x→x.1.length+x.2.length+1≤r.length
 | _,[],_,x,h=>by cases h
 | 0,c::r,h,_,_=>by simp at h
 | N+1,c::r,hN,x,h=>by
  rw [If] at h
  split at h
  · cases h;simp
  · split at h
    · cases r with
      | nil=>cases h
      | cons d r=>
       simp only at h
       split at h
       · obtain ⟨y,hy,rfl⟩:=Option.map_eq_some_iff.1 h
         have:=nL N r (by simp at hN;omega) y hy
         simp;omega
       · cases h
    · split at h
      · obtain ⟨y,hy,rfl⟩:=Option.map_eq_some_iff.1 h
        have:=nL N r (by simp at hN;omega) y hy
        simp;omega
      · cases h
def RW (l:List Int):Option (List Int×List Int):=if l.head?=some 34 then (qd (l.drop 1)).map fun x=>(qs x.1,x.2)
 else if LW 64 l= -1 then none else if pl 0 (l.take (LW 64 l).toNat)=true then some (l.take (LW 64 l).toNat,l.drop (LW 64 l).toNat) else none
theorem gQ (n:Nat) (s:BA) (hs:s.size≤1000000) (hn:10000000≤n):match RW (bs s) with
  | none=>Ye n s=some (.error 8)
  | some (a,b)=>∃ t1 t2,Ye n s=some (.ok (t1,t2,()))∧bs t1=a∧bs t2=b:=by
 have hm':(Sa n true)=some (.ok ()):=Dl n true
 have hm2:(Sa n false)=some (.error 8):=Dl n false
 unfold RW
 by_cases h:(bs s).head?=some 34
 · rw [if_pos h]
   have hq:=LO n s hs hn
   have hP:mb n s (⟨#[34]⟩:BA)=some true:=by rw [Ve n s _ (c:=34) rfl,decide_eq_true h]
   cases hx:qd ((bs s).drop 1) with
   | none=>
    rw [hx] at hq
    simp only at hq
    simp only [Option.map_none]
    unfold Ye Pe
    rw [hP,Option.bind_some,if_pos rfl,hq];rfl
   | some x=>
    rw [hx] at hq
    obtain ⟨t1,t2,j1,j2,j3⟩:=hq
    have hl:=nL _ _ (Nat.le_refl _) x hx
    rw [List.length_drop,Ca,←j2,Ca] at hl
    obtain ⟨t3,k1,k2⟩:=qQ n t1 (by omega) hn
    simp only [Option.map_some]
    refine ⟨t3,t2,?_,by rw [k2,j2],j3⟩
    unfold Ye Pe
    rw [hP,Option.bind_some,if_pos rfl,j1,Option.bind_some]
    simp only [eX]
    rw [k1];rfl
 · rw [if_neg h]
   have hP:mb n s (⟨#[34]⟩:BA)=some false:=by rw [Ve n s _ (c:=34) rfl,decide_eq_false h]
   have hI:=Zw n s (c:=64) (by decide) (by decide)
   have hge:=(Jj (c:=64) (bs s)).2
   have hlt:=cH 64 (bs s)
   by_cases hx:LW 64 (bs s)= -1
   · rw [if_pos hx]
     simp only
     have b1:¬((-1:Int)≥0):=by decide
     unfold Ye Pe
     rw [hP,Option.bind_some,if_neg (by decide),hI,hx]
     simp only [b1,hm2,decide_false,Option.bind_some,eX]
     rfl
   · rw [if_neg hx]
     obtain ⟨k,hk⟩:∃ k:Nat,LW 64 (bs s)=(k:Int):=⟨(LW 64 (bs s)).toNat,by omega⟩
     have hks:k<s.size:=by have:=hlt.1;rw [Ca] at this;omega
     rw [hk,Int.toNat_natCast]
     have hb0:bs (s.extract 0 k)=(bs s).take k:=by rw [Fi];rfl
     have hb1:bs (s.extract k s.size)=(bs s).drop k:=by rw [Fi,←Ca,List.take_length]
     have hpl:=jL n (s.extract 0 k) (by have:=Bl s 0 k;omega) (by have:=Bl s 0 k;omega)
     rw [hb0] at hpl
     have a1:(k:Int)≥0:=by omega
     have a2:(0:Int)≤(k:Int):=by omega
     have a3:(k:Int)≤(s.size:Int):=by omega
     have hpl':Ei n (s.extract (Int.toNat (0:Int)) k)=some (pl 0 ((bs s).take k)):=hpl
     by_cases hp:pl 0 ((bs s).take k)=true
     · rw [if_pos hp]
       refine ⟨s.extract 0 k,s.extract k s.size,?_,hb0,hb1⟩
       unfold Ye Pe
       rw [hP,Option.bind_some,if_neg (by decide),hI,hk]
       simp only [a1,a2,a3,hpl',hp,hm',decide_true,Option.bind_some,eX,Int.toNat_natCast]
       rfl
     · rw [if_neg hp]
       simp only
       unfold Ye Pe
       rw [hP,Option.bind_some,if_neg (by decide),hI,hk]
       have hp':pl 0 ((bs s).take k)=false:=by simpa using hp
       simp only [a1,a2,a3,hpl',hp',hm2,decide_true,Option.bind_some,eX,Int.toNat_natCast]
       rfl
def xC (l:List Int):Bool:=decide (1≤l.length)&&decide (l.length≤64)&&(if l.head?=some 34 then (match qd (l.drop 1) with
  | none=>false
  | some x=>decide (x.2=[])&&!pl 0 x.1&&decide (qt x.1=l)) else pl 0 l)
open Go
abbrev WV:=BA×(BA×Unit)
def TU:WV:=((⟨#[]⟩:BA),((⟨#[]⟩:BA),()))
def jT (l:List Int):Option (List Int×List Int):=(RW l).bind fun x=>if x.1.length≤64∧x.2.head?=some 64∧SR ((x.2.drop 1).map SW)=true then some (x.1,(x.2.drop 1).map SW) else none
theorem lS {l:List Int} {x:List Int×List Int} (h:RW l=some x):x.1.length≤2*l.length+2∧x.2.length≤l.length:=by
 unfold RW at h
 split at h
 · obtain ⟨y,hy,rfl⟩:=Option.map_eq_some_iff.1 h
   have h1:=nL _ _ (Nat.le_refl _) y hy
   have h2:=KT y.1
   rw [List.length_drop] at h1
   exact ⟨by simp;omega,by simp;omega⟩
 · split at h
   · cases h
   · split at h
     · cases h;simp;omega
     · cases h
theorem sL {t:BA}:bs (t.extract 1 t.size)=(bs t).drop 1:=by rw [Fi,←Ca,List.take_length]
theorem vS (n:Nat) (s:BA) (hs:s.size≤400000) (hn:10000000≤n):match jT (bs s) with
  | none=>Hh n s=some (.error 8)
  | some (a,d)=>∃ t1 t2,Hh n s=some (.ok (t1,(t2,())))∧bs t1=a∧bs t2=d:=by
 have hm':(Sa n true)=some (.ok ()):=Dl n true
 have hm2:(Sa n false)=some (.error 8):=Dl n false
 have hl:=gQ n s (by omega) hn
 unfold jT
 cases hx:RW (bs s) with
 | none=>
  rw [hx] at hl
  simp only at hl
  simp only [Option.bind_none]
  unfold Hh kg
  rw [hl];rfl
 | some x=>
  rw [hx] at hl
  obtain ⟨t1,t2,j1,j2,j3⟩:=hl
  have hlen:=lS hx
  rw [←j2,←j3,Ca,Ca,Ca] at hlen
  simp only [Option.bind_some]
  rw [←j2,←j3,Ca]
  by_cases g1:t1.size≤64
  · have b1:(t1.size:Int)≤64:=by omega
    have hP:=Ve n t2 (⟨#[64]⟩:BA) (c:=64) rfl
    by_cases g2:(bs t2).head?=some 64
    · rw [decide_eq_true g2] at hP
      have hne:1≤t2.size:=by
       rw [←Ca]
       cases hb:bs t2 with
       | nil=>rw [hb] at g2;cases g2
       | cons _ _=>simp
      have b2:(1:Int)≤(t2.size:Int):=by omega
      have b3:(0:Int)≤1:=by decide
      obtain ⟨t3,k1,k2⟩:=AQ n (t2.extract 1 t2.size) (by have:=Bl t2 1 t2.size;omega) hn
      have hsz:t3.size≤t2.size:=by rw [←Ca t3,k2,List.length_map,Ca];exact Bl _ _ _
      have hD:=Vy n t3 (by omega) hn
      rw [k2,sL] at hD
      rw [sL] at k2
      have k1':ah n (t2.extract (Int.toNat (1:Int)) t2.size)=some t3:=k1
      by_cases g3:SR (((bs t2).drop 1).map SW)=true
      · rw [if_pos ⟨g1,g2,g3⟩]
        refine ⟨t1,t3,?_,rfl,k2⟩
        unfold Hh kg
        rw [j1]
        simp only [Option.bind_some,eX,b1,decide_true,hP,hm',b2,b3,Int.toNat_natCast,k1',hD,g3]
        rfl
      · rw [if_neg fun h=>g3 h.2.2]
        simp only
        have g3':SR (((bs t2).drop 1).map SW)=false:=by simpa using g3
        unfold Hh kg
        rw [j1]
        simp only [Option.bind_some,eX,b1,decide_true,hP,hm',hm2,b2,b3,Int.toNat_natCast,k1',hD,g3']
        rfl
    · rw [decide_eq_false g2] at hP
      rw [if_neg fun h=>g2 h.2.1]
      simp only
      unfold Hh kg
      rw [j1]
      simp only [Option.bind_some,eX,b1,decide_true,hP,hm2]
      rfl
  · have b1:¬((t1.size:Int)≤64):=by omega
    rw [if_neg fun h=>g1 h.1]
    simp only
    unfold Hh kg
    rw [j1]
    simp only [Option.bind_some,eX,b1,decide_false,hm2]
    rfl
theorem CP (n:Nat) (s:BA) (hs:s.size≤400000) (hn:10000000≤n):match jT (bs s) with
  | none=>Sg n s=some (TU,8,())
  | some (a,d)=>∃ t1 t2,Sg n s=some ((t1,(t2,())),0,())∧bs t1=a∧bs t2=d:=by
 have h:=vS n s hs hn
 cases hx:jT (bs s) with
 | none=>
  rw [hx] at h
  simp only at h ⊢
  unfold Sg xh
  rw [h];rfl
 | some x=>
  rw [hx] at h
  obtain ⟨t1,t2,j1,j2,j3⟩:=h
  refine ⟨t1,t2,?_,j2,j3⟩
  unfold Sg xh
  rw [j1];rfl
def VA (a z:List Int):Option (List Int×List Int):=if z.head?=some 64∧(xC a&&uE ((z.drop 1).map SW))=true then some (a,(z.drop 1).map SW) else none
def tw:List Int→Nat
 | []=>0
 | c::r=>if c=64 then 0 else tw r+1
def kT (l:List Int):Option (List Int×List Int):=if l.head?=some 34 then (qd (l.drop 1)).bind fun x=>VA (qs x.1) x.2 else VA (l.take (tw l)) (l.drop (tw l))
open Go Go.RowKit
theorem pQ:∀ (N:Nat) (r:List Int),r.length≤N→∀ x,qd r=some x→x.1.all cX=true
 | _,[],_,x,h=>by cases h
 | 0,c::r,h,_,_=>by simp at h
 | N+1,c::r,hN,x,h=>by
  rw [If] at h
  split at h
  · cases h;rfl
  · split at h
    · cases r with
      | nil=>cases h
      | cons d r=>
       simp only at h
       split at h
       · rename_i hd
         obtain ⟨y,hy,rfl⟩:=Option.map_eq_some_iff.1 h
         have:=pQ N r (by simp at hN;omega) y hy
         rw [List.all_cons,hd,this];rfl
       · cases h
    · split at h
      · rename_i hd
        obtain ⟨y,hy,rfl⟩:=Option.map_eq_some_iff.1 h
        have:=pQ N r (by simp at hN;omega) y hy
        rw [List.all_cons,hd,this];rfl
      · cases h
theorem KO:∀ (l:List Int),l.all cX=true→∀ z,qd (yW l++34::z)=some (l,z)
 | [],_,z=>by rw [show yW []++34::z=34::z from rfl,If];rfl
 | c::r,h,z=>by
  rw [List.all_cons,Bool.and_eq_true] at h
  have ih:=KO r h.2 z
  rw [yE]
  by_cases g:c=34∨c=92
  · rw [if_pos g]
    rw [show ([92,c]++yW r)++34::z=92::c::(yW r++34::z) by simp,If]
    simp only [h.1,ih]
    rfl
  · rw [if_neg g]
    rw [show ([c]++yW r)++34::z=c::(yW r++34::z) by simp,If,if_neg fun e=>g (.inl e),if_neg fun e=>g (.inr e),if_pos h.1,ih]
    rfl
theorem HO {l:List Int} (h:pl 0 l=true):1≤l.length∧l.head?≠some 34:=by
 cases l with
 | nil=>simp [pl] at h
 | cons c r=>
  refine ⟨by simp,fun e=>?_⟩
  simp at e
  subst e
  have:WQ 34=false:=by decide
  simp [pl,this] at h
theorem kS {m:List Int} (h:m.all cX=true):xC (qs m)=decide ((qs m).length≤64):=by
 unfold qs
 by_cases hp:pl 0 m=true
 · rw [if_pos hp]
   obtain ⟨h1,h2⟩:=HO hp
   unfold xC
   rw [if_neg h2,hp]
   simp [h1]
 · rw [if_neg hp]
   have hp':pl 0 m=false:=by simpa using hp
   unfold xC
   have hd:(qt m).drop 1=yW m++34::[]:=rfl
   rw [if_pos (by rfl:(qt m).head?=some 34),hd,KO m h []]
   simp [hp',qt]
theorem sR:∀ l:List Int,(LW 64 l= -1→tw l=l.length)∧(LW 64 l≠ -1→LW 64 l=(tw l:Int)∧(l.drop (tw l)).head?=some 64)
 | []=>by simp [LW,tw]
 | c::r=>by
  have ih:=sR r
  have hge:=(Jj (c:=64) r).2
  simp only [LW,tw]
  by_cases g:c=64
  · simp [g]
  · rw [if_neg g,if_neg g]
    by_cases g2:LW 64 r= -1
    · rw [if_pos g2]
      exact ⟨fun _=>by rw [ih.1 g2];rfl,fun h=>absurd rfl h⟩
    · rw [if_neg g2]
      have:=ih.2 g2
      exact ⟨fun h=>by omega,fun _=>⟨by rw [this.1];rfl,by rw [List.drop_succ_cons];exact this.2⟩⟩
theorem mQ (l:List Int):jT l=kT l:=by
 unfold jT kT RW
 by_cases h:l.head?=some 34
 · rw [if_pos h,if_pos h]
   cases hx:qd (l.drop 1) with
   | none=>rfl
   | some x=>
    simp only [Option.map_some,Option.bind_some]
    unfold VA
    rw [kS (pQ _ _ (Nat.le_refl _) x hx),vE]
    by_cases g1:(qs x.1).length≤64<;>by_cases g2:x.2.head?=some 64<;>cases uE ((x.2.drop 1).map SW)<;>simp [g1,g2]
 · rw [if_neg h,if_neg h]
   have ht:=sR l
   have hge:=(Jj (c:=64) l).2
   by_cases g:LW 64 l= -1
   · rw [if_pos g,ht.1 g,List.drop_length]
     simp [VA]
   · rw [if_neg g]
     obtain ⟨e1,e2⟩:=ht.2 g
     rw [e1,Int.toNat_natCast]
     by_cases hp:pl 0 (l.take (tw l))=true
     · rw [if_pos hp]
       obtain ⟨h1,h2⟩:=HO hp
       simp only [Option.bind_some]
       unfold VA
       have hloc:xC (l.take (tw l))=decide ((l.take (tw l)).length≤64):=by
        unfold xC
        rw [if_neg h2,hp]
        simp only [h1,decide_true,Bool.true_and,Bool.and_true]
       rw [hloc,vE,e2]
       by_cases g1:(l.take (tw l)).length≤64<;>cases uE (((l.drop (tw l)).drop 1).map SW)<;>simp only [g1,decide_true,decide_false]<;>simp
     · rw [if_neg hp]
       simp only [Option.bind_none]
       have hloc:xC (l.take (tw l))=false:=by
        unfold xC
        by_cases h34:(l.take (tw l)).head?=some 34
        · exfalso
          apply h
          cases l with
          | nil=>simp at h34
          | cons c r=>
           cases htw:tw (c::r) with
           | zero=>rw [htw] at h34;simp at h34
           | succ k=>rw [htw] at h34;simpa using h34
        · rw [if_neg h34]
          have:pl 0 (l.take (tw l))=false:=by simpa using hp
          rw [this];simp
       unfold VA
       rw [hloc]
       simp
theorem bp (d:Int) (p:Int→Bool):∀ (r cur:List Int),(Db d cur r).all (fun w=>w.all p)=true→(∀ c∈cur,p c=true)∧∀ c∈r,p c=true∨c=d
 | [],cur,h=>by
  simp only [Db,List.all_cons,List.all_nil,Bool.and_true,List.all_eq_true] at h
  exact ⟨h,fun c hc=>by cases hc⟩
 | c::r,cur,h=>by
  simp only [Db] at h
  by_cases e:c=d
  · rw [if_pos e,List.all_cons,Bool.and_eq_true] at h
    obtain ⟨h1,h2⟩:=bp d p r [] h.2
    refine ⟨fun x hx=>List.all_eq_true.mp h.1 x hx,fun x hx=>?_⟩
    rcases List.mem_cons.mp hx with rfl | hx
    · exact .inr e
    · exact h2 x hx
  · rw [if_neg e] at h
    obtain ⟨h1,h2⟩:=bp d p r (cur++[c]) h
    refine ⟨fun x hx=>h1 x (List.mem_append_left _ hx),fun x hx=>?_⟩
    rcases List.mem_cons.mp hx with rfl | hx
    · exact .inl (h1 x (List.mem_append_right _ List.mem_cons_self))
    · exact h2 x hx
theorem qO {l:List Int} (h:2≤l.length) (h1:l.head?=some 91) (h2:l.getLast?=some 93):∀ c∈l,c=91∨c=93∨c∈wC l:=by
 intro c hc
 cases l with
 | nil=>cases hc
 | cons a r=>
  simp only [List.head?_cons,Option.some.injEq] at h1
  rcases List.mem_cons.mp hc with e | hm
  · exact .inl (e.trans h1)
  · have hr:r≠[]:=List.ne_nil_of_mem hm
    obtain ⟨k,hk⟩:∃ k,r.length=k+1:=⟨r.length - 1,by have:=List.length_pos_iff.mpr hr;omega⟩
    have hi:wC (a::r)=r.dropLast:=by
     unfold wC
     rw [List.length_cons,Nat.add_sub_cancel,hk,List.take_succ_cons,List.drop_one,List.tail_cons,List.dropLast_eq_take,hk];rfl
    have hg:r.getLast hr=93:=by
     rw [List.getLast?_cons,List.getLast?_eq_some_getLast hr] at h2
     simpa using h2
    rw [←List.dropLast_concat_getLast hr] at hm
    rcases List.mem_append.mp hm with hm | hm
    · exact .inr (.inr (hi▸hm))
    · rw [List.mem_singleton.mp hm,hg];exact .inr (.inl rfl)
theorem YP {l:List Int} (h:uE l=true):l.map SW=l:=by
 have key:∀ c∈l,¬(65≤c∧c≤90):=by
  unfold uE at h
  rw [Bool.and_eq_true,Bool.or_eq_true] at h
  rcases h.2 with h | h
  · unfold RU at h
    simp only [Bool.and_eq_true,decide_eq_true_eq] at h
    obtain ⟨⟨⟨h1,h2⟩,h3⟩,h4⟩:=h
    unfold gR at h4
    rw [Bool.and_eq_true] at h4
    have h5:(Db 46 [] (wC l)).all (fun w=>w.all uW)=true:=by
     rw [List.all_eq_true]
     intro w hw
     have:=List.all_eq_true.mp h4.1 w hw
     unfold bX at this
     simp only [Bool.and_eq_true] at this
     exact this.1.2
    have h6:=(bp 46 uW _ _ h5).2
    intro c hc
    rcases qO h1 h2 h3 c hc with rfl | rfl | hm
    · decide
    · decide
    · rcases h6 c hm with h7 | rfl
      · unfold uW at h7
        simp only [Bool.and_eq_true,decide_eq_true_eq] at h7
        omega
      · decide
  · have h5:(Db 46 [] l).all (fun w=>w.all QW)=true:=by
     rw [List.all_eq_true]
     intro w hw
     have:=List.all_eq_true.mp h w hw
     unfold rN at this
     simp only [Bool.and_eq_true] at this
     exact this.2
    have h6:=(bp 46 QW _ _ h5).2
    intro c hc
    rcases h6 c hc with h7 | rfl
    · unfold QW qX at h7
      simp only [Bool.and_eq_true,Bool.or_eq_true,decide_eq_true_eq] at h7
      omega
    · decide
 have:l.map SW=l.map id:=List.map_congr_left fun c hc=>by
  unfold SW
  rw [if_neg (key c hc)];rfl
 rw [this,List.map_id]
theorem tS:∀ (l:List Int) (w:Nat),pl w l=true→64 ∉ l
 | [],_,_=>by simp
 | c::r,w,h=>by
  simp only [pl] at h
  intro hm
  rcases List.mem_cons.mp hm with e | hm
  · subst e
    have a:WQ 64=false:=by decide
    simp [a] at h
  · by_cases c1:c=46
    · rw [if_pos c1] at h
      by_cases c2:w=0
      · rw [if_pos c2] at h;cases h
      · rw [if_neg c2] at h;exact tS r 0 h hm
    · rw [if_neg c1] at h
      by_cases c2:WQ c=true
      · rw [if_pos c2] at h;exact tS r (w+1) h hm
      · rw [if_neg c2] at h;cases h
theorem rR:∀ (l z:List Int),64 ∉ l→tw (l++64::z)=l.length
 | [],z,_=>by simp [tw]
 | c::r,z,h=>by
  have hc:¬c=64:=fun e=>h (by rw [e];exact List.mem_cons_self)
  have:=rR r z fun hm=>h (List.mem_cons_of_mem _ hm)
  show (if c=64 then 0 else tw (r++64::z)+1)=_
  rw [if_neg hc,this];rfl
theorem yD {a z l d:List Int} (h:VA a z=some (l,d)):(xC l&&uE d)=true:=by
 unfold VA at h
 by_cases c:z.head?=some 64∧(xC a&&uE ((z.drop 1).map SW))=true
 · rw [if_pos c] at h
   obtain ⟨h1,h2⟩:=Prod.mk.inj (Option.some.inj h)
   rw [←h1,←h2];exact c.2
 · rw [if_neg c] at h;cases h
theorem sS (l d:List Int):kT (l++64::d)=some (l,d)↔(xC l&&uE d)=true:=by
 constructor
 · intro h
   unfold kT at h
   by_cases c:(l++64::d).head?=some 34
   · rw [if_pos c] at h
     cases hq:qd ((l++64::d).drop 1) with
     | none=>rw [hq] at h;cases h
     | some x=>rw [hq,Option.bind_some] at h;exact yD h
   · rw [if_neg c] at h;exact yD h
 · intro h
   rw [Bool.and_eq_true] at h
   obtain ⟨h1,hd⟩:=h
   have hlow:=YP hd
   have tl:∀ a,xC a=true→VA a (64::d)=some (a,d):=by
    intro a ha
    unfold VA
    have e:(64::d).drop 1=d:=rfl
    rw [e,hlow,ha,hd]
    rfl
   have L1:=h1
   unfold xC at L1
   rw [Bool.and_eq_true,Bool.and_eq_true,decide_eq_true_eq] at L1
   obtain ⟨⟨L2,L3⟩,L1⟩:=L1
   have hh:(l++64::d).head?=l.head?:=by
    cases l with
    | nil=>simp at L2
    | cons a r=>rfl
   unfold kT
   by_cases c:l.head?=some 34
   · rw [if_pos c] at L1
     cases hx:qd (l.drop 1) with
     | none=>rw [hx] at L1;cases L1
     | some x=>
      rw [hx] at L1
      simp only [Bool.and_eq_true,decide_eq_true_eq,Bool.not_eq_true'] at L1
      obtain ⟨⟨e1,e2⟩,e3⟩:=L1
      have ok:=pQ _ _ (Nat.le_refl _) x hx
      have hdr:(l++64::d).drop 1=yW x.1++34::64::d:=by
       rw [←e3];simp [qt]
      have hqs:qs x.1=l:=by
       unfold qs
       rw [if_neg (by rw [e2];decide),e3]
      rw [if_pos (hh.trans c),hdr,KO x.1 ok (64::d),Option.bind_some]
      show VA (qs x.1) (64::d)=_
      rw [hqs];exact tl l h1
   · rw [if_neg c] at L1
     rw [if_neg (by rw [hh];exact c),rR l d (tS l 0 L1),List.take_left' rfl,List.drop_left' rfl]
     exact tl l h1
theorem zR (n:Nat) (a b:BA) (ha:a.size≤100000) (hb:b.size≤100000):VC n (a,(b,()))=some ((a++(⟨#[64]⟩:BA))++b):=by
 have h64:(⟨#[64]⟩:BA).size=1:=rfl
 have f1:qf a (⟨#[64]⟩:BA)=true:=pU (by omega)
 have f2:qf (a++(⟨#[64]⟩:BA)) b=true:=pU (by rw [ByteArray.size_append];omega)
 unfold VC Gy
 rw [if_pos f1,if_pos f2]
theorem xN (n:Nat) (a b:BA) (ha:a.size≤100000) (hb:b.size≤100000) (hn:10000000≤n):Bi n (a,(b,()))=some (xC (bs a)&&uE (bs b)):=by
 have h64:(⟨#[64]⟩:BA).size=1:=rfl
 have hs:((a++(⟨#[64]⟩:BA))++b).size≤400000:=by rw [ByteArray.size_append,ByteArray.size_append];omega
 have hP:=CP n _ hs hn
 have hb':bs ((a++(⟨#[64]⟩:BA))++b)=bs a++64::bs b:=by
  rw [DK,DK,List.append_assoc];rfl
 rw [hb',mQ] at hP
 have hm:=sS (bs a) (bs b)
 unfold Bi Hy
 simp only [zR n a b ha hb,Option.bind_some]
 cases hv:kT (bs a++64::bs b) with
 | none=>
  rw [hv] at hP hm
  simp only at hP
  have:(xC (bs a)&&uE (bs b))=false:=by
   cases e:(xC (bs a)&&uE (bs b)) with
   | false=>rfl
   | true=>cases hm.mpr e
  rw [hP,this];rfl
 | some y=>
  rw [hv] at hP hm
  obtain ⟨t1,t2,j1,j2,j3⟩:=hP
  rw [j1,Option.bind_some]
  simp only [Qg,j2,j3]
  have:(decide (y.1=bs a)&&(decide (y.2=bs b)&&true))=(xC (bs a)&&uE (bs b)):=by
   rw [Bool.eq_iff_iff,←hm]
   simp [Prod.ext_iff]
  rw [←this];rfl
end Go.Proofs.YtddefjokgaajfaaGreatDoor.AM
