/- Strings as lists of numbers: what the typed functions do to them. -/
import Derived.Test.YtddefjokgaajfaaGreatDoorUA
import Derived.Lib.Strings
import Derived.Lib.Bytealg
import Derived.IntWalk
import Derived.Test.YtddefjokgaajfaaGreatDoorUF2
import Derived.Lib.ItoaNum
import Derived.Test.YtddefjokgaajfaaGreatDoorUB2
set_option linter.all false
set_option linter.unusedVariables false
set_option linter.unusedSimpArgs false
namespace Go.Proofs.YtddefjokgaajfaaGreatDoor.AM
open Go
def bs (s:BA):List Int:=s.data.toList.map fun c=>(c.toNat:Int)
theorem Fa (s:BA):(bs s).length=s.size:=by simp [bs,ByteArray.size_data]
theorem ez:∀ {a b:List UInt8},(a.map fun c=>(c.toNat:Int))=(b.map fun c=>(c.toNat:Int))→a=b
 | [],[],_=>rfl
 | [],_::_,h=>by simp at h
 | _::_,[],h=>by simp at h
 | x::xs,y::ys,h=>by
  simp only [List.map_cons,List.cons.injEq] at h
  rw [ez h.2,UInt8.toNat_inj.1 (by have:=h.1;omega:x.toNat=y.toNat)]
theorem HR {a b:BA} (h:bs a=bs b):a=b:=by
 have:=ez h
 exact ByteArray.ext (Array.toList_inj.1 this)
theorem Xg (a b:BA):(a.toList==b.toList)=decide (bs a=bs b):=by
 rw [Lib.toList_data,Lib.toList_data]
 by_cases h:bs a=bs b
 · rw [decide_eq_true h,HR h];simp
 · rw [decide_eq_false h]
   have:a.data.toList≠b.data.toList:=fun e=>h (by unfold bs;rw [e])
   simpa using this
theorem aL (a b:BA):bs (a++b)=bs a++bs b:=by simp [bs,ByteArray.data_append]
theorem Si (a:BA) (i j:Nat):bs (a.extract i j)=((bs a).take j).drop i:=by
 simp [bs,ByteArray.data_extract,List.map_drop,List.map_take,List.extract,List.drop_take]
theorem jO {s:BA} {c:Int} (h:c∈bs s):0≤c∧c<256:=by
 simp only [bs,List.mem_map] at h
 obtain ⟨x,_,rfl⟩:=h
 have:=x.toNat_lt
 omega
theorem tS {s:BA} {k:Nat} {c:Int} (h:(bs s)[k]?=some c):bt s (k:Int)=c:=by
 have hl:k<s.size:=by have:=(List.getElem?_eq_some_iff.1 h).1;rwa [Fa] at this
 unfold bt
 rw [dif_pos (by simpa using hl)]
 simp only [bs,List.getElem?_map] at h
 rw [Array.getElem?_toList,Array.getElem?_eq_getElem (by rwa [ByteArray.size_data])] at h
 simp at h
 exact h
theorem Fl {s:BA} {k:Nat} {c:Int} {r:List Int} (h:(bs s).drop k=c::r):(k:Int)<(s.size:Int)∧bt s (k:Int)=c∧(bs s).drop (k+1)=r∧0≤c∧c<256:=by
 have h1:(bs s)[k]?=some c:=by
  have:=congrArg (fun l=>l[0]?) h
  simpa using this
 have hl:k<s.size:=by have:=(List.getElem?_eq_some_iff.1 h1).1;rwa [Fa] at this
 refine ⟨by omega,tS h1,?_,jO (List.mem_of_getElem? h1)⟩
 rw [←List.drop_drop,h];rfl
theorem Zw {s:BA} {k:Nat} (h:(bs s).drop k=[]):¬((k:Int)<(s.size:Int)):=by
 have:=List.drop_eq_nil_iff.1 h
 rw [Fa] at this
 omega
theorem wr {x:Int} (h1: -9223372036854775808≤x) (h2:x≤9223372036854775807):IntKind.wrap .i64 x=x:=by
 rw [IntKind.wrap_i64]
 omega
theorem EY {k:Nat} (h:k<4611686018427387904):IntKind.wrap .i64 ((k:Int)+1)=((k+1:Nat):Int):=by
 rw [wr (by omega) (by omega)];rfl
theorem OD:∀ (l:List Int) (r:BA),(∀ x∈l,0≤x∧x<256)→bs (l.foldl (fun r c=>r.push (UInt8.ofNat c.toNat)) r)=bs r++l
 | [],r,_=>by simp
 | x::l,r,h=>by
  rw [List.foldl_cons,OD l _ fun y hy=>h y (List.mem_cons_of_mem _ hy)]
  have hx:=h x List.mem_cons_self
  have:bs (r.push (UInt8.ofNat x.toNat))=bs r++[x]:=by
   have e:(UInt8.ofNat x.toNat).toNat=x.toNat:=by simp [UInt8.toNat_ofNat'];omega
   simp [bs,ByteArray.push,e]
   omega
  rw [this];simp
theorem bL {n:Nat} {f:Nat→Int} (h:∀ i,i<n→0≤f i∧f i<256):bs (dl n f)=(List.range n).map f:=by
 unfold dl
 rw [OD _ _ fun x hx=>by
  simp only [List.mem_map,List.mem_range] at hx
  obtain ⟨i,hi,rfl⟩:=hx
  exact h i hi]
 rfl
def OX (c:Int):List Int→Int
 | []=> -1
 | b::l=>if b=c then 0 else if OX c l= -1 then -1 else OX c l+1
theorem RO {c:Int} (h0:0≤c) (h1:c<256):∀ l:List UInt8,Lib.indexByte l (Nat.toUInt8 (Int.toNat c))=OX c (l.map fun c=>(c.toNat:Int))
 | []=>rfl
 | b::l=>by
  have e:(Nat.toUInt8 (Int.toNat c)).toNat=c.toNat:=by simp [Nat.toUInt8,UInt8.toNat_ofNat'];omega
  simp only [Lib.indexByte,List.map_cons,OX,RO h0 h1 l]
  have hb:(b==Nat.toUInt8 (Int.toNat c))=decide ((b.toNat:Int)=c):=by
   by_cases hh:(b.toNat:Int)=c
   · rw [decide_eq_true hh]
     have:b=Nat.toUInt8 (Int.toNat c):=UInt8.toNat_inj.1 (by rw [e];omega)
     simp [←this]
   · rw [decide_eq_false hh]
     have:b≠Nat.toUInt8 (Int.toNat c):=fun h=>hh (by rw [h,e];omega)
     simpa using this
  rw [hb]
  by_cases hh:(b.toNat:Int)=c<;>simp [hh]
theorem yQ {c:Int} (h0:0≤c) (h1:c<256) (l:List UInt8):Lib.countByte l (Nat.toUInt8 (Int.toNat c))=(l.map fun c=>(c.toNat:Int)).count c:=by
 have e:(Nat.toUInt8 (Int.toNat c)).toNat=c.toNat:=by simp [Nat.toUInt8,UInt8.toNat_ofNat'];omega
 unfold Lib.countByte
 induction l with
 | nil=>rfl
 | cons b l ih=>
  simp only [List.map_cons,List.count_cons,ih]
  by_cases hh:(b.toNat:Int)=c
  · have:b=Nat.toUInt8 (Int.toNat c):=UInt8.toNat_inj.1 (by rw [e];omega)
    simp [hh,←this]
  · have:b≠Nat.toUInt8 (Int.toNat c):=fun h=>hh (by rw [h,e];omega)
    simp [hh,this]
open Go
def tY (c:Int):Bool:=decide (97≤c)&&decide (c≤122) || decide (48≤c)&&decide (c≤57)
def Au:List Int:=[33,35,36,37,38,39,42,43,45,47,61,63,94,95,96,123,124,125,126]
def GR (c:Int):Bool:=tY c || decide (65≤c)&&decide (c≤90) || decide (c∈Au)
theorem wP (n:Nat) (c:Int):Tq n c=some (tY c):=by
 unfold Tq Ws tY
 by_cases h1:97≤c<;>by_cases h2:c≤122<;>by_cases h3:48≤c<;>by_cases h4:c≤57<;>simp [h1,h2,h3,h4]<;>omega
theorem Uj {c:Int}:∀ l:List Int,(0≤OX c l↔c∈l)∧ -1≤OX c l
 | []=>by simp [OX]
 | b::l=>by
  have:=Uj (c:=c) l
  simp only [OX]
  by_cases h:b=c
  · simp [h]
  · rw [if_neg h]
    have hc:c≠b:=fun e=>h e.symm
    by_cases h2:OX c l= -1
    · rw [if_pos h2]
      have:¬c∈l:=fun hm=>by have:=this.1.2 hm;omega
      simp [hc,this]
    · rw [if_neg h2]
      have h3:0≤OX c l:=by omega
      have:=this.1.1 h3
      constructor
      · constructor
        · intro _;exact List.mem_cons_of_mem _ this
        · intro _;omega
      · omega
theorem Bx (n:Nat) (s:BA) {c:Int} (h0:0≤c) (h1:c<256):Gc n s c=some (OX c (bs s)):=by
 unfold Gc rg Gd se
 simp [RO h0 h1,bs]
theorem nK:bs (⟨#[33,35,36,37,38,39,42,43,45,47,61,63,94,95,96,123,124,125,126]⟩:BA)=Au:=by decide
theorem oS (n:Nat) {c:Int} (h0:0≤c) (h1:c<256):Oq n c=some (GR c):=by
 unfold Oq ws GR
 rw [wP,Bx _ _ h0 h1,nK]
 have:=(Uj (c:=c) Au).1
 have hd:decide (OX c Au≥0)=decide (c∈Au):=by rw [decide_eq_decide];exact this
 cases hs:tY c<;>by_cases h2:65≤c<;>by_cases h3:c≤90<;>simp [h2,h3,hd]<;>omega
def pl:Nat→List Int→Bool
 | w,[]=>decide (0<w)
 | w,c::r=>if c=46 then (if w=0 then false else pl 0 r) else if GR c=true then pl (w+1) r else false
def pY:Nat→List Int→Lx Int Bool
 | w,[]=>.out w
 | w,c::r=>if c=46 then (if w=0 then .ret false else pY 0 r) else if GR c=true then pY (w+1) r else .ret false
theorem IL (n:Nat) (s:BA) (hs:s.size<4611686018427387904):∀ (r:List Int) (k w m:Nat),(bs s).drop k=r→k≤s.size→w≤k→r.length<m→Nb n m s w s.size k=some (pY w r)
 | [],k,w,m,h,hk,hw,hm=>by
  obtain ⟨m,rfl⟩:∃ q,m=q+1:=⟨m - 1,by omega⟩
  have:=Zw h
  simp [Nb,Nf,this,pY]
 | c::r,k,w,m,h,hk,hw,hm=>by
  obtain ⟨m,rfl⟩:∃ q,m=q+1:=⟨m - 1,by omega⟩
  obtain ⟨h1,h2,h3,h4,h5⟩:=Fl h
  have ih:=fun w hw=>IL n s hs r (k+1) w m h3 (by omega) hw (by simpa using hm)
  have hk0:(0:Int)≤(k:Int):=by omega
  have e1:=EY (k:=k) (by omega)
  have e2:=EY (k:=w) (by omega)
  simp only [Nb,Nf,h1,h2,hk0,oS n h4 h5,e1,e2,pY]
  by_cases hc:c=46
  · subst hc
    by_cases hw0:w=0
    · subst hw0;simp
    · have:((w:Int)==0)=false:=by simpa using hw0
      have:=ih 0 (by omega)
      simp_all
  · have hc':(c==46)=false:=by simpa using hc
    cases ha:GR c with
    | true=>simp [hc,hc',ha];exact ih (w+1) (by omega)
    | false=>simp [hc,hc',ha]
theorem kP:∀ (r:List Int) (w:Nat),iY (pY w r) (fun a=>decide (a>(0:Int))) (fun b=>b) (fun _=>false)=pl w r
 | [],w=>by simp [pY,pl,iY]
 | c::r,w=>by
  simp only [pY,pl]
  split
  · split
    · rfl
    · exact kP r 0
  · split
    · exact kP r (w+1)
    · rfl
theorem DA:∀ (r:List Int) (w:Nat) (p:Int),pY w r≠.pan p
 | [],w,p=>by simp [pY]
 | c::r,w,p=>by
  simp only [pY]
  split
  · split
    · simp
    · exact DA r 0 p
  · split
    · exact DA r (w+1) p
    · simp
theorem JL (n:Nat) (s:BA) (hs:s.size<4611686018427387904) (hn:s.size<n):Ri n s=some (pl 0 (bs s)):=by
 unfold Ri So
 have:=IL n s hs (bs s) 0 0 n (by simp) (by omega) (by omega) (by rw [Fa];exact hn)
 rw [show ((0:Nat):Int)=0 from rfl] at this
 rw [this,Option.bind_some,←kP]
 cases h:pY 0 (bs s) with
 | out a=>rfl
 | ret b=>rfl
 | pan p=>exact absurd h (DA _ _ _)
open Go
def uY {α β:Type} (f:α→β) (q:Sq α):List β:=(List.range q.n).map fun i=>f (q.at' i)
theorem Me {α β:Type} (f:α→β) (q:Sq α):(uY f q).length=q.n:=by simp [uY]
theorem aB {α β:Type} {f:α→β} {q:Sq α} {i:Nat} (h:i<q.n):(uY f q)[i]?=some (f (q.at' i)):=by simp [uY,h]
theorem UL {α β:Type} (f:α→β) (q:Sq α) (y z:α):uY f (⟨q.n+1,fun i=>if i<q.n then q.at' i else (fun i=>List.getD [y] i z) (i - q.n)⟩:Sq α)=uY f q++[f y]:=by
 unfold uY
 simp only [List.range_succ,List.map_append,List.map_cons,List.map_nil]
 congr 1
 · apply List.map_congr_left
   intro i hi
   simp only [List.mem_range] at hi
   simp [hi]
 · simp
theorem Bu {α β:Type} {f:α→β} {q:Sq α} {k:Nat} {x:β} {r:List β} (h:(uY f q).drop k=x::r):k<q.n∧f (q.at' k)=x∧(uY f q).drop (k+1)=r:=by
 have h1:(uY f q)[k]?=some x:=by
  have:=congrArg (fun l=>l[0]?) h
  simpa using this
 have hl:k<q.n:=by have:=(List.getElem?_eq_some_iff.1 h1).1;rwa [Me] at this
 refine ⟨hl,?_,?_⟩
 · rw [aB hl] at h1;exact Option.some.inj h1
 · rw [←List.drop_drop,h];rfl
theorem cB {α β:Type} {f:α→β} {q:Sq α} {k:Nat} (h:(uY f q).drop k=[]):q.n≤k:=by
 have:=List.drop_eq_nil_iff.1 h
 rwa [Me] at this
theorem DV {n:Nat} (h:n≤4000000):db (n+1) 16=true:=by
 unfold db
 simp only [Bool.and_eq_true,Nat.ble_eq]
 omega
theorem EV {n:Nat} (h:n≤4000000):db (n+1) 1=true:=by
 unfold db
 simp only [Bool.and_eq_true,Nat.ble_eq]
 omega
def Hb (d:Int):List Int→List Int→List (List Int)
 | cur,[]=>[cur]
 | cur,c::r=>if c=d then cur::Hb d [] r else Hb d (cur++[c]) r
theorem uw (d:Int):∀ (r cur:List Int),(Hb d cur r).length≤r.length+1∧∀ w∈Hb d cur r,w.length≤cur.length+r.length
 | [],cur=>by simp [Hb]
 | c::r,cur=>by
  simp only [Hb]
  split
  · have:=uw d r []
    refine ⟨by simp;omega,fun w hw=>?_⟩
    rcases List.mem_cons.1 hw with rfl | hw
    · omega
    · have:=this.2 w hw;simp at this ⊢;omega
  · have:=uw d r (cur++[c])
    refine ⟨by simp;omega,fun w hw=>?_⟩
    have:=this.2 w hw;simp at this ⊢;omega
theorem pK {q:Sq BA} {s:BA} {d:Int} (h:uY bs q=Hb d [] (bs s)):q.n≤s.size+1∧∀ i,i<q.n→(q.at' i).size≤s.size:=by
 have h0:=uw d (bs s) []
 rw [Fa,←h,Me] at h0
 refine ⟨h0.1,fun i hi=>?_⟩
 have:=h0.2 (bs (q.at' i)) (List.mem_of_getElem? (aB hi))
 rw [Fa] at this
 simpa using this
open Go
def wX (c:Int):Bool:=decide (48≤c)&&decide (c≤57)
def iS:Int→List Int→Int
 | n,[]=>n
 | n,c::r=>iS (10*n+(c - 48)) r
def fY (w:List Int):Bool:=!w.isEmpty&&decide (w.length≤16)&&!(decide (1<w.length)&&decide (w.head?=some 48))&&w.all wX&&decide (iS 0 w≤255)
def vX (u:Nat):List UInt8:=if u<10 then [UInt8.ofNat (48+u)] else if u<100 then [UInt8.ofNat (48+u / 10),UInt8.ofNat (48+u%10)] else [UInt8.ofNat (48+u / 100),UInt8.ofNat (48+u / 10%10),UInt8.ofNat (48+u%10)]
theorem JR {u:Nat} (h:u<1000):Lib.decDigits u=vX u:=by
 unfold vX
 split
 · rename_i h1;rw [Lib.decDigits_one h1]
 · rename_i h1
   split
   · rename_i h2;rw [Lib.decDigits_two h1 h2]
   · rename_i h2
     rw [Lib.decDigits,dif_neg h1,Lib.decDigits_two (by omega) (by omega)]
     simp only [List.cons_append,List.nil_append]
     congr 3
     omega
def xH (l:List UInt8):List Int:=l.map fun c=>(c.toNat:Int)
theorem nU:∀ v:Fin 256,fY (xH (vX v.val))=true:=by decide+kernel
theorem aY:∀ a:Fin 10,fY [48+(a.val:Int)]=true→Lib.atoiAll [UInt8.ofNat (48+a.val)]=.ok (a.val:Int)∧vX a.val=[UInt8.ofNat (48+a.val)]:=by decide+kernel
theorem bY:∀ a b:Fin 10,fY [48+(a.val:Int),48+(b.val:Int)]=true→Lib.atoiAll [UInt8.ofNat (48+a.val),UInt8.ofNat (48+b.val)]=.ok ((10*a.val+b.val:Nat):Int)∧vX (10*a.val+b.val)=[UInt8.ofNat (48+a.val),UInt8.ofNat (48+b.val)]:=by decide+kernel
theorem cY:∀ a b c:Fin 10,fY [48+(a.val:Int),48+(b.val:Int),48+(c.val:Int)]=true→
  100*a.val+10*b.val+c.val<256∧Lib.atoiAll [UInt8.ofNat (48+a.val),UInt8.ofNat (48+b.val),UInt8.ofNat (48+c.val)]=.ok ((100*a.val+10*b.val+c.val:Nat):Int)∧vX (100*a.val+10*b.val+c.val)=[UInt8.ofNat (48+a.val),UInt8.ofNat (48+b.val),UInt8.ofNat (48+c.val)]:=by decide+kernel
theorem SP:∀ (r:List Int) (n:Int),0≤n→r.all wX=true→n≤iS n r∧(∀ m:Int,m≤n→0≤m→∀ k,k≤r.length→m*10^k≤iS n r)
 | [],n,h,_=>⟨by simp [iS],fun m hm h0 k hk=>by
  have:k=0:=by simpa using hk
  subst this;simpa [iS] using hm⟩
 | c::r,n,h,hd=>by
  simp only [List.all_cons,Bool.and_eq_true] at hd
  have hc:48≤c∧c≤57:=by simpa [wX] using hd.1
  have ih:=SP r (10*n+(c - 48)) (by omega) hd.2
  simp only [iS]
  refine ⟨by have:=ih.1;omega,fun m hm h0 k hk=>?_⟩
  cases k with
  | zero=>have:=ih.1;simp;omega
  | succ k=>
   have:=ih.2 (10*m) (by omega) (by omega) k (by simpa using hk)
   rw [Int.pow_succ]
   have e:m*(10^k*10)=10*m*10^k:=by
    rw [Int.mul_comm (10^k) 10,←Int.mul_assoc,Int.mul_comm m 10]
   rw [e];exact this
def eY (l:List UInt8):Bool:=match Lib.atoiAll l with
 | .ok v=>decide (0≤v)&&decide (v≤255)&&decide (Lib.itoa v=l)
 | _=>false
theorem Nv {c:Int} (h:wX c=true):∃ a:Fin 10,c=48+(a.val:Int):=by
 have hc:48≤c∧c≤57:=by simpa [wX] using h
 exact ⟨⟨(c - 48).toNat,by omega⟩,by simp;omega⟩
theorem PJ:∀ {l:List UInt8} {l':List UInt8},xH l=xH l'→l=l':=fun h=>ez h
theorem RE (a:Fin 10):((UInt8.ofNat (48+a.val)).toNat:Int)=48+(a.val:Int):=by
 have:=a.isLt
 simp [UInt8.toNat_ofNat']
 omega
theorem fP {l:List UInt8} {v:Nat} (hv:v<256) (h1:Lib.atoiAll l=.ok (v:Int)) (h2:vX v=l):eY l=true:=by
 unfold eY
 rw [h1]
 have:Lib.itoa (v:Int)=l:=by
  unfold Lib.itoa
  rw [if_neg (by omega)]
  rw [Int.toNat_natCast,JR (by omega),h2]
 simp [this]
 omega
theorem DU (l:List UInt8):eY l=fY (xH l):=by
 apply Bool.eq_iff_iff.2
 constructor
 · intro h
   unfold eY at h
   split at h
   · rename_i v hv
     simp only [Bool.and_eq_true,decide_eq_true_eq] at h
     obtain ⟨⟨h0,h1⟩,h2⟩:=h
     obtain ⟨u,rfl⟩:∃ u:Nat,v=(u:Int):=⟨v.toNat,by omega⟩
     have e:l=vX u:=by
      rw [←h2,Lib.itoa,if_neg (by omega),Int.toNat_natCast,JR (by omega)]
     rw [e]
     exact nU ⟨u,by omega⟩
   · cases h
 · intro h
   have h':=h
   unfold fY at h'
   simp only [Bool.and_eq_true,Bool.not_eq_true',decide_eq_true_eq] at h'
   obtain ⟨⟨⟨⟨h1,h2⟩,h3⟩,h4⟩,h5⟩:=h'
   rcases hl:l with _ | ⟨a,_ | ⟨b,_ | ⟨c,_ | ⟨d,r⟩⟩⟩⟩
   · subst hl;simp [xH] at h1
   · subst hl
     simp only [xH,List.map_cons,List.map_nil,List.all_cons,List.all_nil,Bool.and_true] at h4
     obtain ⟨x,hx⟩:=Nv h4
     have ea:[a]=[UInt8.ofNat (48+x.val)]:=PJ (by simp only [xH,List.map_cons,List.map_nil,RE,hx])
     have ho:fY [48+(x.val:Int)]=true:=by simpa [xH,hx] using h
     obtain ⟨p1,p2⟩:=aY x ho
     rw [ea]
     exact fP (by have:=x.isLt;omega) p1 p2
   · subst hl
     simp only [xH,List.map_cons,List.map_nil,List.all_cons,List.all_nil,Bool.and_true,Bool.and_eq_true] at h4
     obtain ⟨x,hx⟩:=Nv h4.1
     obtain ⟨y,hy⟩:=Nv h4.2
     have ea:[a,b]=[UInt8.ofNat (48+x.val),UInt8.ofNat (48+y.val)]:=PJ (by simp only [xH,List.map_cons,List.map_nil,RE,hx,hy])
     have ho:fY [48+(x.val:Int),48+(y.val:Int)]=true:=by simpa [xH,hx,hy] using h
     obtain ⟨p1,p2⟩:=bY x y ho
     rw [ea]
     exact fP (by have:=x.isLt;have:=y.isLt;omega) p1 p2
   · subst hl
     simp only [xH,List.map_cons,List.map_nil,List.all_cons,List.all_nil,Bool.and_true,Bool.and_eq_true] at h4
     obtain ⟨x,hx⟩:=Nv h4.1
     obtain ⟨y,hy⟩:=Nv h4.2.1
     obtain ⟨z,hz⟩:=Nv h4.2.2
     have ea:[a,b,c]=[UInt8.ofNat (48+x.val),UInt8.ofNat (48+y.val),UInt8.ofNat (48+z.val)]:=PJ (by simp only [xH,List.map_cons,List.map_nil,RE,hx,hy,hz])
     have ho:fY [48+(x.val:Int),48+(y.val:Int),48+(z.val:Int)]=true:=by simpa [xH,hx,hy,hz] using h
     obtain ⟨p0,p1,p2⟩:=cY x y z ho
     rw [ea]
     exact fP p0 p1 p2
   · exfalso
     subst hl
     simp only [xH,List.map_cons,List.length_cons,List.head?_cons,List.all_cons,Bool.and_eq_true] at h3 h4 h5
     have hne:(a.toNat:Int)≠48:=fun e=>by simp [e] at h3
     have ha:48≤(a.toNat:Int)∧(a.toNat:Int)≤57:=by simpa [wX] using h4.1
     simp only [iS] at h5
     have hd:=h4.2
     have hb:48≤(b.toNat:Int)∧(b.toNat:Int)≤57:=by simpa [wX] using hd.1
     have hc:48≤(c.toNat:Int)∧(c.toNat:Int)≤57:=by simpa [wX] using hd.2.1
     have hdd:48≤(d.toNat:Int)∧(d.toNat:Int)≤57:=by simpa [wX] using hd.2.2.1
     have:=(SP (List.map (fun c:UInt8=>(c.toNat:Int)) r) (10*(10*(10*(10*0+((a.toNat:Int) - 48))+((b.toNat:Int) - 48))+((c.toNat:Int) - 48))+((d.toNat:Int) - 48)) (by omega) hd.2.2.2).1
     omega
theorem FY {x:Int} (h1:0≤x) (h2:x<256):IntKind.wrap .u8 x=x:=by
 unfold IntKind.wrap
 simp only [IntKind.bits,IntKind.signed]
 simp
 omega
open Go
theorem pU:bs Dom.dot=[46]:=rfl
theorem VK (n:Nat) (s:BA) (hs:s.size≤1000000):qg n s Dom.dot=some (OX 46 (bs s)):=by
 unfold qg Dp Nt jp Gd se
 rw [Xg,pU]
 have e1:(Dom.dot.size:Int)=1:=rfl
 have e2:bt Dom.dot 0=46:=rfl
 rw [e1,e2]
 by_cases h:[46]=bs s
 · rw [←h];simp [OX]
 · have:=RO (c:=46) (by decide) (by decide) s.data.toList
   have h':decide ([46]=bs s)=false:=decide_eq_false h
   rw [h']
   simp
   exact this
theorem Ap (d:Int):∀ (l cur:List Int),Hb d cur l=if OX d l= -1 then [cur++l] else (cur++l.take (OX d l).toNat)::Hb d [] (l.drop ((OX d l).toNat+1))
 | [],cur=>by simp [Hb,OX]
 | c::l,cur=>by
  have ih:=Ap d l (cur++[c])
  have hge:=(Uj (c:=d) l).2
  by_cases h:c=d
  · have e:OX d (c::l)=0:=by simp [OX,h]
    simp [Hb,h,e]
    simp [OX]
  · by_cases h2:OX d l= -1
    · have e:OX d (c::l)= -1:=by simp [OX,h,h2]
      simp [Hb,h,e,ih,h2]
    · have e:OX d (c::l)=OX d l+1:=by simp [OX,h,h2]
      have e2:(OX d l+1).toNat=(OX d l).toNat+1:=by omega
      have e3:¬(OX d l+1= -1):=by omega
      simp only [Hb,h,e,ih,h2,e2,e3,if_false]
      simp
theorem vH (d:Int):∀ (l:List Int),OX d l<l.length∧(OX d l= -1→l.count d=0)∧(OX d l≠ -1→l.count d=(l.drop ((OX d l).toNat+1)).count d+1)
 | []=>by simp [OX]
 | c::l=>by
  have ih:=vH d l
  have hge:=(Uj (c:=d) l).2
  simp only [OX]
  by_cases h:c=d
  · first | (simp [h];done) | (simp [h];omega)
  · rw [if_neg h]
    have hc:(c==d)=false:=by simpa using h
    by_cases h2:OX d l= -1
    · have:=ih.2.1 h2
      simp [h2,List.count_cons,this,hc]
      omega
    · rw [if_neg h2]
      have e:(OX d l+1).toNat=(OX d l).toNat+1:=by omega
      have:=ih.2.2 h2
      refine ⟨by simp;omega,fun h=>by omega,fun _=>?_⟩
      rw [e,List.count_cons,this]
      simp [hc]
theorem nA (n:Nat) (N:Nat) (hN:N≤1000000):∀ (c i m:Nat) (s:BA) (a:Sq BA),s.size≤1000000→(bs s).count 46=c→i+c=N→a.n=N+1→c<m→
  ∃ s' a',Ra n m s Dom.dot 0 N i a=some (.out (s',(N:Int),a'))∧a'.n=N+1∧(∀ j,j<i→a'.at' j=a.at' j)∧
   ∃ P:List (List Int),Hb 46 [] (bs s)=P++[bs s']∧P.length=c∧∀ j w,P[j]?=some w→bs (a'.at' (i+j))=w
 | 0,i,m,s,a,hs,hc,hi,ha,hm=>by
  obtain ⟨m,rfl⟩:∃ q,m=q+1:=⟨m - 1,by omega⟩
  have hiN:i=N:=by omega
  subst hiN
  refine ⟨s,a,?_,ha,fun _ _=>rfl,[],?_,rfl,fun j w h=>by simp at h⟩
  · simp [Ra,pd]
  · have hx:OX 46 (bs s)= -1:=by
     have:=vH 46 (bs s)
     have hge:=(Uj (c:=46) (bs s)).2
     refine Classical.byContradiction fun h=>?_
     have:=this.2.2 h
     omega
    rw [Ap,if_pos hx];rfl
 | c+1,i,m,s,a,hs,hc,hi,ha,hm=>by
  obtain ⟨m,rfl⟩:∃ q,m=q+1:=⟨m - 1,by omega⟩
  have hlt:=vH 46 (bs s)
  have hge:=(Uj (c:=46) (bs s)).2
  have hx:OX 46 (bs s)≠ -1:=fun h=>by have:=hlt.2.1 h;omega
  obtain ⟨k,hk⟩:∃ k:Nat,OX 46 (bs s)=(k:Int):=⟨(OX 46 (bs s)).toNat,by omega⟩
  have hks:k<s.size:=by have:=hlt.1;rw [Fa] at this;omega
  have hcount:=hlt.2.2 hx
  rw [hk,Int.toNat_natCast,hc] at hcount
  have hbe:bs (s.extract (k+1) s.size)=(bs s).drop (k+1):=by
   rw [Si,←Fa,List.take_length]
  have hsz:(s.extract (k+1) s.size).size≤1000000:=by
   rw [←Fa,hbe,List.length_drop,Fa];omega
  obtain ⟨s',a',h1,h2,h3,P,h4,h5,h6⟩:=nA n N hN c (i+1) m (s.extract (k+1) s.size)
   (⟨a.n,fun q=>if q=i∧q<a.n then s.extract 0 k else a.at' q⟩:Sq BA) hsz (by rw [hbe];omega) (by omega) ha (by omega)
  refine ⟨s',a',?_,h2,fun j hj=>?_,(bs s).take k::P,?_,by simp [h5],fun j w hw=>?_⟩
  · have a1:(i:Int)<(N:Int):=by omega
    have a2:¬((k:Int)<0):=by omega
    have a3:(0:Int)≤(i:Int):=by omega
    have a4:(i:Int)<(a.n:Int):=by omega
    have a5:(0:Int)≤(k:Int):=by omega
    have a6:(k:Int)≤(s.size:Int):=by omega
    have e0:IntKind.wrap .i64 ((k:Int)+0)=(k:Int):=by rw [Int.add_zero];exact wr (by omega) (by omega)
    have e1:(Dom.dot.size:Int)=1:=rfl
    have e2:=EY (k:=k) (by omega)
    have e3:=EY (k:=i) (by omega)
    have a7:(0:Int)≤((k+1:Nat):Int):=by omega
    have a8:((k+1:Nat):Int)≤(s.size:Int):=by omega
    simp only [Ra,pd,VK n s hs,hk,a1,a2,a3,a4,a5,a6,e0,e1,e2,e3,a7,a8,Int.toNat_natCast]
    have e0':IntKind.wrap .i64 (k:Int)=(k:Int):=wr (by omega) (by omega)
    have e2':IntKind.wrap .i64 ((k:Int)+1)=(k:Int)+1:=e2
    have a7':(0:Int)≤(k:Int)+1:=by omega
    have a8':(k:Int)+1≤(s.size:Int):=by omega
    have e9:((k:Int)+1).toNat=k+1:=by omega
    simpa [a2,a3,a4,a5,a6,e0',e2',a7',a8',e9] using h1
  · rw [h3 j (by omega)]
    simp [show ¬j=i by omega]
  · rw [Ap,if_neg hx,hk,Int.toNat_natCast,←hbe,h4];simp
  · cases j with
    | zero=>
     simp at hw
     rw [Nat.add_zero,h3 i (by omega),←hw]
     simp only [show i<a.n by omega,and_self,if_true]
     rw [Si];simp
    | succ j=>
     have:=h6 j w (by simpa using hw)
     rwa [show i+(j+1)=i+1+j by omega]
theorem iR (n:Nat) (s:BA) (hs:s.size≤1000000) (hn:10000000≤n):∃ q,Ep n s (⟨#[46]⟩:BA)=some q∧uY bs q=Hb 46 [] (bs s):=by
 have hcl:(bs s).count 46≤s.size:=by rw [←Fa];exact List.count_le_length
 obtain ⟨c,hc⟩:∃ c,(bs s).count 46=c:=⟨_,rfl⟩
 rw [hc] at hcl
 have hcount:Bp n s Dom.dot=some (c:Int):=by
  unfold Bp Cp
  have e2:bt Dom.dot 0=46:=rfl
  have:=yQ (c:=46) (by decide) (by decide) s.data.toList
  rw [e2,this,show (Dom.dot.size:Int)=1 from rfl,←hc]
  rfl
 obtain ⟨s',a',h1,h2,h3,P,h4,h5,h6⟩:=nA n c (by omega) c 0 n s (⟨c+1,fun _=>(⟨#[]⟩:BA)⟩:Sq BA) hs hc (by omega) rfl (by omega)
 refine ⟨(⟨c+1,fun i=>(fun q=>if q=c∧q<a'.n then s' else a'.at' q) (0+i)⟩:Sq BA),?_,?_⟩
 · have e1:=EY (k:=s.size) (by omega)
   have e2:=EY (k:=c) (by omega)
   have hif:(if ((s.size+1:Nat):Int)<((c+1:Nat):Int) then ((s.size+1:Nat):Int) else ((c+1:Nat):Int))=((c+1:Nat):Int):=if_neg (by omega)
   have e3:IntKind.wrap .i64 (((c+1:Nat):Int) - 1)=(c:Int):=by rw [wr (by omega) (by omega)];omega
   have f1:=DV (n:=c) (by omega)
   have f0:(0:Int)≤((c+1:Nat):Int):=by omega
   have f2:(c:Int)<(a'.n:Int):=by omega
   have f3:((c+1:Nat):Int)≤(a'.n:Int):=by omega
   have f4:(0:Int)≤(c:Int):=by omega
   have hne:(decide (bs Dom.dot=bs (⟨#[]⟩:BA)))=false:=by decide
   unfold Ep Fp Ei Bh
   rw [show (⟨#[46]⟩:BA)=Dom.dot from rfl,Xg,hne,hcount]
   rw [show ((0:Nat):Int)=0 from rfl] at h1
   simp only [Option.bind_some,e1,e2,hif,e3,f1,f0,Int.toNat_natCast,h1,iY,f2,f3,f4]
   simp
 · unfold uY
   rw [List.range_succ,List.map_append,h4]
   congr 1
   · apply List.ext_getElem?
     intro j
     rw [List.getElem?_map]
     by_cases hj:j<c
     · rw [List.getElem?_range hj,List.getElem?_eq_getElem (by omega)]
       have:=h6 j _ (List.getElem?_eq_getElem (by omega))
       rw [Nat.zero_add] at this
       simp [show ¬j=c by omega,this]
     · rw [List.getElem?_eq_none (by simp;omega),List.getElem?_eq_none (by omega)];rfl
   · simp [show c<a'.n by omega]
theorem SR (n:Nat) (l:Sq BA) (hl:l.n≤2000000) (hs:∀ i,i<l.n→(l.at' i).size≤1000000):∀ (W:List (List Int)) (i m:Nat),(uY bs l).drop i=W→W.length<m→i≤l.n→
  fb n m l l l.n i=some (if W.all fY=true then .out l else .ret false)
 | [],i,m,h,hm,hi=>by
  obtain ⟨m,rfl⟩:∃ q,m=q+1:=⟨m - 1,by omega⟩
  have:=cB h
  have a4:¬((i:Int)<(l.n:Int)):=by omega
  simp [fb,Ud,a4]
 | w::W,i,m,h,hm,hi=>by
  obtain ⟨m,rfl⟩:∃ q,m=q+1:=⟨m - 1,by omega⟩
  obtain ⟨h1,h2,h3⟩:=Bu h
  have e1:=EY (k:=i) (by omega)
  have a1:(0:Int)≤(i:Int):=by omega
  have a2:(i:Int)<(l.n:Int):=by omega
  have ih:=SR n l hl hs W (i+1) m h3 (by simpa using hm) (by omega)
  have hw:=DU (l.at' i).data.toList
  rw [show xH (l.at' i).data.toList=w from h2] at hw
  have hsz:(l.at' i).size≤281474976710656:=by have:=hs i h1;omega
  simp only [fb,Ud,a1,a2,Int.toNat_natCast,e1,List.all_cons,←hw,kQ,hsz]
  unfold eY
  rcases hv:Lib.atoiAll (l.at' i).data.toList with v | _ | _
  · have hb:=Lib.atoiAll_bounds hv
    by_cases g0:v<0
    · have:¬(0≤v):=by omega
      simp [g0,this]
    · by_cases g1:v>255
      · have:¬(v≤255):=by omega
        simp [g0,g1,this]
      · have q0:0≤v:=by omega
        have q1:v≤255:=by omega
        have q2: -9223372036854775808≤v∧v≤9223372036854775807:=⟨by omega,by omega⟩
        have hb:bs (⟨(Lib.itoa v).toArray⟩:BA)=xH (Lib.itoa v):=rfl
        have hdp:bs (⟨(Lib.itoa v).toArray⟩:BA)=bs (l.at' i)↔Lib.itoa v=(l.at' i).data.toList:=⟨fun h=>ez h,fun h=>by rw [hb,h];rfl⟩
        have hd:decide (bs (⟨(Lib.itoa v).toArray⟩:BA)=bs (l.at' i))=decide (Lib.itoa v=(l.at' i).data.toList):=decide_eq_decide.2 hdp
        simp only [g0,g1,q0,q1,TO,q2,Xg,hd]
        by_cases hi:Lib.itoa v=(l.at' i).data.toList
        · simpa [hi,q0,q1,q2.1,q2.2] using ih
        · have:¬bs (⟨(Lib.itoa v).toArray⟩:BA)=bs (l.at' i):=fun h=>hi (hdp.1 h)
          simp [hi,q0,q1,q2.1,q2.2,this]
  · simp
  · simp
def RR (l:List Int):Bool:=(Hb 46 [] l).all fY&&decide ((Hb 46 [] l).length=4)
theorem XM (n:Nat) (s:BA) (hs:s.size≤1000000) (hn:10000000≤n):Mf n s=some (RR (bs s)):=by
 obtain ⟨q,h1,h2⟩:=iR n s hs hn
 obtain ⟨h3,h4⟩:=pK h2
 have h:=SR n q (by omega) (fun i hi=>Nat.le_trans (h4 i hi) hs) _ 0 n rfl (by rw [List.drop_zero,Me];omega) (by omega)
 rw [show ((0:Nat):Int)=0 from rfl,List.drop_zero,h2] at h
 unfold Mf Qi RR
 rw [h1,Option.bind_some,h,Option.bind_some,←h2,Me]
 cases (uY bs q).all fY
 · rfl
 · by_cases h4:q.n=4
   · simp [iY,h4]
   · have:¬((q.n:Int)=4):=by omega
     simp [iY,h4,this]
open Go
def MC (l:List Int):List Int:=(l.take (l.length - 1)).drop 1
def OV (l:List Int):Bool:=decide (2≤l.length)&&decide (l.head?=some 91)&&decide (l.getLast?=some 93)&&RR (MC l)
theorem nQ (s:BA):bs (s.extract 1 (s.size - 1))=MC (bs s):=by rw [Si,MC,Fa]
theorem Pl (s:BA) (i j:Nat):(s.extract i j).size≤s.size:=by
 rw [←Fa,←Fa,Si,List.length_drop,List.length_take];omega
theorem sS {s:BA} (h:0<s.size):∃ c,(bs s).getLast?=some c∧bt s ((s.size - 1:Nat):Int)=c:=by
 obtain ⟨c,hc⟩:∃ c,(bs s)[s.size - 1]?=some c:=⟨_,List.getElem?_eq_getElem (by rw [Fa];omega)⟩
 exact ⟨c,by rw [List.getLast?_eq_getElem?,Fa];exact hc,tS hc⟩
theorem GY {k:Nat} (h0:0<k) (h:k<4611686018427387904):IntKind.wrap .i64 ((k:Int) - 1)=((k - 1:Nat):Int):=by
 rw [wr (by omega) (by omega)];omega
def TX (c:Int):Bool:=tY c || decide (c=45)
def SN (w:List Int):Bool:=decide (1≤w.length)&&decide (w.length≤63)&&decide (w.head?≠some 45)&&decide (w.getLast?≠some 45)&&w.all TX
def ME (l:List Int):Bool:=decide (l.length≤255)&&(OV l || (Hb 46 [] l).all SN)
def SX (L:Nat):Nat→List Int→Bool
 | _,[]=>true
 | i,c::r=>if tY c=true then SX L (i+1) r else if c≠45 then false else if i=0 then false else if i=L - 1 then false else SX L (i+1) r
theorem xL (n:Nat) (s:BA) (hs:s.size≤1000000):∀ (r:List Int) (k m:Nat),(bs s).drop k=r→k≤s.size→r.length<m→Lb n m s s.size k=some (if SX s.size k r=true then .out s else .ret false)
 | [],k,m,h,hk,hm=>by
  obtain ⟨m,rfl⟩:∃ q,m=q+1:=⟨m - 1,by omega⟩
  have:=Zw h
  simp [Lb,Lf,this,SX]
 | c::r,k,m,h,hk,hm=>by
  obtain ⟨m,rfl⟩:∃ q,m=q+1:=⟨m - 1,by omega⟩
  obtain ⟨h1,h2,h3,h4,h5⟩:=Fl h
  have e1:=EY (k:=k) (by omega)
  have e2:=GY (k:=s.size) (by omega) (by omega)
  have a3:(0:Int)≤(k:Int):=by omega
  have ih:=xL n s hs r (k+1) m h3 (by omega) (by simpa using hm)
  simp only [Lb,Lf,h1,h2,a3,e1,e2,wP,Option.bind_some,SX]
  by_cases g1:tY c=true
  · simpa [g1] using ih
  · by_cases g2:c=45
    · have h45:tY 45=false:=by decide
      by_cases g3:k=0
      · subst g3;simp [g1,g2,h45]
      · have x3:((k:Int)==0)=false:=by simpa using g3
        by_cases g4:k=s.size - 1
        · have:((k:Int)==((s.size - 1:Nat):Int))=true:=by rw [g4];simp
          simp [g1,g2,g3,x3,this,←g4,h45]
        · have:((k:Int)==((s.size - 1:Nat):Int))=false:=by simp only [beq_eq_false_iff_ne];omega
          simpa [g1,g2,g3,g4,x3,this,h45] using ih
    · have:(c !=45)=true:=by simpa using g2
      simp [g1,g2,this]
theorem PR:∀ (r:List Int) (i L:Nat),i+r.length=L→SX L i r=(r.all TX&&decide (i=0→r.head?≠some 45)&&decide (r.getLast?≠some 45))
 | [],i,L,h=>by simp [SX]
 | c::r,i,L,h=>by
  simp only [List.length_cons] at h
  have ih:=PR r (i+1) L (by omega)
  have hlast:(c::r).getLast?=if r=[] then some c else r.getLast?:=by
   cases r with
   | nil=>rfl
   | cons d r=>simp [List.getLast?_cons_cons]
  simp only [SX,List.all_cons,List.head?_cons,hlast]
  have h45:tY 45=false:=by decide
  by_cases g2:c=45
  · subst g2
    simp only [h45,TX]
    by_cases g3:i=0
    · subst g3;simp
    · by_cases g4:r=[]
      · subst g4
        have:i=L - 1:=by simp at h;omega
        simp [g3,←this]
      · have:¬i=L - 1:=by
         have:0<r.length:=List.length_pos_iff.2 g4
         omega
        simp [g3,g4,this,ih]
  · by_cases g1:tY c=true
    · by_cases g4:r=[]
      · subst g4;simp [g1,g2,TX,SX]
      · simp [g1,g2,g4,TX,ih]
    · simp [g1,g2,TX]
theorem yL (n:Nat) (s:BA) (hs:s.size≤1000000) (hn:10000000≤n):Pi n s=some (SN (bs s)):=by
 have hL:=xL n s hs (bs s) 0 n (by simp) (by omega) (by rw [Fa];omega)
 rw [show ((0:Nat):Int)=0 from rfl] at hL
 have hx:SN (bs s)=(decide (1≤s.size)&&decide (s.size≤63)&&SX s.size 0 (bs s)):=by
  rw [PR (bs s) 0 s.size (by rw [Fa];omega)]
  unfold SN
  rw [Fa]
  by_cases g4:(bs s).head?=some 45<;>by_cases g5:(bs s).getLast?=some 45<;>cases decide (1≤s.size)<;>cases decide (s.size≤63)<;>cases (bs s).all TX<;>simp [g4,g5]
 unfold Pi Ro
 rw [hL,hx]
 have e1:(decide ((s.size:Int)≥1))=decide (1≤s.size):=by rw [decide_eq_decide];omega
 have e2:(decide ((s.size:Int)≤63))=decide (s.size≤63):=by rw [decide_eq_decide];omega
 cases hb:SX s.size 0 (bs s)
 · simp [iY]
 · simp only [if_true,Option.bind_some,iY,e1,e2]
   cases decide (1≤s.size)<;>simp
open Go
theorem aG (n:Nat) (s p:BA):rb n s p=some (decide ((bs s).take p.size=bs p)):=by
 unfold rb ve Bc gg
 by_cases h:p.size≤s.size
 · have a1:(s.size:Int)≥(p.size:Int):=by omega
   have a2:(0:Int)≤(p.size:Int):=by omega
   have a3:(p.size:Int)≤(s.size:Int):=by omega
   simp only [a1,a2,a3,Xg,Int.toNat_natCast,Si]
   simp
 · have a1:¬((s.size:Int)≥(p.size:Int)):=by omega
   have:¬(bs s).take p.size=bs p:=fun e=>by
    have:=congrArg List.length e
    rw [List.length_take,Fa,Fa] at this
    omega
   simp [a1,this]
theorem mR {l:List Int} {c:Int}:l.take 1=[c]↔l.head?=some c:=by cases l<;>simp
theorem bf (n:Nat) (s p:BA) {c:Int} (hp:bs p=[c]):rb n s p=some (decide ((bs s).head?=some c)):=by
 have h1:p.size=1:=by rw [←Fa,hp];rfl
 rw [aG,h1,hp]
 congr 1
 rw [decide_eq_decide]
 exact mR
theorem bE (n:Nat) (s p:BA) (hs:s.size≤1000000) {c:Int} (hp:bs p=[c]):Fc n s p=some (decide ((bs s).getLast?=some c)):=by
 have h1:p.size=1:=by rw [←Fa,hp];rfl
 unfold Fc pg wg ig
 by_cases h:1≤s.size
 · have e1:=GY (k:=s.size) (by omega) (by omega)
   have a1:(s.size:Int)≥((1:Nat):Int):=by omega
   have a2:(0:Int)≤((s.size - 1:Nat):Int):=by omega
   have a3:((s.size - 1:Nat):Int)≤(s.size:Int):=by omega
   obtain ⟨d,hd,_⟩:=sS (s:=s) (by omega)
   have hx:((bs s).take s.size).drop (s.size - 1)=[d]:=by
    rw [show (bs s).take s.size=bs s by rw [←Fa,List.take_length]]
    have hl:s.size - 1<(bs s).length:=by rw [Fa];omega
    rw [List.drop_eq_getElem_cons hl]
    rw [List.getLast?_eq_getElem?,Fa,List.getElem?_eq_getElem hl] at hd
    rw [Option.some.inj hd,List.drop_eq_nil_of_le (by rw [Fa];omega)]
   rw [h1] at*
   rw [show ((1:Nat):Int)=1 from rfl] at*
   simp only [a1,e1,a2,a3,Xg,Int.toNat_natCast,Si,hx,hp,hd]
   simp
 · have a1:¬((s.size:Int)≥((1:Nat):Int)):=by omega
   have:(bs s)=[]:=by
    apply List.eq_nil_of_length_eq_zero
    rw [Fa];omega
   rw [h1]
   simp only [a1,this]
   simp
theorem DO (n:Nat) (hn:10000000≤n):∀ (m:Nat) (s:BA),s.size≤1000000→s.size<m→Dom.domL (fun x=>qg n x Dom.dot) (Pi n) m s=some ((Hb 46 [] (bs s)).all SN)
 | 0,s,hs,hm=>absurd hm (Nat.not_lt_zero _)
 | m+1,s,hs,hm=>by
  have hlt:=vH 46 (bs s)
  have hge:=(Uj (c:=46) (bs s)).2
  rw [Dom.domL]
  simp only [VK n s hs,Option.bind_some]
  rw [Ap]
  by_cases hx:OX 46 (bs s)= -1
  · rw [if_pos hx,hx,if_pos (by decide),yL n s hs hn]
    simp
  · obtain ⟨k,hk⟩:∃ k:Nat,OX 46 (bs s)=(k:Int):=⟨(OX 46 (bs s)).toNat,by omega⟩
    have hks:k<s.size:=by have:=hlt.1;rw [Fa] at this;omega
    have hbe:bs (s.extract (k+1) s.size)=(bs s).drop (k+1):=by rw [Si,←Fa,List.take_length]
    have hb0:bs (s.extract 0 k)=(bs s).take k:=by rw [Si];rfl
    have ih:=DO n hn m (s.extract (k+1) s.size) (Nat.le_trans (Pl _ _ _) hs) (by rw [←Fa,hbe,List.length_drop,Fa];omega)
    rw [if_neg hx,hk,if_neg (by omega),if_pos ⟨by omega,by omega⟩,Int.toNat_natCast,yL n _ (Nat.le_trans (Pl _ _ _) hs) hn,Option.bind_some,ih,hb0,hbe]
    simp only [List.nil_append,List.all_cons]
    cases SN ((bs s).take k)<;>simp
def DS (l:List Int):Bool:=if l.head?=some 91 then decide (l.getLast?=some 93)&&RR (MC l) else (Hb 46 [] l).all SN&&decide (l.length≤255)
theorem cG (n:Nat) (s:BA):Ac n s=some (decide ((bs s).head?=some 91)):=by
 unfold Ac cg
 rw [bf n s _ (c:=91) rfl];rfl
theorem oz (n:Nat) (s:BA) (hs:s.size≤1000000) (hn:10000000≤n):wb n s=some (DS (bs s)):=by
 unfold wb DS
 rw [cG,Option.bind_some]
 by_cases h:(bs s).head?=some 91
 · rw [if_pos (by simpa using h),if_pos h,bE n s _ hs (c:=93) rfl,Option.bind_some]
   by_cases h2:(bs s).getLast?=some 93
   · have hsz:2≤s.size:=by
      rw [←Fa]
      cases hb:bs s with
      | nil=>rw [hb] at h;cases h
      | cons c r=>cases r with
       | nil=>rw [hb] at h h2;simp at h h2;omega
       | cons d r=>simp
     rw [if_pos (by simpa using h2),if_pos ⟨by omega,by omega⟩,XM n _ (Nat.le_trans (Pl _ _ _) hs) hn,nQ]
     simp [h2]
   · rw [if_neg (by simpa using h2)];simp [h2]
 · rw [if_neg (by simpa using h),if_neg h]
   unfold Dom.domT
   rw [DO n hn n s hs (by omega),Option.bind_some]
   have e:(decide ((s.size:Int)≤255))=decide ((bs s).length≤255):=by rw [Fa,decide_eq_decide];omega
   rw [e]
   cases (Hb 46 [] (bs s)).all SN<;>simp
theorem eT {w:List Int} (h:fY w=true):w.length≤16:=by
 unfold fY at h
 simp only [Bool.and_eq_true,decide_eq_true_eq] at h
 exact h.1.1.1.2
theorem ww (d:Int):∀ (r cur:List Int),cur.length+r.length+1=((Hb d cur r).map fun w=>w.length+1).sum
 | [],cur=>by simp [Hb]
 | c::r,cur=>by
  simp only [Hb]
  split
  · have:=ww d r []
    simp at this ⊢;omega
  · have:=ww d r (cur++[c])
    simp at this ⊢;omega
theorem JQ {l:List Int} (h:RR l=true):l.length≤100:=by
 unfold RR at h
 simp only [Bool.and_eq_true,decide_eq_true_eq,List.all_eq_true] at h
 have hs:=ww 46 l []
 obtain ⟨h1,h2⟩:=h
 have key:∀ W:List (List Int),(∀ w∈W,w.length≤16)→(W.map fun w=>w.length+1).sum≤17*W.length:=fun W=>by
  induction W with
  | nil=>intro _;simp
  | cons w W ih=>
   intro hw
   have a:=hw w List.mem_cons_self
   have b:=ih fun x hx=>hw x (List.mem_cons_of_mem _ hx)
   simp only [List.map_cons,List.sum_cons,List.length_cons];omega
 have:=key _ fun w hw=>eT (h1 w hw)
 simp at hs
 omega
theorem TS {w:List Int} (h:w.head?=some 91):SN w=false:=by
 cases w with
 | nil=>cases h
 | cons c r=>
  simp at h;subst h
  have:TX 91=false:=by decide
  simp [SN,this]
theorem ZA (d:Int):∀ (r cur:List Int),cur≠[]→∃ w W,Hb d cur r=w::W∧w.head?=cur.head?
 | [],cur,h=>⟨cur,[],rfl,rfl⟩
 | c::r,cur,h=>by
  simp only [Hb]
  split
  · exact ⟨cur,_,rfl,rfl⟩
  · obtain ⟨w,W,h1,h2⟩:=ZA d r (cur++[c]) (by simp)
    refine ⟨w,W,h1,h2.trans ?_⟩
    cases cur with
    | nil=>exact absurd rfl h
    | cons x xs=>rfl
theorem NE (l:List Int):DS l=ME l:=by
 unfold DS ME OV
 by_cases h:l.head?=some 91
 · rw [if_pos h]
   have hsp:(Hb 46 [] l).all SN=false:=by
    cases l with
    | nil=>cases h
    | cons c r=>
     simp at h;subst h
     simp only [Hb]
     rw [if_neg (by decide)]
     obtain ⟨w,W,h1,h2⟩:=ZA 46 r ([]++[91]) (by simp)
     rw [h1,List.all_cons,TS (by rw [h2];rfl)];rfl
   rw [hsp]
   by_cases h2:l.getLast?=some 93
   · have hl:2≤l.length:=by
      cases l with
      | nil=>cases h
      | cons c r=>cases r with
       | nil=>simp at h h2;omega
       | cons d r=>simp
     cases hp:RR (MC l) with
     | false=>simp [h2]
     | true=>
      have:=JQ hp
      have hle:l.length≤255:=by
       unfold MC at this
       rw [List.length_drop,List.length_take] at this
       omega
      simp [h,h2,hl,hle]
   · simp [h2]
 · rw [if_neg h]
   simp [h,Bool.and_comm]
/-! Small letters. -/
def VX (c:Int):Int:=if 65≤c∧c≤90 then c+32 else c
theorem YV (s:BA):uY id (⟨s.size,fun q=>bt s q⟩:Sq Int)=bs s:=by
 apply List.ext_getElem?
 intro j
 unfold uY
 rw [List.getElem?_map]
 by_cases h:j<s.size
 · rw [List.getElem?_range h]
   obtain ⟨c,hc⟩:∃ c,(bs s)[j]?=some c:=⟨_,List.getElem?_eq_getElem (by rw [Fa];exact h)⟩
   rw [hc]
   simp [tS hc]
 · rw [List.getElem?_eq_none (by simp;omega),List.getElem?_eq_none (by rw [Fa];omega)];rfl
theorem sT {b:Sq Int} {k:Nat} {v:Int}:uY id (⟨b.n,fun q=>if q=k∧q<b.n then v else b.at' q⟩:Sq Int)=(uY id b).set k v:=by
 apply List.ext_getElem?
 intro j
 unfold uY
 rw [List.getElem?_map,List.getElem?_set]
 by_cases h:j<b.n
 · rw [List.getElem?_range h]
   by_cases hk:k=j
   · subst hk;simp [h]
   · have:¬j=k:=fun e=>hk e.symm
     simp [hk,this,h]
 · rw [List.getElem?_eq_none (by simp;omega)]
   by_cases hk:k=j
   · subst hk;simp [h]
   · simp [hk,h]
theorem zF (n:Nat) (t:Nat) (ht:t≤1000000):∀ (r P:List Int) (m:Nat) (b:Sq Int),uY id b=P++r→b.n=t→(∀ c∈P++r,0≤c∧c<256)→r.length<m→
  ∃ b',ib n m t P.length b=some (.out b')∧uY id b'=P++r.map VX∧b'.n=t
 | [],P,m,b,hb,hbn,hr,hm=>by
  obtain ⟨m,rfl⟩:∃ q,m=q+1:=⟨m - 1,by omega⟩
  have hl:=Me id b
  rw [hb,List.append_nil,hbn] at hl
  refine ⟨b,?_,by simpa using hb,hbn⟩
  have:¬((P.length:Int)<(t:Int)):=by omega
  simp [ib,zd,this]
 | c::r,P,m,b,hb,hbn,hr,hm=>by
  obtain ⟨m,rfl⟩:∃ q,m=q+1:=⟨m - 1,by omega⟩
  have hl:=Me id b
  rw [hb,hbn] at hl
  simp at hl
  have hat:b.at' P.length=c:=by
   have h1:=aB (f:=id) (q:=b) (i:=P.length) (by omega)
   rw [hb,List.getElem?_append_right (Nat.le_refl _),Nat.sub_self] at h1
   simpa using h1.symm
  have hc:=hr c (by simp)
  have e1:=EY (k:=P.length) (by omega)
  have a1:(P.length:Int)<(t:Int):=by omega
  have a2:(0:Int)≤(P.length:Int):=by omega
  have a3:(P.length:Int)<(b.n:Int):=by omega
  by_cases hlow:65≤c∧c≤90
  · have w1:=FY (x:=c+97) (by omega) (by omega)
    have w2:=FY (x:=c+97 - 65) (by omega) (by omega)
    obtain ⟨b',h1,h2,h3⟩:=zF n t ht r (P++[c+32]) m (⟨b.n,fun q=>if q=P.length∧q<b.n then c+97 - 65 else b.at' q⟩:Sq Int)
     (by rw [sT,hb,List.set_append_right _ _ (Nat.le_refl _),Nat.sub_self,show c+97 - 65=c+32 by omega];simp) hbn
     (fun x hx=>by
      simp only [List.append_assoc,List.mem_append,List.mem_cons,List.mem_nil_iff,or_false,false_or,List.cons_append,List.nil_append] at hx
      rcases hx with h | h | h
      · exact hr x (by simp [h])
      · omega
      · exact hr x (by simp [h])) (by simpa using hm)
    refine ⟨b',?_,by rw [h2];simp [VX,hlow],h3⟩
    have b1:c≥65:=hlow.1
    simp only [ib,zd,a1,a2,a3,Int.toNat_natCast,hat,e1,w1,w2,b1,hlow.2]
    simpa using h1
  · obtain ⟨b',h1,h2,h3⟩:=zF n t ht r (P++[c]) m b (by rw [hb];simp) hbn (fun x hx=>hr x (by simpa using hx)) (by simpa using hm)
    refine ⟨b',?_,by rw [h2];simp [VX,hlow],h3⟩
    have h1':ib n m t ((P.length+1:Nat):Int) b=some (.out b'):=by simpa using h1
    by_cases b1:c≥65
    · have b2:¬c≤90:=fun h=>hlow ⟨b1,h⟩
      simp only [ib,zd,a1,a2,a3,Int.toNat_natCast,hat,e1,b1,b2]
      simpa using h1'
    · simp only [ib,zd,a1,a2,a3,Int.toNat_natCast,hat,e1,b1]
      simpa using h1'
theorem XS {c:Int} (h:0≤c∧c<256):0≤VX c∧VX c<256:=by unfold VX;split<;>omega
theorem gR (n:Nat) (s:BA) (hs:s.size≤1000000) (hn:10000000≤n):∃ t,mh n s=some t∧bs t=(bs s).map VX:=by
 obtain ⟨b',h1,h2,h3⟩:=zF n s.size hs (bs s) [] n (⟨s.size,fun q=>bt s q⟩:Sq Int) (YV s) rfl (fun c hc=>jO (by simpa using hc)) (by rw [Fa];omega)
 refine ⟨dl b'.n b'.at',?_,?_⟩
 · unfold mh Wo
   rw [show (([]:List Int).length:Int)=0 from rfl] at h1
   rw [h1];rfl
 · rw [bL fun i hi=>?_]
   · have:uY id b'=(List.range b'.n).map b'.at':=rfl
     rw [←this,h2];rfl
   · have:=aB (f:=id) (q:=b') hi
     rw [h2] at this
     have hm:=List.mem_of_getElem? this
     simp only [List.nil_append,List.mem_map] at hm
     obtain ⟨c,hc,e⟩:=hm
     have:=XS (jO hc)
     rw [e] at this
     exact this
open Go
def AX:List Int→List Int
 | []=>[]
 | c::r=>if c=34∨c=92 then 92::c::AX r else c::AX r
def gY (c:Int):Bool:=decide (32≤c)&&decide (c≤126)
def qd:List Int→Option (List Int×List Int)
 | []=>none
 | c::r=>if c=34 then some ([],r) else if c=92 then (match r with
   | []=>none
   | d::r'=>if gY d=true then (qd r').map fun x=>(d::x.1,x.2) else none)
  else if gY c=true then (qd r).map fun x=>(c::x.1,x.2) else none
theorem Pf (c:Int) (r:List Int):qd (c::r)=if c=34 then some ([],r) else if c=92 then (match r with
   | []=>none
   | d::r'=>if gY d=true then (qd r').map fun x=>(d::x.1,x.2) else none)
  else if gY c=true then (qd r).map fun x=>(c::x.1,x.2) else none:=by
 conv=>lhs;unfold qd
theorem HO:∀ l:List Int,(AX l).length≤2*l.length
 | []=>by simp [AX]
 | c::r=>by
  have:=HO r
  simp only [AX]
  split<;>simp<;>omega
theorem Rl (n:Nat) (b:Bool):Wa n b=some (if b=true then .ok () else .error 8):=by
 unfold Wa Ks
 cases b<;>rfl
theorem jG (n:Nat) (c:Int) (r1:Sq Int) (h:r1.n≤4000000):∃ r2,Ja n c r1=some (r2,())∧uY id r2=uY id r1++[c]∧r2.n=r1.n+1:=by
 refine ⟨_,?_,UL id r1 c (ua (.int .u8)),rfl⟩
 unfold Ja ae wc be
 rw [Option.bind_some,if_pos (EV h)]
theorem ZN (n:Nat) (c:Int):∃ r2,Va n c=some (r2,())∧uY id r2=[c]∧r2.n=1:=by
 refine ⟨_,rfl,?_,rfl⟩
 show [_]=[c]
 rfl
theorem XN (n:Nat) (r1:Sq Int) (h:r1.n≤4000000) (hr:∀ c∈uY id r1,0≤c∧c<256):∃ t,Ec n r1=some (t,())∧bs t=uY id r1:=by
 refine ⟨dl r1.n r1.at',?_,?_⟩
 · unfold Ec og
   rw [if_pos ⟨rfl,by omega⟩]
 · exact bL (f:=r1.at') fun i hi=>hr _ (List.mem_of_getElem? (aB (f:=id) hi))
theorem map_none {α β:Type} {f:α→β} {x:Option α} (h:x.map f=none):x=none:=by cases x with
 | none=>rfl
 | some _=>cases h
theorem Vt (n:Nat) (s:BA) (hs:s.size≤1000000):∀ (N:Nat) (r:List Int) (k m:Nat) (r1:Sq Int),r.length≤N→(bs s).drop k=r→k≤s.size→r1.n≤k→(∀ c∈uY id r1,0≤c∧c<256)→r.length<m→
  match qd r with
  | none=>Ba n m s k r1=some (.pan 8)
  | some (mean,rest)=>∃ t1 t2,Ba n m s k r1=some (.ret (t1,t2))∧bs t1=uY id r1++mean∧bs t2=rest
 | N,[],k,m,r1,hN,h,hk,hr1,hb,hm=>by
  obtain ⟨m,rfl⟩:∃ q,m=q+1:=⟨m - 1,by omega⟩
  have:=Zw h
  simp only [qd]
  simp [Ba,Za,this,Rl,jY]
 | 0,c::r,k,m,r1,hN,_,_,_,_,_=>by simp at hN
 | N+1,c::r,k,m,r1,hN,h,hk,hr1,hb,hm=>by
  obtain ⟨m,rfl⟩:∃ q,m=q+1:=⟨m - 1,by omega⟩
  obtain ⟨h1,h2,h3,h4,h5⟩:=Fl h
  have e1:=EY (k:=k) (by omega)
  have a1:(0:Int)≤(k:Int):=by omega
  have a2:(0:Int)≤((k+1:Nat):Int):=by omega
  have a3:((k+1:Nat):Int)≤(s.size:Int):=by omega
  have hm':(Wa n true)=some (.ok ()):=Rl n true
  have hm2:(Wa n false)=some (.error 8):=Rl n false
  have hd1:decide ((k:Int)<(s.size:Int))=true:=decide_eq_true h1
  by_cases g1:c=34
  · subst g1
    obtain ⟨t,ht,htb⟩:=XN n r1 (by omega) hb
    have hq:qd (34::r)=some ([],r):=by rw [Pf];rfl
    rw [hq]
    refine ⟨t,s.extract (k+1) s.size,?_,by rw [htb,List.append_nil],by rw [Si,show (bs s).take s.size=bs s by rw [←Fa,List.take_length]];exact h3⟩
    simp only [Ba,Za,hd1,decide_true,decide_false,hm',h1,h2,a1,e1,a2,a3,ht,Option.bind_some,jY,Int.toNat_natCast]
    simp
  · have g1':(c==34)=false:=by simpa using g1
    by_cases g2:c=92
    · subst g2
      cases r with
      | nil=>
       have hq:qd [92]=none:=by rw [Pf];rfl
       rw [hq]
       have hn:=Zw h3
       have hd2:decide (((k+1:Nat):Int)<(s.size:Int))=false:=decide_eq_false hn
       simp only [Ba,Za,hd1,decide_true,decide_false,hm',h1,h2,a1,e1,hd2,hm2,Option.bind_some,jY]
       simp
      | cons d r=>
       obtain ⟨i1,i2,i3,i4,i5⟩:=Fl h3
       have e2:=EY (k:=k+1) (by omega)
       have hd2:decide (((k+1:Nat):Int)<(s.size:Int))=true:=decide_eq_true i1
       have hq:qd (92::d::r)=if gY d=true then (qd r).map fun x=>(d::x.1,x.2) else none:=by rw [Pf];rfl
       rw [hq]
       by_cases g3:gY d=true
       · have hdd:32≤d∧d≤126:=by simpa [gY] using g3
         obtain ⟨r2,w1,w2,w3⟩:=jG n d r1 (by omega)
         have ih:=Vt n s hs N r (k+2) m r2 (by simp at hN;omega) (by rw [←i3]) (by omega) (by omega) (fun x hx=>by
          rw [w2] at hx
          rcases List.mem_append.1 hx with hx | hx
          · exact hb x hx
          · simp at hx;subst hx;omega) (by simp at hm;omega)
         have b1:decide (d≥32)=true:=decide_eq_true hdd.1
         have b2:decide (d≤126)=true:=decide_eq_true hdd.2
         have hstep:Ba n (m+1) s k r1=Ba n m s ((k+1+1:Nat):Int) r2:=by
          simp only [Ba,Za,hd1,decide_true,decide_false,hm',h1,h2,a1,e1,hd2,i1,i2,a2,b1,b2,w1,e2,Option.bind_some,jY]
          simp
         rw [hstep,if_pos g3]
         cases hqr:qd r with
         | none=>rw [hqr] at ih;exact ih
         | some x=>
          rw [hqr] at ih
          obtain ⟨t1,t2,j1,j2,j3⟩:=ih
          exact ⟨t1,t2,j1,by rw [j2,w2];simp,j3⟩
       · rw [if_neg g3]
         by_cases b1:d≥32
         · have b2:¬d≤126:=fun hb=>g3 (by simp [gY];omega)
           have b1':decide (d≥32)=true:=decide_eq_true b1
           have b2':decide (d≤126)=false:=decide_eq_false b2
           simp only [Ba,Za,hd1,decide_true,decide_false,hm',h1,h2,a1,e1,hd2,i1,i2,a2,b1',b2',hm2,Option.bind_some,jY]
           simp
         · have b1':decide (d≥32)=false:=decide_eq_false b1
           simp only [Ba,Za,hd1,decide_true,decide_false,hm',h1,h2,a1,e1,hd2,i1,i2,a2,b1',hm2,Option.bind_some,jY]
           simp
    · have g2':(c==92)=false:=by simpa using g2
      have hq:qd (c::r)=if gY c=true then (qd r).map fun x=>(c::x.1,x.2) else none:=by rw [Pf,if_neg g1,if_neg g2]
      rw [hq]
      by_cases g3:gY c=true
      · have hdd:32≤c∧c≤126:=by simpa [gY] using g3
        obtain ⟨r2,w1,w2,w3⟩:=jG n c r1 (by omega)
        have ih:=Vt n s hs N r (k+1) m r2 (by simp at hN;omega) h3 (by omega) (by omega) (fun x hx=>by
         rw [w2] at hx
         rcases List.mem_append.1 hx with hx | hx
         · exact hb x hx
         · simp at hx;subst hx;omega) (by simp at hm;omega)
        have b1:decide (c≥32)=true:=decide_eq_true hdd.1
        have b2:decide (c≤126)=true:=decide_eq_true hdd.2
        have hstep:Ba n (m+1) s k r1=Ba n m s ((k+1:Nat):Int) r2:=by
         simp only [Ba,Za,hd1,decide_true,decide_false,hm',h1,h2,a1,e1,g1',g2',b1,b2,w1,Option.bind_some,jY]
         simp
        rw [hstep,if_pos g3]
        cases hqr:qd r with
        | none=>rw [hqr] at ih;exact ih
        | some x=>
         rw [hqr] at ih
         obtain ⟨t1,t2,j1,j2,j3⟩:=ih
         exact ⟨t1,t2,j1,by rw [j2,w2];simp,j3⟩
      · rw [if_neg g3]
        by_cases b1:c≥32
        · have b2:¬c≤126:=fun hb=>g3 (by simp [gY];omega)
          have b1':decide (c≥32)=true:=decide_eq_true b1
          have b2':decide (c≤126)=false:=decide_eq_false b2
          simp only [Ba,Za,hd1,decide_true,decide_false,hm',h1,h2,a1,e1,g1',g2',b1',b2',hm2,Option.bind_some,jY]
          simp
        · have b1':decide (c≥32)=false:=decide_eq_false b1
          simp only [Ba,Za,hd1,decide_true,decide_false,hm',h1,h2,a1,e1,g1',g2',b1',hm2,Option.bind_some,jY]
          simp
open Go
theorem oP (n:Nat) (s:BA) (hs:s.size≤1000000) (hn:10000000≤n):match qd ((bs s).drop 1) with
  | none=>Ob n s=some (.error 8)
  | some (mean,rest)=>∃ t1 t2,Ob n s=some (.ok (t1,t2,()))∧bs t1=mean∧bs t2=rest:=by
 have hm':(Wa n true)=some (.ok ()):=Rl n true
 have hm2:(Wa n false)=some (.error 8):=Rl n false
 have w2:IntKind.wrap .i64 ((1:Int)+(1:Int))=((2:Nat):Int):=EY (k:=1) (by decide)
 have w3:IntKind.wrap .i64 (((2:Nat):Int)+(1:Int))=((3:Nat):Int):=EY (k:=2) (by decide)
 have a0:(0:Int)≤1:=by decide
 have a2:(0:Int)≤((2:Nat):Int):=by decide
 cases h:(bs s).drop 1 with
 | nil=>
  have hk:¬((1:Int)<(s.size:Int)):=Zw (k:=1) h
  rw [show qd []=none from rfl]
  unfold Ob cc
  simp only [hk,decide_false,hm2,Option.bind_some,jY]
 | cons c r=>
  obtain ⟨h1',h2',h3,h4,h5⟩:=Fl h
  have h1:(1:Int)<(s.size:Int):=h1'
  have h2:bt s (1:Int)=c:=h2'
  have a3:((2:Nat):Int)≤(s.size:Int):=by omega
  by_cases g1:c=34
  · subst g1
    rw [show qd (34::r)=some ([],r) by rw [Pf];rfl]
    refine ⟨_,s.extract 2 s.size,?_,(rfl:bs (⟨#[]⟩:BA)=[]),by rw [Si,show (bs s).take s.size=bs s by rw [←Fa,List.take_length]];exact h3⟩
    unfold Ob cc Ze ng
    simp only [h1,decide_true,decide_false,hm',h2,a0,w2,a2,a3,Option.bind_some,jY,Int.toNat_natCast]
    rfl
  · have g1':(c==34)=false:=by simpa using g1
    by_cases g2:c=92
    · subst g2
      cases r with
      | nil=>
       have hn':¬(((2:Nat):Int)<(s.size:Int)):=Zw (k:=2) h3
       rw [show qd [92]=none by rw [Pf];rfl]
       unfold Ob cc
       simp only [h1,hn',decide_true,decide_false,hm',hm2,h2,a0,w2,Option.bind_some,jY]
       rfl
      | cons d r=>
       obtain ⟨i1',i2',i3,i4,i5⟩:=Fl h3
       have i1:((2:Nat):Int)<(s.size:Int):=i1'
       have i2:bt s ((2:Nat):Int)=d:=i2'
       have hq:qd (92::d::r)=if gY d=true then (qd r).map fun x=>(d::x.1,x.2) else none:=by rw [Pf];rfl
       rw [hq]
       by_cases g3:gY d=true
       · have hdd:32≤d∧d≤126:=by simpa [gY] using g3
         obtain ⟨r2,x1,x2,x3⟩:=ZN n d
         have ih:=Vt n s hs r.length r 3 n r2 (Nat.le_refl _) i3 (by omega) (by omega) (fun x hx=>by rw [x2] at hx;simp at hx;subst hx;omega) (by
          have:=congrArg List.length i3
          rw [List.length_drop,Fa] at this;omega)
         have b1:d≥32:=hdd.1
         have b2:d≤126:=hdd.2
         have hstep:Ob n s=(Ba n n s ((3:Nat):Int) r2).bind fun x=>iY x (fun _=>none) (fun a=>some (.ok (a.1,a.2,()))) (fun p=>some (.error p)):=by
          unfold Ob cc
          simp only [h1,i1,i2,b1,b2,decide_true,decide_false,hm',h2,a0,w2,a2,x1,w3,Option.bind_some,jY]
          rfl
         rw [hstep,if_pos g3]
         cases hqr:qd r with
         | none=>rw [hqr] at ih;rw [ih];rfl
         | some x=>
          rw [hqr] at ih
          obtain ⟨t1,t2,j1,j2,j3⟩:=ih
          exact ⟨t1,t2,by rw [j1];rfl,by rw [j2,x2];rfl,j3⟩
       · rw [if_neg g3]
         unfold Ob cc
         by_cases b1:d≥32
         · have b2:¬d≤126:=fun hb=>g3 (by simp [gY];omega)
           simp only [h1,i1,i2,b1,b2,decide_true,decide_false,hm',hm2,h2,a0,w2,a2,Option.bind_some,jY]
           rfl
         · simp only [h1,i1,i2,b1,decide_true,decide_false,hm',hm2,h2,a0,w2,a2,Option.bind_some,jY]
           rfl
    · have g2':(c==92)=false:=by simpa using g2
      have hq:qd (c::r)=if gY c=true then (qd r).map fun x=>(c::x.1,x.2) else none:=by rw [Pf,if_neg g1,if_neg g2]
      rw [hq]
      by_cases g3:gY c=true
      · have hdd:32≤c∧c≤126:=by simpa [gY] using g3
        obtain ⟨r2,x1,x2,x3⟩:=ZN n c
        have ih:=Vt n s hs r.length r 2 n r2 (Nat.le_refl _) h3 (by omega) (by omega) (fun x hx=>by rw [x2] at hx;simp at hx;subst hx;omega) (by
         have:=congrArg List.length h3
         rw [List.length_drop,Fa] at this;omega)
        have b1:c≥32:=hdd.1
        have b2:c≤126:=hdd.2
        have hstep:Ob n s=(Ba n n s ((2:Nat):Int) r2).bind fun x=>iY x (fun _=>none) (fun a=>some (.ok (a.1,a.2,()))) (fun p=>some (.error p)):=by
         unfold Ob cc
         simp only [h1,b1,b2,decide_true,decide_false,hm',h2,g1',g2',a0,w2,x1,Option.bind_some,jY]
         rfl
        rw [hstep,if_pos g3]
        cases hqr:qd r with
        | none=>rw [hqr] at ih;rw [ih];rfl
        | some x=>
         rw [hqr] at ih
         obtain ⟨t1,t2,j1,j2,j3⟩:=ih
         exact ⟨t1,t2,by rw [j1];rfl,by rw [j2,x2];rfl,j3⟩
      · rw [if_neg g3]
        unfold Ob cc
        by_cases b1:c≥32
        · have b2:¬c≤126:=fun hb=>g3 (by simp [gY];omega)
          simp only [h1,b1,b2,decide_true,decide_false,hm',hm2,h2,g1',g2',a0,Option.bind_some,jY]
          rfl
        · simp only [h1,b1,decide_true,decide_false,hm',hm2,h2,g1',g2',a0,Option.bind_some,jY]
          rfl
theorem AF {b b':Sq Int} {c:Int} (h:uY id b'=uY id b++[c]) (hb:∀ c∈uY id b,0≤c∧c<256) (hc:0≤c∧c<256):∀ c∈uY id b',0≤c∧c<256:=fun x hx=>by
 rw [h] at hx
 rcases List.mem_append.1 hx with hx | hx
 · exact hb x hx
 · simp at hx;subst hx;exact hc
open Go
theorem kV {a b:BA} (h:a.size+b.size≤9000000000):Af a b=true:=by
 unfold Af
 rw [Nat.ble_eq];omega
theorem QE (c:Int) (r:List Int):AX (c::r)=(if c=34∨c=92 then [92,c] else [c])++AX r:=by
 simp only [AX];split<;>rfl
def qt (l:List Int):List Int:=34::AX l++[34]
theorem gF (n:Nat) (s:BA) (hs:s.size≤1000000):∀ (r:List Int) (k m:Nat) (q:Sq Int),(bs s).drop k=r→k≤s.size→q.n≤2*k+1→(∀ c∈uY id q,0≤c∧c<256)→r.length<m→
  ∃ q',yb n m s s.size k q=some (.out q')∧uY id q'=uY id q++AX r∧q'.n≤2*s.size+1∧(∀ c∈uY id q',0≤c∧c<256)
 | [],k,m,q,h,hk,hq,hb,hm=>by
  obtain ⟨m,rfl⟩:∃ q,m=q+1:=⟨m - 1,by omega⟩
  have:=Zw h
  exact ⟨q,by simp [yb,xd,this],by simp [AX],by omega,hb⟩
 | c::r,k,m,q,h,hk,hq,hb,hm=>by
  obtain ⟨m,rfl⟩:∃ q,m=q+1:=⟨m - 1,by omega⟩
  obtain ⟨h1,h2,h3,h4,h5⟩:=Fl h
  have e1:=EY (k:=k) (by omega)
  have a1:(0:Int)≤(k:Int):=by omega
  by_cases g:c=34∨c=92
  · obtain ⟨q1,w1,w2,w3⟩:=jG n 92 q (by omega)
    obtain ⟨q2,x1,x2,x3⟩:=jG n c q1 (by omega)
    have hb1:=AF w2 hb ⟨by decide,by decide⟩
    have hb2:=AF x2 hb1 ⟨h4,h5⟩
    obtain ⟨q',j1,j2,j3,j4⟩:=gF n s hs r (k+1) m q2 h3 (by omega) (by omega) hb2 (by simp at hm;omega)
    refine ⟨q',?_,by rw [j2,x2,w2,QE,if_pos g];simp,j3,j4⟩
    rw [←j1]
    rcases g with rfl | rfl
    · simp only [yb,xd,h1,h2,a1,e1,w1,x1,decide_true,Option.bind_some]
      rfl
    · simp only [yb,xd,h1,h2,a1,e1,w1,x1,decide_true,Option.bind_some]
      rfl
  · obtain ⟨q2,x1,x2,x3⟩:=jG n c q (by omega)
    have hb2:=AF x2 hb ⟨h4,h5⟩
    obtain ⟨q',j1,j2,j3,j4⟩:=gF n s hs r (k+1) m q2 h3 (by omega) (by omega) hb2 (by simp at hm;omega)
    refine ⟨q',?_,by rw [j2,x2,QE,if_neg g];simp,j3,j4⟩
    have g1:(c==34)=false:=by simp;exact fun e=>g (.inl e)
    have g2:(c==92)=false:=by simp;exact fun e=>g (.inr e)
    rw [←j1]
    simp only [yb,xd,h1,h2,g1,g2,a1,e1,x1,decide_true,Option.bind_some]
    rfl
def qs (l:List Int):List Int:=if pl 0 l=true then l else qt l
theorem VQ (n:Nat) (s:BA) (hs:s.size≤1000000) (hn:10000000≤n):∃ t,Uo n s=some t∧bs t=qs (bs s):=by
 unfold Uo Vo qs
 rw [JL n s (by omega) (by omega),Option.bind_some]
 by_cases hp:pl 0 (bs s)=true
 · rw [if_pos hp,if_pos hp]
   exact ⟨s,rfl,rfl⟩
 · rw [if_neg hp,if_neg hp]
   obtain ⟨q0,w1,w2,w3⟩:=ZN n 34
   have hb0:∀ c∈uY id q0,0≤c∧c<256:=fun c hc=>by rw [w2] at hc;simp at hc;subst hc;omega
   obtain ⟨q',j1,j2,j3,j4⟩:=gF n s hs (bs s) 0 n q0 (by simp) (by omega) (by omega) hb0 (by rw [Fa];omega)
   obtain ⟨t,s1,s2⟩:=XN n q' (by omega) j4
   have hts:t.size≤2*s.size+1:=by
    have:=congrArg List.length s2
    rw [Fa,Me] at this;omega
   refine ⟨t++(⟨#[34]⟩:BA),?_,by rw [aL,s2,j2,w2];rfl⟩
   rw [show ((0:Nat):Int)=0 from rfl] at j1
   rw [w1,Option.bind_some,j1,Option.bind_some]
   simp only [iY]
   rw [s1,Option.bind_some,if_pos (kV (by show t.size+(⟨#[34]⟩:BA).size≤9000000000;rw [show (⟨#[34]⟩:BA).size=1 from rfl];omega))]
theorem FU (l:List Int):(qt l).length≤2*l.length+2:=by
 have:=HO l
 simp [qt];omega
theorem EU (l:List Int):(qs l).length≤2*l.length+2:=by
 unfold qs
 split
 · omega
 · exact FU l
theorem NL:∀ (N:Nat) (r:List Int),r.length≤N→∀ x,qd r=some x→x.1.length+x.2.length+1≤r.length
 | _,[],_,x,h=>by cases h
 | 0,c::r,h,_,_=>by simp at h
 | N+1,c::r,hN,x,h=>by
  rw [Pf] at h
  split at h
  · cases h;simp
  · split at h
    · cases r with
      | nil=>cases h
      | cons d r=>
       simp only at h
       split at h
       · obtain ⟨y,hy,rfl⟩:=Option.map_eq_some_iff.1 h
         have:=NL N r (by simp at hN;omega) y hy
         simp;omega
       · cases h
    · split at h
      · obtain ⟨y,hy,rfl⟩:=Option.map_eq_some_iff.1 h
        have:=NL N r (by simp at hN;omega) y hy
        simp;omega
      · cases h
def UX (l:List Int):Option (List Int×List Int):=if l.head?=some 34 then (qd (l.drop 1)).map fun x=>(qs x.1,x.2)
 else if OX 64 l= -1 then none else if pl 0 (l.take (OX 64 l).toNat)=true then some (l.take (OX 64 l).toNat,l.drop (OX 64 l).toNat) else none
theorem KQ (n:Nat) (s:BA) (hs:s.size≤1000000) (hn:10000000≤n):match UX (bs s) with
  | none=>ef n s=some (.error 8)
  | some (a,b)=>∃ t1 t2,ef n s=some (.ok (t1,t2,()))∧bs t1=a∧bs t2=b:=by
 have hm':(Wa n true)=some (.ok ()):=Rl n true
 have hm2:(Wa n false)=some (.error 8):=Rl n false
 unfold UX
 by_cases h:(bs s).head?=some 34
 · rw [if_pos h]
   have hq:=oP n s hs hn
   have hP:rb n s (⟨#[34]⟩:BA)=some true:=by rw [bf n s _ (c:=34) rfl,decide_eq_true h]
   cases hx:qd ((bs s).drop 1) with
   | none=>
    rw [hx] at hq
    simp only at hq
    simp only [Option.map_none]
    unfold ef Ve
    rw [hP,Option.bind_some,if_pos rfl,hq];rfl
   | some x=>
    rw [hx] at hq
    obtain ⟨t1,t2,j1,j2,j3⟩:=hq
    have hl:=NL _ _ (Nat.le_refl _) x hx
    rw [List.length_drop,Fa,←j2,Fa] at hl
    obtain ⟨t3,k1,k2⟩:=VQ n t1 (by omega) hn
    simp only [Option.map_some]
    refine ⟨t3,t2,?_,by rw [k2,j2],j3⟩
    unfold ef Ve
    rw [hP,Option.bind_some,if_pos rfl,j1,Option.bind_some]
    simp only [jY]
    rw [k1];rfl
 · rw [if_neg h]
   have hP:rb n s (⟨#[34]⟩:BA)=some false:=by rw [bf n s _ (c:=34) rfl,decide_eq_false h]
   have hI:=Bx n s (c:=64) (by decide) (by decide)
   have hge:=(Uj (c:=64) (bs s)).2
   have hlt:=vH 64 (bs s)
   by_cases hx:OX 64 (bs s)= -1
   · rw [if_pos hx]
     simp only
     have b1:¬((-1:Int)≥0):=by decide
     unfold ef Ve
     rw [hP,Option.bind_some,if_neg (by decide),hI,hx]
     simp only [b1,hm2,decide_false,Option.bind_some,jY]
     rfl
   · rw [if_neg hx]
     obtain ⟨k,hk⟩:∃ k:Nat,OX 64 (bs s)=(k:Int):=⟨(OX 64 (bs s)).toNat,by omega⟩
     have hks:k<s.size:=by have:=hlt.1;rw [Fa] at this;omega
     rw [hk,Int.toNat_natCast]
     have hb0:bs (s.extract 0 k)=(bs s).take k:=by rw [Si];rfl
     have hb1:bs (s.extract k s.size)=(bs s).drop k:=by rw [Si,←Fa,List.take_length]
     have hpl:=JL n (s.extract 0 k) (by have:=Pl s 0 k;omega) (by have:=Pl s 0 k;omega)
     rw [hb0] at hpl
     have a1:(k:Int)≥0:=by omega
     have a2:(0:Int)≤(k:Int):=by omega
     have a3:(k:Int)≤(s.size:Int):=by omega
     have hpl':Ri n (s.extract (Int.toNat (0:Int)) k)=some (pl 0 ((bs s).take k)):=hpl
     by_cases hp:pl 0 ((bs s).take k)=true
     · rw [if_pos hp]
       refine ⟨s.extract 0 k,s.extract k s.size,?_,hb0,hb1⟩
       unfold ef Ve
       rw [hP,Option.bind_some,if_neg (by decide),hI,hk]
       simp only [a1,a2,a3,hpl',hp,hm',decide_true,Option.bind_some,jY,Int.toNat_natCast]
       rfl
     · rw [if_neg hp]
       simp only
       unfold ef Ve
       rw [hP,Option.bind_some,if_neg (by decide),hI,hk]
       have hp':pl 0 ((bs s).take k)=false:=by simpa using hp
       simp only [a1,a2,a3,hpl',hp',hm2,decide_true,Option.bind_some,jY,Int.toNat_natCast]
       rfl
def NC (l:List Int):Bool:=decide (1≤l.length)&&decide (l.length≤64)&&(if l.head?=some 34 then (match qd (l.drop 1) with
  | none=>false
  | some x=>decide (x.2=[])&&!pl 0 x.1&&decide (qt x.1=l)) else pl 0 l)
open Go
abbrev XW:=BA×(BA×Unit)
def QV:XW:=((⟨#[]⟩:BA),((⟨#[]⟩:BA),()))
def fU (l:List Int):Option (List Int×List Int):=(UX l).bind fun x=>if x.1.length≤64∧x.2.head?=some 64∧DS ((x.2.drop 1).map VX)=true then some (x.1,(x.2.drop 1).map VX) else none
theorem WS {l:List Int} {x:List Int×List Int} (h:UX l=some x):x.1.length≤2*l.length+2∧x.2.length≤l.length:=by
 unfold UX at h
 split at h
 · obtain ⟨y,hy,rfl⟩:=Option.map_eq_some_iff.1 h
   have h1:=NL _ _ (Nat.le_refl _) y hy
   have h2:=EU y.1
   rw [List.length_drop] at h1
   exact ⟨by simp;omega,by simp;omega⟩
 · split at h
   · cases h
   · split at h
     · cases h;simp;omega
     · cases h
theorem RL {t:BA}:bs (t.extract 1 t.size)=(bs t).drop 1:=by rw [Si,←Fa,List.take_length]
theorem kT (n:Nat) (s:BA) (hs:s.size≤400000) (hn:10000000≤n):match fU (bs s) with
  | none=>Sh n s=some (.error 8)
  | some (a,d)=>∃ t1 t2,Sh n s=some (.ok (t1,(t2,())))∧bs t1=a∧bs t2=d:=by
 have hm':(Wa n true)=some (.ok ()):=Rl n true
 have hm2:(Wa n false)=some (.error 8):=Rl n false
 have hl:=KQ n s (by omega) hn
 unfold fU
 cases hx:UX (bs s) with
 | none=>
  rw [hx] at hl
  simp only at hl
  simp only [Option.bind_none]
  unfold Sh sg
  rw [hl];rfl
 | some x=>
  rw [hx] at hl
  obtain ⟨t1,t2,j1,j2,j3⟩:=hl
  have hlen:=WS hx
  rw [←j2,←j3,Fa,Fa,Fa] at hlen
  simp only [Option.bind_some]
  rw [←j2,←j3,Fa]
  by_cases g1:t1.size≤64
  · have b1:(t1.size:Int)≤64:=by omega
    have hP:=bf n t2 (⟨#[64]⟩:BA) (c:=64) rfl
    by_cases g2:(bs t2).head?=some 64
    · rw [decide_eq_true g2] at hP
      have hne:1≤t2.size:=by
       rw [←Fa]
       cases hb:bs t2 with
       | nil=>rw [hb] at g2;cases g2
       | cons _ _=>simp
      have b2:(1:Int)≤(t2.size:Int):=by omega
      have b3:(0:Int)≤1:=by decide
      obtain ⟨t3,k1,k2⟩:=gR n (t2.extract 1 t2.size) (by have:=Pl t2 1 t2.size;omega) hn
      have hsz:t3.size≤t2.size:=by rw [←Fa t3,k2,List.length_map,Fa];exact Pl _ _ _
      have hD:=oz n t3 (by omega) hn
      rw [k2,RL] at hD
      rw [RL] at k2
      have k1':mh n (t2.extract (Int.toNat (1:Int)) t2.size)=some t3:=k1
      by_cases g3:DS (((bs t2).drop 1).map VX)=true
      · rw [if_pos ⟨g1,g2,g3⟩]
        refine ⟨t1,t3,?_,rfl,k2⟩
        unfold Sh sg
        rw [j1]
        simp only [Option.bind_some,jY,b1,decide_true,hP,hm',b2,b3,Int.toNat_natCast,k1',hD,g3]
        rfl
      · rw [if_neg fun h=>g3 h.2.2]
        simp only
        have g3':DS (((bs t2).drop 1).map VX)=false:=by simpa using g3
        unfold Sh sg
        rw [j1]
        simp only [Option.bind_some,jY,b1,decide_true,hP,hm',hm2,b2,b3,Int.toNat_natCast,k1',hD,g3']
        rfl
    · rw [decide_eq_false g2] at hP
      rw [if_neg fun h=>g2 h.2.1]
      simp only
      unfold Sh sg
      rw [j1]
      simp only [Option.bind_some,jY,b1,decide_true,hP,hm2]
      rfl
  · have b1:¬((t1.size:Int)≤64):=by omega
    rw [if_neg fun h=>g1 h.1]
    simp only
    unfold Sh sg
    rw [j1]
    simp only [Option.bind_some,jY,b1,decide_false,hm2]
    rfl
theorem gQ (n:Nat) (s:BA) (hs:s.size≤400000) (hn:10000000≤n):match fU (bs s) with
  | none=>bh n s=some (QV,8,())
  | some (a,d)=>∃ t1 t2,bh n s=some ((t1,(t2,())),0,())∧bs t1=a∧bs t2=d:=by
 have h:=kT n s hs hn
 cases hx:fU (bs s) with
 | none=>
  rw [hx] at h
  simp only at h ⊢
  unfold bh Gh
  rw [h];rfl
 | some x=>
  rw [hx] at h
  obtain ⟨t1,t2,j1,j2,j3⟩:=h
  refine ⟨t1,t2,?_,j2,j3⟩
  unfold bh Gh
  rw [j1];rfl
def qB (a z:List Int):Option (List Int×List Int):=if z.head?=some 64∧(NC a&&ME ((z.drop 1).map VX))=true then some (a,(z.drop 1).map VX) else none
def tw:List Int→Nat
 | []=>0
 | c::r=>if c=64 then 0 else tw r+1
def gU (l:List Int):Option (List Int×List Int):=if l.head?=some 34 then (qd (l.drop 1)).bind fun x=>qB (qs x.1) x.2 else qB (l.take (tw l)) (l.drop (tw l))
open Go Go.RowKit
theorem UQ:∀ (N:Nat) (r:List Int),r.length≤N→∀ x,qd r=some x→x.1.all gY=true
 | _,[],_,x,h=>by cases h
 | 0,c::r,h,_,_=>by simp at h
 | N+1,c::r,hN,x,h=>by
  rw [Pf] at h
  split at h
  · cases h;rfl
  · split at h
    · cases r with
      | nil=>cases h
      | cons d r=>
       simp only at h
       split at h
       · rename_i hd
         obtain ⟨y,hy,rfl⟩:=Option.map_eq_some_iff.1 h
         have:=UQ N r (by simp at hN;omega) y hy
         rw [List.all_cons,hd,this];rfl
       · cases h
    · split at h
      · rename_i hd
        obtain ⟨y,hy,rfl⟩:=Option.map_eq_some_iff.1 h
        have:=UQ N r (by simp at hN;omega) y hy
        rw [List.all_cons,hd,this];rfl
      · cases h
theorem nP:∀ (l:List Int),l.all gY=true→∀ z,qd (AX l++34::z)=some (l,z)
 | [],_,z=>by rw [show AX []++34::z=34::z from rfl,Pf];rfl
 | c::r,h,z=>by
  rw [List.all_cons,Bool.and_eq_true] at h
  have ih:=nP r h.2 z
  rw [QE]
  by_cases g:c=34∨c=92
  · rw [if_pos g]
    rw [show ([92,c]++AX r)++34::z=92::c::(AX r++34::z) by simp,Pf]
    simp only [h.1,ih]
    rfl
  · rw [if_neg g]
    rw [show ([c]++AX r)++34::z=c::(AX r++34::z) by simp,Pf,if_neg fun e=>g (.inl e),if_neg fun e=>g (.inr e),if_pos h.1,ih]
    rfl
theorem lP {l:List Int} (h:pl 0 l=true):1≤l.length∧l.head?≠some 34:=by
 cases l with
 | nil=>simp [pl] at h
 | cons c r=>
  refine ⟨by simp,fun e=>?_⟩
  simp at e
  subst e
  have:GR 34=false:=by decide
  simp [pl,this] at h
theorem US {m:List Int} (h:m.all gY=true):NC (qs m)=decide ((qs m).length≤64):=by
 unfold qs
 by_cases hp:pl 0 m=true
 · rw [if_pos hp]
   obtain ⟨h1,h2⟩:=lP hp
   unfold NC
   rw [if_neg h2,hp]
   simp [h1]
 · rw [if_neg hp]
   have hp':pl 0 m=false:=by simpa using hp
   unfold NC
   have hd:(qt m).drop 1=AX m++34::[]:=rfl
   rw [if_pos (by rfl:(qt m).head?=some 34),hd,nP m h []]
   simp [hp',qt]
theorem fS:∀ l:List Int,(OX 64 l= -1→tw l=l.length)∧(OX 64 l≠ -1→OX 64 l=(tw l:Int)∧(l.drop (tw l)).head?=some 64)
 | []=>by simp [OX,tw]
 | c::r=>by
  have ih:=fS r
  have hge:=(Uj (c:=64) r).2
  simp only [OX,tw]
  by_cases g:c=64
  · simp [g]
  · rw [if_neg g,if_neg g]
    by_cases g2:OX 64 r= -1
    · rw [if_pos g2]
      exact ⟨fun _=>by rw [ih.1 g2];rfl,fun h=>absurd rfl h⟩
    · rw [if_neg g2]
      have:=ih.2 g2
      exact ⟨fun h=>by omega,fun _=>⟨by rw [this.1];rfl,by rw [List.drop_succ_cons];exact this.2⟩⟩
theorem RQ (l:List Int):fU l=gU l:=by
 unfold fU gU UX
 by_cases h:l.head?=some 34
 · rw [if_pos h,if_pos h]
   cases hx:qd (l.drop 1) with
   | none=>rfl
   | some x=>
    simp only [Option.map_some,Option.bind_some]
    unfold qB
    rw [US (UQ _ _ (Nat.le_refl _) x hx),NE]
    by_cases g1:(qs x.1).length≤64<;>by_cases g2:x.2.head?=some 64<;>cases ME ((x.2.drop 1).map VX)<;>simp [g1,g2]
 · rw [if_neg h,if_neg h]
   have ht:=fS l
   have hge:=(Uj (c:=64) l).2
   by_cases g:OX 64 l= -1
   · rw [if_pos g,ht.1 g,List.drop_length]
     simp [qB]
   · rw [if_neg g]
     obtain ⟨e1,e2⟩:=ht.2 g
     rw [e1,Int.toNat_natCast]
     by_cases hp:pl 0 (l.take (tw l))=true
     · rw [if_pos hp]
       obtain ⟨h1,h2⟩:=lP hp
       simp only [Option.bind_some]
       unfold qB
       have hloc:NC (l.take (tw l))=decide ((l.take (tw l)).length≤64):=by
        unfold NC
        rw [if_neg h2,hp]
        simp only [h1,decide_true,Bool.true_and,Bool.and_true]
       rw [hloc,NE,e2]
       by_cases g1:(l.take (tw l)).length≤64<;>cases ME (((l.drop (tw l)).drop 1).map VX)<;>simp only [g1,decide_true,decide_false]<;>simp
     · rw [if_neg hp]
       simp only [Option.bind_none]
       have hloc:NC (l.take (tw l))=false:=by
        unfold NC
        by_cases h34:(l.take (tw l)).head?=some 34
        · exfalso
          apply h
          cases l with
          | nil=>simp at h34
          | cons c r=>
           cases htw:tw (c::r) with
           | zero=>rw [htw] at h34;simp at h34
           | succ k=>rw [htw] at h34;simpa using h34
        · rw [if_neg h34]
          have:pl 0 (l.take (tw l))=false:=by simpa using hp
          rw [this];simp
       unfold qB
       rw [hloc]
       simp
theorem zp (d:Int) (p:Int→Bool):∀ (r cur:List Int),(Hb d cur r).all (fun w=>w.all p)=true→(∀ c∈cur,p c=true)∧∀ c∈r,p c=true∨c=d
 | [],cur,h=>by
  simp only [Hb,List.all_cons,List.all_nil,Bool.and_true,List.all_eq_true] at h
  exact ⟨h,fun c hc=>by cases hc⟩
 | c::r,cur,h=>by
  simp only [Hb] at h
  by_cases e:c=d
  · rw [if_pos e,List.all_cons,Bool.and_eq_true] at h
    obtain ⟨h1,h2⟩:=zp d p r [] h.2
    refine ⟨fun x hx=>List.all_eq_true.mp h.1 x hx,fun x hx=>?_⟩
    rcases List.mem_cons.mp hx with rfl | hx
    · exact .inr e
    · exact h2 x hx
  · rw [if_neg e] at h
    obtain ⟨h1,h2⟩:=zp d p r (cur++[c]) h
    refine ⟨fun x hx=>h1 x (List.mem_append_left _ hx),fun x hx=>?_⟩
    rcases List.mem_cons.mp hx with rfl | hx
    · exact .inl (h1 x (List.mem_append_right _ List.mem_cons_self))
    · exact h2 x hx
theorem SO {l:List Int} (h:2≤l.length) (h1:l.head?=some 91) (h2:l.getLast?=some 93):∀ c∈l,c=91∨c=93∨c∈MC l:=by
 intro c hc
 cases l with
 | nil=>cases hc
 | cons a r=>
  simp only [List.head?_cons,Option.some.injEq] at h1
  rcases List.mem_cons.mp hc with e | hm
  · exact .inl (e.trans h1)
  · have hr:r≠[]:=List.ne_nil_of_mem hm
    obtain ⟨k,hk⟩:∃ k,r.length=k+1:=⟨r.length - 1,by have:=List.length_pos_iff.mpr hr;omega⟩
    have hi:MC (a::r)=r.dropLast:=by
     unfold MC
     rw [List.length_cons,Nat.add_sub_cancel,hk,List.take_succ_cons,List.drop_one,List.tail_cons,List.dropLast_eq_take,hk];rfl
    have hg:r.getLast hr=93:=by
     rw [List.getLast?_cons,List.getLast?_eq_some_getLast hr] at h2
     simpa using h2
    rw [←List.dropLast_concat_getLast hr] at hm
    rcases List.mem_append.mp hm with hm | hm
    · exact .inr (.inr (hi▸hm))
    · rw [List.mem_singleton.mp hm,hg];exact .inr (.inl rfl)
theorem BQ {l:List Int} (h:ME l=true):l.map VX=l:=by
 have key:∀ c∈l,¬(65≤c∧c≤90):=by
  unfold ME at h
  rw [Bool.and_eq_true,Bool.or_eq_true] at h
  rcases h.2 with h | h
  · unfold OV at h
    simp only [Bool.and_eq_true,decide_eq_true_eq] at h
    obtain ⟨⟨⟨h1,h2⟩,h3⟩,h4⟩:=h
    unfold RR at h4
    rw [Bool.and_eq_true] at h4
    have h5:(Hb 46 [] (MC l)).all (fun w=>w.all wX)=true:=by
     rw [List.all_eq_true]
     intro w hw
     have:=List.all_eq_true.mp h4.1 w hw
     unfold fY at this
     simp only [Bool.and_eq_true] at this
     exact this.1.2
    have h6:=(zp 46 wX _ _ h5).2
    intro c hc
    rcases SO h1 h2 h3 c hc with rfl | rfl | hm
    · decide
    · decide
    · rcases h6 c hm with h7 | rfl
      · unfold wX at h7
        simp only [Bool.and_eq_true,decide_eq_true_eq] at h7
        omega
      · decide
  · have h5:(Hb 46 [] l).all (fun w=>w.all TX)=true:=by
     rw [List.all_eq_true]
     intro w hw
     have:=List.all_eq_true.mp h w hw
     unfold SN at this
     simp only [Bool.and_eq_true] at this
     exact this.2
    have h6:=(zp 46 TX _ _ h5).2
    intro c hc
    rcases h6 c hc with h7 | rfl
    · unfold TX tY at h7
      simp only [Bool.and_eq_true,Bool.or_eq_true,decide_eq_true_eq] at h7
      omega
    · decide
 have:l.map VX=l.map id:=List.map_congr_left fun c hc=>by
  unfold VX
  rw [if_neg (key c hc)];rfl
 rw [this,List.map_id]
theorem iT:∀ (l:List Int) (w:Nat),pl w l=true→64 ∉ l
 | [],_,_=>by simp
 | c::r,w,h=>by
  simp only [pl] at h
  intro hm
  rcases List.mem_cons.mp hm with e | hm
  · subst e
    have a:GR 64=false:=by decide
    simp [a] at h
  · by_cases c1:c=46
    · rw [if_pos c1] at h
      by_cases c2:w=0
      · rw [if_pos c2] at h;cases h
      · rw [if_neg c2] at h;exact iT r 0 h hm
    · rw [if_neg c1] at h
      by_cases c2:GR c=true
      · rw [if_pos c2] at h;exact iT r (w+1) h hm
      · rw [if_neg c2] at h;cases h
theorem dS:∀ (l z:List Int),64 ∉ l→tw (l++64::z)=l.length
 | [],z,_=>by simp [tw]
 | c::r,z,h=>by
  have hc:¬c=64:=fun e=>h (by rw [e];exact List.mem_cons_self)
  have:=dS r z fun hm=>h (List.mem_cons_of_mem _ hm)
  show (if c=64 then 0 else tw (r++64::z)+1)=_
  rw [if_neg hc,this];rfl
theorem QD {a z l d:List Int} (h:qB a z=some (l,d)):(NC l&&ME d)=true:=by
 unfold qB at h
 by_cases c:z.head?=some 64∧(NC a&&ME ((z.drop 1).map VX))=true
 · rw [if_pos c] at h
   obtain ⟨h1,h2⟩:=Prod.mk.inj (Option.some.inj h)
   rw [←h1,←h2];exact c.2
 · rw [if_neg c] at h;cases h
theorem gT (l d:List Int):gU (l++64::d)=some (l,d)↔(NC l&&ME d)=true:=by
 constructor
 · intro h
   unfold gU at h
   by_cases c:(l++64::d).head?=some 34
   · rw [if_pos c] at h
     cases hq:qd ((l++64::d).drop 1) with
     | none=>rw [hq] at h;cases h
     | some x=>rw [hq,Option.bind_some] at h;exact QD h
   · rw [if_neg c] at h;exact QD h
 · intro h
   rw [Bool.and_eq_true] at h
   obtain ⟨h1,hd⟩:=h
   have hlow:=BQ hd
   have tl:∀ a,NC a=true→qB a (64::d)=some (a,d):=by
    intro a ha
    unfold qB
    have e:(64::d).drop 1=d:=rfl
    rw [e,hlow,ha,hd]
    rfl
   have L1:=h1
   unfold NC at L1
   rw [Bool.and_eq_true,Bool.and_eq_true,decide_eq_true_eq] at L1
   obtain ⟨⟨L2,L3⟩,L1⟩:=L1
   have hh:(l++64::d).head?=l.head?:=by
    cases l with
    | nil=>simp at L2
    | cons a r=>rfl
   unfold gU
   by_cases c:l.head?=some 34
   · rw [if_pos c] at L1
     cases hx:qd (l.drop 1) with
     | none=>rw [hx] at L1;cases L1
     | some x=>
      rw [hx] at L1
      simp only [Bool.and_eq_true,decide_eq_true_eq,Bool.not_eq_true'] at L1
      obtain ⟨⟨e1,e2⟩,e3⟩:=L1
      have ok:=UQ _ _ (Nat.le_refl _) x hx
      have hdr:(l++64::d).drop 1=AX x.1++34::64::d:=by
       rw [←e3];simp [qt]
      have hqs:qs x.1=l:=by
       unfold qs
       rw [if_neg (by rw [e2];decide),e3]
      rw [if_pos (hh.trans c),hdr,nP x.1 ok (64::d),Option.bind_some]
      show qB (qs x.1) (64::d)=_
      rw [hqs];exact tl l h1
   · rw [if_neg c] at L1
     rw [if_neg (by rw [hh];exact c),dS l d (iT l 0 L1),List.take_left' rfl,List.drop_left' rfl]
     exact tl l h1
theorem lS (n:Nat) (a b:BA) (ha:a.size≤100000) (hb:b.size≤100000):mD n (a,(b,()))=some ((a++(⟨#[64]⟩:BA))++b):=by
 have h64:(⟨#[64]⟩:BA).size=1:=rfl
 have f1:Af a (⟨#[64]⟩:BA)=true:=kV (by omega)
 have f2:Af (a++(⟨#[64]⟩:BA)) b=true:=kV (by rw [ByteArray.size_append];omega)
 unfold mD Zy
 rw [if_pos f1,if_pos f2]
theorem aO (n:Nat) (a b:BA) (ha:a.size≤100000) (hb:b.size≤100000) (hn:10000000≤n):Oi n (a,(b,()))=some (NC (bs a)&&ME (bs b)):=by
 have h64:(⟨#[64]⟩:BA).size=1:=rfl
 have hs:((a++(⟨#[64]⟩:BA))++b).size≤400000:=by rw [ByteArray.size_append,ByteArray.size_append];omega
 have hP:=gQ n _ hs hn
 have hb':bs ((a++(⟨#[64]⟩:BA))++b)=bs a++64::bs b:=by
  rw [aL,aL,List.append_assoc];rfl
 rw [hb',RQ] at hP
 have hm:=gT (bs a) (bs b)
 unfold Oi az
 simp only [lS n a b ha hb,Option.bind_some]
 cases hv:gU (bs a++64::bs b) with
 | none=>
  rw [hv] at hP hm
  simp only at hP
  have:(NC (bs a)&&ME (bs b))=false:=by
   cases e:(NC (bs a)&&ME (bs b)) with
   | false=>rfl
   | true=>cases hm.mpr e
  rw [hP,this];rfl
 | some y=>
  rw [hv] at hP hm
  obtain ⟨t1,t2,j1,j2,j3⟩:=hP
  rw [j1,Option.bind_some]
  simp only [Xg,j2,j3]
  have:(decide (y.1=bs a)&&(decide (y.2=bs b)&&true))=(NC (bs a)&&ME (bs b)):=by
   rw [Bool.eq_iff_iff,←hm]
   simp [Prod.ext_iff]
  rw [←this];rfl
end Go.Proofs.YtddefjokgaajfaaGreatDoor.AM
