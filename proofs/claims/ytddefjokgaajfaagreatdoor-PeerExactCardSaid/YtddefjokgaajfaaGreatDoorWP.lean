/- Peers, plainly: lines of a stream, as lists. -/
import Derived.Test.YtddefjokgaajfaaGreatDoorWV
set_option linter.all false
set_option linter.unusedVariables false
set_option linter.unusedSimpArgs false
namespace Go.Proofs.YtddefjokgaajfaaGreatDoor.AM
open Go Go.RowKit
def Zn:List Int→Option (List Int×List Int)
 | []=>none
 | [_]=>none
 | c::d::r=>if c=13∧d=10 then some ([],r) else (Zn (d::r)).map fun p=>(c::p.1,p.2)
theorem TF:∀ (x y:List Int),Zn x=none→¬(x.getLast?=some 13∧y.head?=some 10)→Zn (x++y)=(Zn y).map fun p=>(x++p.1,p.2)
 | [],y,_,_=>by
  cases h:Zn y with
  | none=>rw [List.nil_append,h];rfl
  | some p=>rw [List.nil_append,h];rfl
 | [c],[],_,_=>rfl
 | [c],d::r,_,hn=>by
  have h:¬(c=13∧d=10):=fun e=>hn (by rw [e.1,e.2];exact ⟨rfl,rfl⟩)
  show Zn (c::d::r)=_
  rw [Zn,if_neg h];rfl
 | c::d::x,y,hx,hn=>by
  rw [Zn] at hx
  by_cases h:c=13∧d=10
  · rw [if_pos h] at hx;cases hx
  · rw [if_neg h] at hx
    have hx':Zn (d::x)=none:=by
     cases hc:Zn (d::x) with
     | none=>rfl
     | some p=>rw [hc] at hx;cases hx
    have ih:=TF (d::x) y hx' (fun e=>hn ⟨by rw [List.getLast?_cons_cons];exact e.1,e.2⟩)
    show Zn (c::d::(x++y))=_
    rw [Zn,if_neg h]
    show Option.map _ (Zn ((d::x)++y))=_
    rw [ih,Option.map_map]
    rfl
theorem KP:∀ (l a b:List Int),Zn l=some (a,b)→l=a++13::10::b
 | [],a,b,h=>by cases h
 | [c],a,b,h=>by cases h
 | c::d::r,a,b,h=>by
  rw [Zn] at h
  by_cases hc:c=13∧d=10
  · rw [if_pos hc] at h
    cases h
    rw [hc.1,hc.2];rfl
  · rw [if_neg hc] at h
    cases hp:Zn (d::r) with
    | none=>rw [hp] at h;cases h
    | some p=>
     rw [hp] at h
     cases h
     have:=KP (d::r) p.1 p.2 hp
     rw [this];rfl
theorem yL (x:List Int) (c:Int) (hx:Zn x=none) (hn:¬(x.getLast?=some 13∧c=10)):Zn (x++[c])=none:=by
 rw [TF x [c] hx (fun e=>hn ⟨e.1,by simpa using e.2⟩)];rfl
def Wu (c:Int):List Int:=if c=13 then [13] else []
def PR (l:List Int) (sk:Bool):List Int×Bool:=if sk=false∧l.length<512 then (l,false) else (if l.getLast?=some 13 then [13] else [],true)
def PN (s:List Int) (sk:Bool):List Int×Bool:=if sk=true∨s.length>510 then ([],true) else (s,false)
def kQ:Nat→Bool→List Int→(List Int×Bool)×List (List Int×Bool)
 | 0,sk,l=>((l,sk),[])
 | m+1,sk,l=>match Zn l with
  | none=>(PR l sk,[])
  | some p=>((kQ m false p.2).1,PN p.1 sk::(kQ m false p.2).2)
def pi (st:List Int×Bool) (c:Int):(List Int×Bool)×List (List Int×Bool):=
 if st.2=true then (if st.1=[13]∧c=10 then (([],false),[([],true)]) else ((Wu c,true),[]))
 else if st.1.getLast?=some 13∧c=10 then (([],false),[(st.1.dropLast,false)])
 else if (st.1++[c]).length≥512 then ((Wu c,true),[]) else ((st.1++[c],false),[])
def mv:List Int×Bool→List Int→(List Int×Bool)×List (List Int×Bool)
 | st,[]=>(st,[])
 | st,c::r=>((mv (pi st c).1 r).1,(pi st c).2++(mv (pi st c).1 r).2)
def Xh (st:List Int×Bool):Prop:=if st.2=true then st.1=[]∨st.1=[13] else Zn st.1=none∧st.1.length<512
theorem mP (c:Int):Xh (Wu c,true):=by
 unfold Xh Wu
 rw [if_pos rfl]
 by_cases h:c=13
 · right;rw [if_pos h]
 · left;rw [if_neg h]
theorem UB (st:List Int×Bool) (c:Int) (h:Xh st):Xh (pi st c).1:=by
 unfold pi
 obtain ⟨rest,sk⟩:=st
 cases sk with
 | true=>
  rw [if_pos rfl]
  split
  · exact ⟨rfl,by decide⟩
  · exact mP c
 | false=>
  rw [if_neg (by simp)]
  unfold Xh at h
  rw [if_neg (by simp)] at h
  split
  · exact ⟨rfl,Nat.zero_lt_succ 511⟩
  · rename_i hn
    split
    · exact mP c
    · rename_i h5
      unfold Xh
      rw [if_neg (by simp)]
      exact ⟨yL rest c h.1 hn,by show (rest++[c]).length<512;have:¬((rest++[c]).length≥512):=h5;omega⟩
theorem QO:∀ (b:List Int) (st:List Int×Bool),Xh st→Xh (mv st b).1
 | [],st,h=>h
 | c::r,st,h=>QO r _ (UB st c h)
theorem xW (m:Nat) (x:List Int) (c:Int) (r:List Int) (sk:Bool) (hx:Zn (x++[c])=none) (hx0:Zn x=none) (hs:sk=true∨511≤x.length):kQ (m+1) sk (x++c::r)=kQ (m+1) true (Wu c++r):=by
 have hL:∀ s:List Int,x.length≤s.length→PN s sk=([],true):=fun s hl=>by
  unfold PN
  rw [if_pos (hs.imp_right fun h=>by omega)]
 have hL2:∀ s:List Int,PN s true=([],true):=fun s=>by unfold PN;rw [if_pos (.inl rfl)]
 have hF2:∀ l:List Int,PR l true=(if l.getLast?=some 13 then [13] else [],true):=fun l=>by unfold PR;rw [if_neg (by simp)]
 have hF:∀ l:List Int,x.length<l.length→PR l sk=(if l.getLast?=some 13 then [13] else [],true):=fun l hl=>by
  unfold PR
  rw [if_neg]
  rintro ⟨h1,h2⟩
  rcases hs with h | h
  · rw [h] at h1;cases h1
  · omega
 by_cases hc:c=13
 · subst hc
   have e:=TF x (13::r) hx0 (fun e=>by simp at e)
   have t:Wu 13++r=13::r:=rfl
   rw [t,kQ,kQ,e]
   cases hp:Zn (13::r) with
   | none=>
    simp only [Option.map_none]
    rw [hF _ (by simp),hF2]
    rw [List.getLast?_append,List.getLast?_cons]
    rfl
   | some p=>
    simp only [Option.map_some]
    rw [hL _ (by simp),hL2]
 · have e:=TF (x++[c]) r hx (fun e=>by
    have:=e.1
    rw [List.getLast?_append] at this
    simp at this
    exact hc this)
   have t:Wu c++r=r:=by unfold Wu;rw [if_neg hc];rfl
   have e':x++c::r=(x++[c])++r:=by simp
   rw [t,kQ,kQ,e',e]
   cases hp:Zn r with
   | none=>
    simp only [Option.map_none]
    rw [hF _ (by simp),hF2]
    cases r with
    | nil=>
     have:(x++[c]++[]).getLast?=some c:=by rw [List.append_nil,List.getLast?_append];rfl
     rw [this]
     simp [hc]
    | cons d r=>
     have:(x++[c]++d::r).getLast?=(d::r).getLast?:=by
      rw [List.getLast?_append,List.getLast?_cons]
      rfl
     rw [this]
   | some p=>
    simp only [Option.map_some]
    rw [hL _ (by simp),hL2]
theorem yB:∀ (b:List Int) (rest:List Int) (sk:Bool) (m:Nat),Xh (rest,sk)→(rest++b).length<m→kQ m sk (rest++b)=mv (rest,sk) b
 | [],rest,sk,m,hv,hm=>by
  obtain ⟨m,rfl⟩:∃ q,m=q+1:=⟨m - 1,by omega⟩
  rw [List.append_nil,kQ,mv]
  unfold Xh at hv
  cases sk with
  | true=>
   rw [if_pos rfl] at hv
   rcases hv with h | h<;>simp only at h<;>subst h<;>rfl
  | false=>
   rw [if_neg (by simp)] at hv
   have h1:Zn rest=none:=hv.1
   have h2:rest.length<512:=hv.2
   rw [h1]
   unfold PR
   rw [if_pos ⟨rfl,h2⟩]
 | c::r,rest,sk,m,hv,hm=>by
  obtain ⟨m,rfl⟩:∃ q,m=q+1:=⟨m - 1,by omega⟩
  have hsv:=UB (rest,sk) c hv
  have hm':rest.length+(r.length+1)<m+1:=by simpa using hm
  rw [mv]
  cases sk with
  | true=>
   unfold Xh at hv
   rw [if_pos rfl] at hv
   have hv:rest=[]∨rest=[13]:=hv
   by_cases hc:rest=[13]∧c=10
   · have e:pi (rest,true) c=(([],false),[([],true)]):=by unfold pi;rw [if_pos rfl,if_pos hc]
     rw [e]
     have ih:=yB r [] false m ⟨rfl,by decide⟩ (by rw [List.nil_append];omega)
     rw [List.nil_append] at ih
     rw [hc.1,hc.2]
     show kQ (m+1) true (13::10::r)=_
     rw [kQ,Zn,if_pos ⟨rfl,rfl⟩]
     simp only [ih]
     rfl
   · have e:pi (rest,true) c=((Wu c,true),[]):=by unfold pi;rw [if_pos rfl,if_neg hc]
     rw [e] at hsv ⊢
     have hx0:Zn rest=none:=by rcases hv with h | h<;>rw [h]<;>rfl
     have hx:Zn (rest++[c])=none:=yL rest c hx0 (fun e=>hc ⟨by
      rcases hv with h | h
      · rw [h] at e;simp at e
      · exact h,e.2⟩)
     have hlen:(Wu c++r).length<m+1:=by
      unfold Wu
      split<;>simp<;>omega
     rw [xW m rest c r true hx hx0 (.inl rfl),yB r (Wu c) true (m+1) hsv hlen]
     rfl
  | false=>
   have hv0:=hv
   unfold Xh at hv
   rw [if_neg (by simp)] at hv
   have h1:Zn rest=none:=hv.1
   have h2:rest.length<512:=hv.2
   by_cases hc:rest.getLast?=some 13∧c=10
   · have e:pi (rest,false) c=(([],false),[(rest.dropLast,false)]):=by unfold pi;rw [if_neg (by simp),if_pos hc]
     rw [e]
     have ih:=yB r [] false m ⟨rfl,by decide⟩ (by rw [List.nil_append];omega)
     rw [List.nil_append] at ih
     obtain ⟨x,rfl⟩:∃ x,rest=x++[13]:=by
      have hne:rest≠[]:=fun e=>by rw [e] at hc;simp at hc
      refine ⟨rest.dropLast,?_⟩
      have h3:=List.dropLast_concat_getLast hne
      have h4:=hc.1
      rw [List.getLast?_eq_some_getLast hne] at h4
      rw [Option.some.inj h4] at h3
      exact h3.symm
     have hx:Zn x=none:=by
      cases hp:Zn x with
      | none=>rfl
      | some p=>
       have:=KP x p.1 p.2 hp
       exfalso
       have hq:∀ (a b:List Int),Zn (a++13::10::b)≠none:=by
        intro a
        induction a with
        | nil=>intro b hb;simp [Zn] at hb
        | cons a0 a iha=>
         intro b hb
         cases a with
         | nil=>
          show False
          have hb:Zn (a0::13::10::b)=none:=hb
          rw [Zn] at hb
          by_cases hh:a0=13∧(13:Int)=10
          · exact absurd hh.2 (by decide)
          · rw [if_neg hh] at hb
            have:=iha b
            simp only [List.nil_append] at this
            cases hcc:Zn (13::10::b) with
            | none=>exact this hcc
            | some p=>rw [hcc] at hb;cases hb
         | cons a1 a=>
          have hb:Zn (a0::a1::(a++13::10::b))=none:=hb
          rw [Zn] at hb
          split at hb
          · cases hb
          · have:=iha b
            cases hcc:Zn (a1::a++13::10::b) with
            | none=>exact this hcc
            | some p=>
             have hcc:Zn (a1::(a++13::10::b))=some p:=hcc
             rw [hcc] at hb;cases hb
       rw [this] at h1
       have h1':Zn (p.1++13::10::(p.2++[13]))=none:=by simpa using h1
       exact hq _ _ h1'
     rw [hc.2,show (x++[13])++10::r=x++13::10::r by simp,kQ,TF x (13::10::r) hx (fun e=>by simp at e),Zn,if_pos ⟨rfl,rfl⟩]
     simp only [Option.map_some,ih,List.append_nil]
     have hl:PN x false=(x,false):=by
      unfold PN
      rw [if_neg]
      rintro (h | h)
      · cases h
      · simp at h2;omega
     rw [hl,List.dropLast_concat]
     rfl
   · by_cases h5:(rest++[c]).length≥512
     · have e:pi (rest,false) c=((Wu c,true),[]):=by unfold pi;rw [if_neg (by simp),if_neg hc,if_pos h5]
       rw [e] at hsv ⊢
       have hx:Zn (rest++[c])=none:=yL rest c h1 hc
       have hlen:(Wu c++r).length<m+1:=by
        unfold Wu
        split<;>simp<;>omega
       rw [xW m rest c r false hx h1 (.inr (by simp at h5;omega)),yB r (Wu c) true (m+1) hsv hlen]
       rfl
     · have e:pi (rest,false) c=((rest++[c],false),[]):=by unfold pi;rw [if_neg (by simp),if_neg hc,if_neg h5]
       rw [e] at hsv ⊢
       have:=yB r (rest++[c]) false (m+1) hsv (by simp;omega)
       rw [show rest++c::r=(rest++[c])++r by simp,this]
       rfl
open Go Go.RowKit
abbrev Ln:=BA×(Bool×Unit)
def lnL (x:Ln):List Int×Bool:=(bs x.1,x.2.1)
abbrev eB:BA:=⟨#[]⟩
abbrev ceB:BA:=⟨#[13,10]⟩
theorem R3 {n:Nat} (h:n≤4000000):Ta (n+1) 24=true:=by
 unfold Ta
 simp only [Bool.and_eq_true,Nat.ble_eq]
 omega
theorem GL:∀ (l:List UInt8) (k:Int),gY l [13,10] k=match Zn (l.map fun c=>(c.toNat:Int)) with
  | none=> -1
  | some p=>(p.1.length:Int)+k
 | [],k=>rfl
 | [b],k=>by
  unfold gY
  have h:(List.isPrefixOf [(13:UInt8),10] [b])=false:=by simp [List.isPrefixOf]
  rw [h];rfl
 | b::c::l,k=>by
  have ih:=GL (c::l) (k+1)
  unfold gY
  have e1:∀ (x y:UInt8),(x.toNat:Int)=(y.toNat:Int)↔x=y:=fun x y=>⟨fun e=>UInt8.toNat_inj.1 (by omega),fun e=>by rw [e]⟩
  have e13:((b.toNat:Int)=13)↔b=13:=e1 b 13
  have e10:((c.toNat:Int)=10)↔c=10:=e1 c 10
  rw [List.map_cons,List.map_cons,Zn]
  by_cases h:b=13∧c=10
  · have hp:(List.isPrefixOf [(13:UInt8),10] (b::c::l))=true:=by rw [h.1,h.2];rfl
    rw [if_pos hp,if_pos ⟨e13.2 h.1,e10.2 h.2⟩]
    simp
  · have hp:(List.isPrefixOf [(13:UInt8),10] (b::c::l))=false:=by
     simp only [List.isPrefixOf,Bool.and_true,Bool.and_eq_false_iff,beq_eq_false_iff_ne]
     by_cases hb:b=13
     · right;exact fun e=>h ⟨hb,e.symm⟩
     · left;exact fun e=>hb e.symm
    have hn:¬((b.toNat:Int)=13∧(c.toNat:Int)=10):=fun e=>h ⟨e13.1 e.1,e10.1 e.2⟩
    rw [hp,if_neg (by simp),ih,if_neg hn,List.map_cons]
    cases Zn ((c.toNat:Int)::l.map fun c=>(c.toNat:Int)) with
    | none=>rfl
    | some p=>
     show (p.1.length:Int)+(k+1)=((p.1.length+1:Nat):Int)+k
     omega
theorem D0 (n:Nat) (s:BA) (hs:s.size≤1000000) (h:Zn (bs s)=none):XJ n s ceB=some (s,(eB,(false,()))):=by
 have hi:lD s ceB=some (-1):=by
  unfold lD
  rw [if_pos (by omega)]
  have:=GL s.data.toList 0
  have hb:Zn (s.data.toList.map fun c=>(c.toNat:Int))=none:=h
  rw [hb] at this
  exact congrArg some this
 unfold XJ LH UO bG
 rw [hi];rfl
theorem F0 (n:Nat) (s:BA) (hs:s.size≤1000000) {p:List Int×List Int} (h:Zn (bs s)=some p):∃ a b,XJ n s ceB=some (a,(b,(true,())))∧bs a=p.1∧bs b=p.2:=by
 have hl:=KP _ _ _ h
 have hlen:s.size=p.1.length+(p.2.length+2):=by rw [←za,hl];simp
 have hi:lD s ceB=some (p.1.length:Int):=by
  unfold lD
  rw [if_pos (by omega)]
  have:=GL s.data.toList 0
  have hb:Zn (s.data.toList.map fun c=>(c.toNat:Int))=some p:=h
  rw [hb] at this
  simp only [Int.add_zero] at this
  exact congrArg some this
 have w:IntKind.wrap .i64 ((p.1.length:Int)+(ceB.size:Int))=((p.1.length+2:Nat):Int):=by
  rw [show (ceB.size:Int)=2 from rfl,wr (by omega) (by omega)];rfl
 refine ⟨s.extract 0 p.1.length,s.extract (p.1.length+2) s.size,?_,?_,?_⟩
 · unfold XJ LH UO bG
   rw [hi,Option.bind_some,if_pos (by simp),if_pos ⟨by omega,by omega⟩,w,if_pos ⟨by omega,by omega⟩,Option.bind_some]
   rfl
 · rw [Tg,List.drop_zero,hl,List.take_left]
 · rw [Tg,←za,List.take_length,hl]
   rw [List.drop_append]
   simp
theorem u5 (n:Nat) (s:BA) (sk:Bool) (hs:s.size≤1000000):∃ r,nv n (s,(sk,()))=some r∧lnL r=PR (bs s) sk:=by
 unfold nv nw PR
 have hx:=dw n s (⟨#[13]⟩:BA) hs (c:=13) rfl
 cases sk with
 | false=>
  by_cases h:s.size<512
  · have h1:decide ((s.size:Int)<512)=true:=decide_eq_true (by omega)
    rw [if_pos (by rfl),if_pos h1,if_pos ⟨rfl,by rw [za];exact h⟩]
    exact ⟨_,rfl,rfl⟩
  · have h1:decide ((s.size:Int)<512)=false:=decide_eq_false (by omega)
    have h2:¬(false=false∧(bs s).length<512):=fun e=>h (by rw [←za];exact e.2)
    rw [if_pos (by rfl),if_neg (by rw [h1];simp),if_neg h2,hx,Option.bind_some]
    by_cases g:(bs s).getLast?=some 13
    · rw [if_pos (decide_eq_true g),if_pos g];exact ⟨_,rfl,rfl⟩
    · rw [if_neg (by simpa using g),if_neg g];exact ⟨_,rfl,rfl⟩
 | true=>
  rw [if_neg (by simp),if_neg (by simp),hx,Option.bind_some]
  by_cases g:(bs s).getLast?=some 13
  · rw [if_pos (decide_eq_true g),if_pos g];exact ⟨_,rfl,rfl⟩
  · rw [if_neg (by simpa using g),if_neg g];exact ⟨_,rfl,rfl⟩
theorem A1 (n:Nat) (s:BA) (sk:Bool) (hs:s.size≤1000000):∃ r,sq n s sk=some r∧lnL r=PN (bs s) sk:=by
 unfold sq Vs PN
 have w:IntKind.wrap .i64 ((s.size:Int)+2)=(s.size:Int)+2:=wr (by omega) (by omega)
 cases sk with
 | true=>rw [if_neg (by simp),if_pos (.inl rfl)];exact ⟨_,rfl,rfl⟩
 | false=>
  rw [if_pos rfl,w,za]
  by_cases h:s.size>510
  · rw [if_pos (decide_eq_true (by omega)),if_pos (.inr h)];exact ⟨_,rfl,rfl⟩
  · rw [if_neg (by rw [decide_eq_true_iff];omega),if_neg (by rintro (e | e)<;>first | cases e | exact h e)];exact ⟨_,rfl,rfl⟩
theorem I3 (n:Nat) (t4:BA) (t41:Bool):∀ (d m:Nat) (all:BA) (sk:Bool) (l:Sq Ln),all.size<d→d≤m→all.size≤1000000→l.n+all.size≤3000000→
  ∃ rest sk2 l2,sd n m all sk t4 t41 l=some (.ret (rest,sk2,l2))∧(bs rest,sk2)=(kQ d sk (bs all)).1∧sqL lnL l2=sqL lnL l++(kQ d sk (bs all)).2
 | 0,m,all,sk,l,h,_,_,_=>by omega
 | d+1,m,all,sk,l,h,hm,hs,hl=>by
  obtain ⟨m,rfl⟩:∃ q,m=q+1:=⟨m - 1,by omega⟩
  have f:=R3 (n:=l.n) (by omega)
  cases hc:Zn (bs all) with
  | none=>
   obtain ⟨r,h1,h2⟩:=u5 n all sk hs
   refine ⟨r.1,r.2.1,l,?_,?_,?_⟩
   · simp only [sd,ck,D0 n all hs hc,Option.bind_some,Bool.not_false,if_true,h1]
   · rw [kQ,hc];exact h2
   · rw [kQ,hc];simp
  | some p=>
   have hl2:=KP _ _ _ hc
   have hlen:all.size=p.1.length+(p.2.length+2):=by rw [←za,hl2];simp
   obtain ⟨a,b,c1,c2,c3⟩:=F0 n all hs hc
   have ha:a.size=p.1.length:=by rw [←za,c2]
   have hb:b.size=p.2.length:=by rw [←za,c3]
   obtain ⟨r,h1,h2⟩:=A1 n a sk (by omega)
   obtain ⟨rest,sk2,l2,i1,i2,i3⟩:=I3 n t4 t41 d m b false (⟨l.n+1,fun q=>if q<l.n then l.at' q else (fun q=>List.getD (α:=Ln) [(r.1,(r.2.1,()))] q (Aa (.pair .str (.pair .bool .unit)))) (q - l.n)⟩:Sq Ln) (by omega) (by omega) (by omega) (by show l.n+1+b.size≤_;omega)
   refine ⟨rest,sk2,l2,?_,?_,?_⟩
   · simp only [sd,ck,c1,Option.bind_some,Bool.not_true,Bool.false_eq_true,if_false,h1,f,if_true]
     exact i1
   · rw [kQ,hc,i2,c3]
   · rw [kQ,hc,i3,Ot lnL l (r.1,(r.2.1,())) (Aa (.pair .str (.pair .bool .unit))),c3]
     have hr:lnL (r.1,(r.2.1,()))=PN p.1 sk:=by rw [←c2];exact h2
     rw [hr]
     simp
def okB (b:Sq Int):Prop:=∀ i,i<b.n→0≤b.at' i∧b.at' i<256
theorem d7 (n:Nat) (rest:BA) (sk:Bool) (b:Sq Int) (hb:okB b) (hs:rest.size+b.n≤1000000) (hn:10000000≤n) (hv:Xh (bs rest,sk)):
  ∃ r2 sk2 l2,yn n (rest,(sk,())) b=some ((r2,(sk2,())),(l2,()))∧(bs r2,sk2)=(mv (bs rest,sk) (sqL id b)).1∧sqL lnL l2=(mv (bs rest,sk) (sqL id b)).2:=by
 have hst:bs (ah b.n b.at')=sqL id b:=sB hb
 have hsz:(ah b.n b.at').size=b.n:=by rw [←za,hst,Gd]
 have hsz2:(rest++ah b.n b.at').size=rest.size+b.n:=by rw [ByteArray.size_append,hsz]
 have hF:Ca rest (ah b.n b.at')=true:=FN (by rw [hsz];omega)
 obtain ⟨r2,sk2,l2,h1,h2,h3⟩:=I3 n eB false (rest.size+b.n+1) n (rest++ah b.n b.at') sk (⟨0,fun _=>Aa (.pair .str (.pair .bool .unit))⟩:Sq Ln) (by omega) (by omega) (by omega) (by show 0+_≤_;omega)
 have hp:=yB (sqL id b) (bs rest) sk (rest.size+b.n+1) hv (by rw [List.length_append,za,Gd];omega)
 rw [wn,hst,hp] at h2 h3
 refine ⟨r2,sk2,l2,?_,h2,by rw [h3];rfl⟩
 unfold yn mw
 rw [if_pos hF,h1,Option.bind_some]
 rfl
open Go Go.RowKit
theorem J2 (n:Nat) (c:Int):∃ t,vA n c=some t∧bs t=Wu c:=by
 unfold vA RG Wu
 by_cases h:c=13
 · rw [if_pos (by simpa using h),if_pos h];exact ⟨_,rfl,rfl⟩
 · rw [if_neg (by simpa using h),if_neg h];exact ⟨_,rfl,rfl⟩
theorem JY (n:Nat) (s:BA) (x:List Int) (c:Int) (hs:s.size≤1000000) (h:bs s=x++[c]):uA n s=some (decide (x.getLast?=some 13∧c=10)):=by
 have hl:s.size=x.length+1:=by rw [←za,h];simp
 unfold uA PG
 by_cases h2:2≤s.size
 · have w2:IntKind.wrap .i64 ((s.size:Int) - 2)=((x.length - 1:Nat):Int):=by rw [wr (by omega) (by omega)];omega
   have w1:IntKind.wrap .i64 ((s.size:Int) - 1)=((x.length:Nat):Int):=by rw [wr (by omega) (by omega)];omega
   have b1:bt s ((x.length:Nat):Int)=c:=iU (by rw [h,List.getElem?_append_right (Nat.le_refl _),Nat.sub_self];rfl)
   obtain ⟨a,ha⟩:∃ a,x.getLast?=some a:=by
    cases x with
    | nil=>simp at hl;omega
    | cons y ys=>exact ⟨_,List.getLast?_cons⟩
   have b2:bt s ((x.length - 1:Nat):Int)=a:=iU (by
    rw [h,List.getElem?_append_left (by omega),←List.getLast?_eq_getElem?];exact ha)
   rw [if_pos (decide_eq_true (by omega)),w2,w1,if_pos ⟨by omega,by omega⟩,b2,ha]
   by_cases g:a=13
   · rw [if_pos (by simpa using g),if_pos ⟨by omega,by omega⟩,b1,g]
     congr 1
     rw [Bool.eq_iff_iff]
     simp
   · rw [if_neg (by simpa using g)]
     congr 1
     symm
     rw [decide_eq_false_iff_not]
     rintro ⟨e,_⟩
     exact g (Option.some.inj e)
 · rw [if_neg (by rw [decide_eq_true_iff];omega)]
   congr 1
   symm
   rw [decide_eq_false_iff_not]
   rintro ⟨e,_⟩
   have:x=[]:=List.eq_nil_of_length_eq_zero (by omega)
   rw [this] at e;cases e
theorem kY (n:Nat) (t4:BA) (t41:Bool) (b:Sq Int) (hb:okB b) (hbn:b.n≤1000000):∀ (r:List Int) (i m:Nat) (f1:BA) (f2:Bool) (l:Sq Ln),(sqL id b).drop i=r→i≤b.n→r.length<m→Xh (bs f1,f2)→l.n≤i→
  ∃ r2 sk2 l2,jc n m b (i:Int) f1 f2 t4 t41 l=some (.out (r2,sk2,t4,t41,l2))∧(bs r2,sk2)=(mv (bs f1,f2) r).1∧sqL lnL l2=sqL lnL l++(mv (bs f1,f2) r).2
 | [],i,m,f1,f2,l,hd,hi,hm,hv,hl=>by
  obtain ⟨m,rfl⟩:∃ q,m=q+1:=⟨m - 1,by omega⟩
  have h1:¬((i:Int)<(b.n:Int)):=by
   have:=congrArg List.length hd
   rw [List.length_drop,Gd] at this
   simp at this;omega
  refine ⟨f1,f2,l,?_,rfl,?_⟩
  · simp only [jc,Qf,h1,decide_false,Bool.false_eq_true,if_false]
  · simp [mv]
 | c::r,i,m,f1,f2,l,hd,hi,hm,hv,hl=>by
  obtain ⟨m,rfl⟩:∃ q,m=q+1:=⟨m - 1,by omega⟩
  have hlt:i<b.n:=by
   have:=congrArg List.length hd
   rw [List.length_drop,Gd] at this
   simp at this;omega
  have hc:b.at' i=c:=by
   have h1:(sqL id b)[i]?=some c:=by rw [←List.head?_drop,hd];rfl
   rw [wo hlt] at h1
   exact Option.some.inj h1
  have hd2:(sqL id b).drop (i+1)=r:=by rw [←List.tail_drop,hd];rfl
  have hcb:=hb i hlt
  rw [hc] at hcb
  have a1:(i:Int)<(b.n:Int):=by omega
  have a2:(0:Int)≤(i:Int):=by omega
  have e1:=wr1 (k:=i) (by omega)
  have f:=R3 (n:=l.n) (by omega)
  have hm':r.length<m:=by simpa using hm
  obtain ⟨tl,t1,t2⟩:=J2 n c
  have hsv:=UB (bs f1,f2) c hv
  have go:∀ (g1:BA) (g2:Bool) (l':Sq Ln),(bs g1,g2)=(pi (bs f1,f2) c).1→sqL lnL l'=sqL lnL l++(pi (bs f1,f2) c).2→l'.n≤i+1→
    ∃ r2 sk2 l2,jc n m b ((i+1:Nat):Int) g1 g2 t4 t41 l'=some (.out (r2,sk2,t4,t41,l2))∧(bs r2,sk2)=(mv (bs f1,f2) (c::r)).1∧sqL lnL l2=sqL lnL l++(mv (bs f1,f2) (c::r)).2:=fun g1 g2 l' k1 k2 k3=>by
   obtain ⟨r2,sk2,l2,h1,h2,h3⟩:=kY n t4 t41 b hb hbn r (i+1) m g1 g2 l' hd2 (by omega) hm' (by rw [k1];exact hsv) k3
   refine ⟨r2,sk2,l2,h1,?_,?_⟩
   · rw [h2,k1];rfl
   · rw [h3,k2,k1,List.append_assoc];rfl
  cases f2 with
  | true=>
   by_cases g:bs f1=[13]
   · have g1:(f1.toList==(⟨#[13]⟩:BA).toList)=true:=by rw [ws];exact decide_eq_true g
     by_cases g2:c=10
     · have e:pi (bs f1,true) c=(([],false),[([],true)]):=by unfold pi;rw [if_pos rfl,if_pos ⟨g,g2⟩]
       obtain ⟨r2,sk2,l2,h1,h2,h3⟩:=go eB false (⟨l.n+1,fun q=>if q<l.n then l.at' q else (fun q=>List.getD (α:=Ln) [(eB,(true,()))] q (Aa (.pair .str (.pair .bool .unit)))) (q - l.n)⟩:Sq Ln) (by rw [e];rfl) (by rw [e,Ot lnL l (eB,(true,())) (Aa (.pair .str (.pair .bool .unit)))];rfl) (Nat.succ_le_succ hl)
       refine ⟨r2,sk2,l2,?_,h2,h3⟩
       have g2':(c==10)=true:=by simpa using g2
       simp only [jc,Qf,a1,a2,decide_true,if_true,and_self,g1,Int.toNat_natCast,hc,g2',f,e1]
       exact h1
     · have e:pi (bs f1,true) c=((Wu c,true),[]):=by unfold pi;rw [if_pos rfl,if_neg (fun e=>g2 e.2)]
       obtain ⟨r2,sk2,l2,h1,h2,h3⟩:=go tl true l (by rw [e,t2]) (by rw [e];simp) (by omega)
       refine ⟨r2,sk2,l2,?_,h2,h3⟩
       have g2':(c==10)=false:=by simpa using g2
       simp only [jc,Qf,a1,a2,decide_true,if_true,and_self,g1,Int.toNat_natCast,hc,g2',t1,Option.bind_some,Bool.false_eq_true,if_false,e1]
       exact h1
   · have g1:(f1.toList==(⟨#[13]⟩:BA).toList)=false:=by rw [ws];exact decide_eq_false g
     have e:pi (bs f1,true) c=((Wu c,true),[]):=by unfold pi;rw [if_pos rfl,if_neg (fun e=>g e.1)]
     obtain ⟨r2,sk2,l2,h1,h2,h3⟩:=go tl true l (by rw [e,t2]) (by rw [e];simp) (by omega)
     refine ⟨r2,sk2,l2,?_,h2,h3⟩
     simp only [jc,Qf,a1,a2,decide_true,if_true,and_self,g1,Int.toNat_natCast,hc,t1,Option.bind_some,Bool.false_eq_true,if_false,e1]
     exact h1
  | false=>
   unfold Xh at hv
   rw [if_neg (by simp)] at hv
   have hf1:f1.size<512:=by rw [←za];exact hv.2
   have one:bs (ah ((i+1) - i) (fun j_0=>b.at' (i+j_0)))=[c]:=by
    rw [show i+1 - i=1 by omega,sB (fun j hj=>by
     obtain rfl:j=0:=by omega
     rw [Nat.add_zero];exact hb i hlt)]
    show [b.at' (i+0)]=[c]
    rw [Nat.add_zero,hc]
   generalize ho:ah ((i+1) - i) (fun j_0=>b.at' (i+j_0))=o at one
   have hos:o.size=1:=by rw [←za,one];rfl
   have hbs:bs (f1++o)=bs f1++[c]:=by rw [wn,one]
   have hsz:(f1++o).size=f1.size+1:=by rw [ByteArray.size_append,hos]
   have hF:Ca f1 o=true:=FN (by omega)
   have hE:=JY n (f1++o) (bs f1) c (by omega) hbs
   have a3:(i:Int)≤((i+1:Nat):Int):=by omega
   have a4:(0:Int)≤((i+1:Nat):Int):=by omega
   have a5:((i+1:Nat):Int)≤(b.n:Int):=by omega
   by_cases g:(bs f1).getLast?=some 13∧c=10
   · have e:pi (bs f1,false) c=(([],false),[((bs f1).dropLast,false)]):=by unfold pi;rw [if_neg (by simp),if_pos g]
     have hf2:1≤f1.size:=by
      rw [←za]
      cases hq:bs f1 with
      | nil=>rw [hq] at g;simp at g
      | cons y ys=>simp
     have w2:IntKind.wrap .i64 (((f1++o).size:Int) - 2)=((f1.size - 1:Nat):Int):=by rw [wr (by omega) (by omega)];omega
     have a6:(0:Int)≤((f1.size - 1:Nat):Int):=by omega
     have a7:((f1.size - 1:Nat):Int)≤((f1++o).size:Int):=by omega
     have hx:bs ((f1++o).extract 0 (f1.size - 1))=(bs f1).dropLast:=by
      rw [Tg,List.drop_zero,hbs,List.take_append_of_le_length (by rw [za];omega),List.dropLast_eq_take,za]
     obtain ⟨r2,sk2,l2,h1,h2,h3⟩:=go eB false (⟨l.n+1,fun q=>if q<l.n then l.at' q else (fun q=>List.getD (α:=Ln) [((f1++o).extract 0 (f1.size - 1),(false,()))] q (Aa (.pair .str (.pair .bool .unit)))) (q - l.n)⟩:Sq Ln) (by rw [e];rfl) (by
      rw [e,Ot lnL l ((f1++o).extract 0 (f1.size - 1),(false,())) (Aa (.pair .str (.pair .bool .unit)))]
      show _++[(bs ((f1++o).extract 0 (f1.size - 1)),false)]=_
      rw [hx]) (Nat.succ_le_succ hl)
     refine ⟨r2,sk2,l2,?_,h2,h3⟩
     have hE':uA n (f1++o)=some true:=by rw [hE,decide_eq_true g]
     simp only [jc,Qf,a1,a2,a3,a4,a5,decide_true,if_true,and_self,Int.toNat_natCast,e1,ho,hF,hE',Option.bind_some,Bool.false_eq_true,if_false,w2,a6,a7,f]
     exact h1
   · have hE':uA n (f1++o)=some false:=by rw [hE,decide_eq_false g]
     by_cases h5:512≤(f1++o).size
     · have e:pi (bs f1,false) c=((Wu c,true),[]):=by unfold pi;rw [if_neg (by simp),if_neg g,if_pos (by show 512≤(bs f1++[c]).length;rw [←hbs,za];exact h5)]
       obtain ⟨r2,sk2,l2,h1,h2,h3⟩:=go tl true l (by rw [e,t2]) (by rw [e];simp) (by omega)
       refine ⟨r2,sk2,l2,?_,h2,h3⟩
       have h5':((f1++o).size:Int)≥512:=by omega
       simp only [jc,Qf,a1,a2,a3,a4,a5,decide_true,if_true,and_self,Int.toNat_natCast,e1,ho,hF,hE',Option.bind_some,Bool.false_eq_true,if_false,h5',hc,t1]
       exact h1
     · have e:pi (bs f1,false) c=((bs f1++[c],false),[]):=by unfold pi;rw [if_neg (by simp),if_neg g,if_neg (by show ¬(512≤(bs f1++[c]).length);rw [←hbs,za];exact h5)]
       obtain ⟨r2,sk2,l2,h1,h2,h3⟩:=go (f1++o) false l (by rw [e,hbs]) (by rw [e];simp) (by omega)
       refine ⟨r2,sk2,l2,?_,h2,h3⟩
       have h5':¬(((f1++o).size:Int)≥512):=by omega
       simp only [jc,Qf,a1,a2,a3,a4,a5,decide_true,decide_false,if_true,and_self,Int.toNat_natCast,e1,ho,hF,hE',Option.bind_some,Bool.false_eq_true,if_false,h5']
       exact h1
theorem J4 (n:Nat) (rest:BA) (sk:Bool) (b:Sq Int) (hb:okB b) (hs:b.n≤1000000) (hn:10000000≤n) (hv:Xh (bs rest,sk)):
  ∃ r2 sk2 l2,CI n (rest,(sk,())) b=some ((r2,(sk2,())),(l2,()))∧(bs r2,sk2)=(mv (bs rest,sk) (sqL id b)).1∧sqL lnL l2=(mv (bs rest,sk) (sqL id b)).2:=by
 obtain ⟨r2,sk2,l2,h1,h2,h3⟩:=kY n eB false b hb hs (sqL id b) 0 n rest sk (⟨0,fun _=>Aa (.pair .str (.pair .bool .unit))⟩:Sq Ln) (by simp) (Nat.zero_le _) (by rw [Gd];omega) hv (Nat.le_refl _)
 rw [show ((0:Nat):Int)=0 from rfl] at h1
 refine ⟨r2,sk2,l2,?_,h2,by rw [h3];rfl⟩
 unfold CI LG
 rw [h1,Option.bind_some]
 rfl
open Go Go.RowKit
set_option maxRecDepth 100000
def cY (c:Int):Bool:=match wd 10000000 c,oa 10000000 c with
 | some a,some b=>(a.data.toList==b.data.toList)&&Nat.ble a.size 20
 | _,_=>false
theorem V9:(List.range 50).all (fun k=>cY (400+(k:Int)))=true:=by kernel_rfl
theorem W9:(List.range 50).all (fun k=>cY (450+(k:Int)))=true:=by kernel_rfl
theorem X9:(List.range 50).all (fun k=>cY (500+(k:Int)))=true:=by kernel_rfl
theorem Y9:(List.range 50).all (fun k=>cY (550+(k:Int)))=true:=by kernel_rfl
theorem Z9:(cY 250&&(cY 354&&(cY 221&&cY 220)))=true:=by kernel_rfl
def D1 (c:Int):Prop:=c=250∨c=354∨c=221∨c=220∨(400≤c∧c≤599)
theorem F1 {c:Int} (h:D1 c):cY c=true:=by
 have hF:=Z9
 simp only [Bool.and_eq_true] at hF
 have part:∀ (b:Int) (hb:(List.range 50).all (fun k=>cY (b+(k:Int)))=true),b≤c→c<b+50→cY c=true:=fun b hb h1 h2=>by
  have:=List.all_eq_true.1 hb (c - b).toNat (List.mem_range.2 (by omega))
  rw [show b+((c - b).toNat:Int)=c by omega] at this
  exact this
 rcases h with rfl | rfl | rfl | rfl | ⟨h1,h2⟩
 · exact hF.1
 · exact hF.2.1
 · exact hF.2.2.1
 · exact hF.2.2.2
 · by_cases a:c<450
   · exact part 400 V9 (by omega) (by omega)
   · by_cases a:c<500
     · exact part 450 W9 (by omega) (by omega)
     · by_cases a:c<550
       · exact part 500 X9 (by omega) (by omega)
       · exact part 550 Y9 (by omega) (by omega)
theorem Su {c:Int} (h:D1 c):∃ t,wd 10000000 c=some t∧oa 10000000 c=some t∧t.size≤20:=by
 have hc:=F1 h
 unfold cY at hc
 split at hc
 · rename_i a b ha hb
   rw [Bool.and_eq_true] at hc
   have e:a=b:=by
    have h1:a.data.toList=b.data.toList:=by simpa using hc.1
    obtain ⟨⟨a⟩⟩:=a
    obtain ⟨⟨b⟩⟩:=b
    simp only at h1
    rw [h1]
   subst e
   exact ⟨a,ha,hb,Nat.le_of_ble_eq_true hc.2⟩
 · cases hc
open Go Go.RowKit
def SqE {T:Type} (a b:Sq T):Prop:=a.n=b.n∧∀ i,i<a.n→a.at' i=b.at' i
theorem SqE.refl {T:Type} (a:Sq T):SqE a a:=⟨rfl,fun _ _=>rfl⟩
theorem SqE.symm {T:Type} {a b:Sq T} (h:SqE a b):SqE b a:=⟨h.1.symm,fun i hi=>(h.2 i (by rw [h.1];exact hi)).symm⟩
theorem SqE.trans {T:Type} {a b c:Sq T} (h:SqE a b) (k:SqE b c):SqE a c:=⟨h.1.trans k.1,fun i hi=>(h.2 i hi).trans (k.2 i (by rw [←h.1];exact hi))⟩
theorem SqE.zero {T:Type} (f g:Nat→T):SqE (⟨0,f⟩:Sq T) ⟨0,g⟩:=⟨rfl,fun i hi=>absurd hi (Nat.not_lt_zero i)⟩
abbrev Mbx:=BA×(BA×Unit)
theorem s7 {n:Nat} (h:n≤4000000):Ta (n+1) 32=true:=by
 unfold Ta
 simp only [Bool.and_eq_true,Nat.ble_eq]
 omega
theorem oJ (n:Nat) (a b:Sq BA) (h:SqE a b) (hn:a.n≤4000000):∀ (d i m:Nat),i+d=a.n→d<m→Lb n m a b (i:Int)=some (.out ())
 | 0,i,m,hi,hm=>by
  obtain ⟨m,rfl⟩:∃ q,m=q+1:=⟨m - 1,by omega⟩
  have e:¬((i:Int)<(a.n:Int)):=by omega
  simp [Lb,Pf,e]
 | d+1,i,m,hi,hm=>by
  obtain ⟨m,rfl⟩:∃ q,m=q+1:=⟨m - 1,by omega⟩
  have e1:=wr1 (k:=i) (by omega)
  have a3:(0:Int)≤(i:Int):=by omega
  have a4:(i:Int)<(a.n:Int):=by omega
  have a5:(i:Int)<(b.n:Int):=by rw [←h.1];exact a4
  have ih:=oJ n a b h hn d (i+1) m (by omega) (by omega)
  have e2:=h.2 i (by omega)
  simp only [Lb,Pf,a3,a4,a5,e1,e2,Int.toNat_natCast,decide_true,if_true,and_self,beq_self_eq_true,Bool.not_true,Bool.false_eq_true,if_false]
  exact ih
theorem mR (n:Nat) (a b:Sq BA) (h:SqE a b) (hl:a.n≤4000000) (hn:10000000≤n):Lh n a b=some true:=by
 have h0:=oJ n a b h hl a.n 0 n (by omega) (by omega)
 rw [show ((0:Nat):Int)=0 from rfl] at h0
 unfold Lh Wm
 rw [if_neg (by rw [h.1];simp),h0];rfl
theorem WC (n:Nat) (a:Sq BA) (hn:a.n≤4000000):∀ (d i m:Nat) (r:Sq BA),i+d=a.n→d<m→r.n=i→(∀ q,q<i→r.at' q=a.at' q)→
  ∃ x,Sa n m a (i:Int) r=some (.out x)∧SqE x a
 | 0,i,m,r,hi,hm,hr,hq=>by
  obtain ⟨m,rfl⟩:∃ q,m=q+1:=⟨m - 1,by omega⟩
  have e:¬((i:Int)<(a.n:Int)):=by omega
  exact ⟨r,by simp [Sa,Kc,e],by omega,fun q hq'=>hq q (by omega)⟩
 | d+1,i,m,r,hi,hm,hr,hq=>by
  obtain ⟨m,rfl⟩:∃ q,m=q+1:=⟨m - 1,by omega⟩
  have e1:=wr1 (k:=i) (by omega)
  have a3:(0:Int)≤(i:Int):=by omega
  have a4:(i:Int)<(a.n:Int):=by omega
  obtain ⟨x,hx,hx2⟩:=WC n a hn d (i+1) m (⟨(r.n+1),fun q=>if q<r.n then r.at' q else (fun q=>List.getD (α:=BA) [(a.at' i)] q (Aa .str)) (q - r.n)⟩:Sq BA) (by omega) (by omega) (by show r.n+1=_;omega) (fun q hq'=>by
   show (if q<r.n then r.at' q else List.getD [a.at' i] (q - r.n) _)=_
   by_cases h:q<r.n
   · rw [if_pos h,hq q (by omega)]
   · rw [if_neg h,show q - r.n=0 by omega,show q=i by omega];rfl)
  refine ⟨x,?_,hx2⟩
  have hf:=S6 (n:=r.n) (by omega)
  simp only [Sa,Kc,a3,a4,e1,hf,Int.toNat_natCast,decide_true,if_true,and_self]
  exact hx
theorem qN (n:Nat) (a:Sq BA) (ha:a.n≤4000000) (hn:10000000≤n):∃ x,Wc n a=some (x,())∧SqE x a:=by
 obtain ⟨x,h0,hx⟩:=WC n a ha a.n 0 n ⟨0,fun _=>Aa .str⟩ (by omega) (by omega) rfl (fun q hq=>absurd hq (Nat.not_lt_zero q))
 rw [show ((0:Nat):Int)=0 from rfl] at h0
 refine ⟨x,?_,hx⟩
 unfold Wc vg
 rw [h0];rfl
theorem qR (n:Nat):∀ (d i m:Nat) (a:Sq BA),a.n≤4000000→i+d=a.n→d<m→∃ x,Bb n m (i:Int) a=some (.out x)∧x.n=a.n
 | 0,i,m,a,hn,hi,hm=>by
  obtain ⟨m,rfl⟩:∃ q,m=q+1:=⟨m - 1,by omega⟩
  have e:¬((i:Int)<(a.n:Int)):=by omega
  exact ⟨a,by simp [Bb,Oe,e],rfl⟩
 | d+1,i,m,a,hn,hi,hm=>by
  obtain ⟨m,rfl⟩:∃ q,m=q+1:=⟨m - 1,by omega⟩
  have e1:=wr1 (k:=i) (by omega)
  have a3:(0:Int)≤(i:Int):=by omega
  have a4:(i:Int)<(a.n:Int):=by omega
  obtain ⟨x,hx,hx2⟩:=qR n d (i+1) m (⟨a.n,fun q=>if q=i∧q<a.n then (⟨#[63]⟩:BA) else a.at' q⟩:Sq BA) hn (by show _=a.n;omega) (by omega)
  refine ⟨x,?_,hx2⟩
  simp only [Bb,Oe,a3,a4,e1,Int.toNat_natCast,decide_true,if_true,and_self]
  exact hx
theorem nY (n:Nat) (a:Sq BA) (ha:a.n≤4000000) (hn:10000000≤n):Rg n a=some ():=by
 obtain ⟨x,h0,hx⟩:=qR n a.n 0 n a ha (by omega) (by omega)
 rw [show ((0:Nat):Int)=0 from rfl] at h0
 unfold Rg Il
 have hf:=S6 (n:=x.n) (by omega)
 rw [h0]
 simp only [Option.bind_some,onL,hf,if_true]
theorem N7 (n:Nat) (s:BA):ni n s (⟨#[46]⟩:BA)=some (if (bs s).head?=some 46 then s.extract 1 s.size else s):=by
 have h:=tk n s (⟨#[46]⟩:BA) (c:=46) rfl
 have h2:Vf n s (⟨#[46]⟩:BA)=some (decide ((bs s).head?=some 46)):=by
  unfold Pa mj at h
  cases hh:Vf n s (⟨#[46]⟩:BA) with
  | none=>rw [hh] at h;cases h
  | some v=>rw [hh] at h;exact h
 unfold ni Hl zk Ak
 rw [h2,Option.bind_some]
 by_cases g:(bs s).head?=some 46
 · have hz:1≤s.size:=by
    rw [←za]
    cases hb:bs s with
    | nil=>rw [hb] at g;cases g
    | cons a l=>simp
   have z1:((⟨#[46]⟩:BA).size:Int)=1:=rfl
   rw [if_pos (by simpa using g),if_pos g,z1,if_pos ⟨by decide,by omega⟩,Option.bind_some]
   rfl
 · rw [if_neg (by simpa using g),if_neg g];rfl
theorem SZ (n:Nat) (s:BA):∃ t last,Gq n s=some (t,(last,()))∧FI n s=some (t,(last,()))∧t.size≤s.size:=by
 unfold Gq kw FI NG
 by_cases h:(s.toList==(⟨#[46]⟩:BA).toList)=true
 · exact ⟨⟨#[]⟩,true,by rw [if_pos h],by rw [if_pos h],Nat.zero_le _⟩
 · rw [if_neg h,if_neg h,N7,Option.bind_some]
   cases hb:bs s with
   | nil=>
    have hz:s.size=0:=by rw [←za,hb];rfl
    refine ⟨s,false,by rw [if_neg (by simp)],?_,Nat.le_refl _⟩
    rw [if_neg (by simp [hz])]
   | cons c r=>
    obtain ⟨h1,h2,h3,h4,h5⟩:=Ah (k:=0) (by rw [List.drop_zero];exact hb)
    rw [show ((0:Nat):Int)=0 from rfl] at h1 h2
    have e1:decide ((s.size:Int)>0)=true:=by simpa using h1
    have e2:(0:Int)≤0∧(0:Int)<(s.size:Int):=⟨Int.le_refl _,h1⟩
    have e3:(0:Int)≤1∧(1:Int)≤(s.size:Int):=⟨by decide,by omega⟩
    rw [if_pos e1,if_pos e2,h2,if_pos e3]
    by_cases g:c=46
    · subst g
      exact ⟨s.extract 1 s.size,false,by rw [if_pos (by simp)],by rw [if_pos (by simp)];rfl,by rw [ByteArray.size_extract];omega⟩
    · exact ⟨s,false,by rw [if_neg (by simpa using g)],by rw [if_neg (by simpa using g)],Nat.le_refl _⟩
open Go Go.RowKit
abbrev NN:Nat:=10000000
def Ry (r:Int):Int:=if 400≤r∧r≤599 then r else 250
theorem CY (r:Int):D1 (Ry r):=by
 unfold Ry
 split
 · rename_i h;exact .inr (.inr (.inr (.inr h)))
 · exact .inl rfl
def aC (q:Sq Int):Int:=if 0<q.n then Ry (q.at' 0) else 250
def uL (q:Sq Int):Sq Int:=if 0<q.n then ⟨q.n - 1,fun j=>q.at' (1+j)⟩ else q
theorem RK (q:Sq Int):D1 (aC q):=by
 unfold aC
 split
 · exact CY _
 · exact .inl rfl
def QRel (q yq:Sq Int) (k:Nat):Prop:=q.n=yq.n - k∧∀ j,j<q.n→q.at' j=yq.at' (k+j)
def o8 (yq:Sq Int) (k:Nat):Int:=if k<yq.n then Ry (yq.at' k) else 250
theorem QRel.code {q yq:Sq Int} {k:Nat} (h:QRel q yq k):o8 yq k=aC q:=by
 unfold o8 aC
 by_cases g:k<yq.n
 · have:0<q.n:=by rw [h.1];omega
   rw [if_pos g,if_pos this,h.2 0 this];rfl
 · have:¬0<q.n:=by rw [h.1];omega
   rw [if_neg g,if_neg this]
theorem QRel.next {q yq:Sq Int} {k:Nat} (h:QRel q yq k):QRel (uL q) yq (k+1):=by
 unfold uL
 by_cases g:0<q.n
 · rw [if_pos g]
   refine ⟨by show q.n - 1=_;rw [h.1];omega,fun j hj=>?_⟩
   have hj:j<q.n - 1:=hj
   show q.at' (1+j)=_
   rw [h.2 (1+j) (by omega)]
   congr 1;omega
 · rw [if_neg g]
   exact ⟨by rw [h.1];have:=h.1;omega,fun j hj=>by omega⟩
section
variable (lm:Bool) (q:Sq Int) (re:BA) (sk:Bool) (fr tx:BA) (inn:Bool) (out:BA) (to got:Sq BA)
theorem Y5 {c:Int} {t:BA} (h:wd NN c=some t) (hf:Ca out t=true):ta NN c lm q re sk fr tx inn out to got=some (lm,(q,(re,(sk,(fr,(tx,(inn,(out++t,(to,(got,())))))))))):=by
 unfold ta nh
 rw [h,Option.bind_some,if_pos hf]
theorem y8 {c:Int} {t:BA} (h:wd NN c=some t) (hf:Ca out t=true):Nb NN c lm q re sk fr to tx inn out got=some (lm,(q,(re,(sk,(fr,(to,(tx,(inn,(out++t,(got,())))))))))):=by
 unfold Nb oh
 rw [h,Option.bind_some,if_pos hf]
theorem L3 {t:BA} (h:wd NN (aC q)=some t) (hf:Ca out t=true):Jb NN lm q re sk fr tx inn out to got=some (aC q==250,(lm,(uL q,(re,(sk,(fr,(tx,(inn,(out++t,(to,(got,()))))))))))):=by
 unfold Jb Hf
 by_cases g:0<q.n
 · have eQ:uL q=⟨q.n - 1,fun j=>q.at' (1+j)⟩:=if_pos g
   have g1:((q.n:Int)>0):=by omega
   have g2:(1:Int)≤(q.n:Int):=by omega
   have z0:(0:Int)≤0:=Int.le_refl _
   have z1:(0:Int)≤1:=by decide
   have z2:(0:Int)<(q.n:Int):=by omega
   have tn:Int.toNat (0:Int)=0:=rfl
   rw [eQ,if_pos (decide_eq_true g1),if_pos ⟨z0,z2⟩,tn]
   by_cases h4:400≤q.at' 0
   · rw [if_pos (decide_eq_true h4)]
     by_cases h5:q.at' 0≤599
     · have eC:aC q=q.at' 0:=by unfold aC Ry;rw [if_pos g,if_pos ⟨h4,h5⟩]
       rw [eC] at h ⊢
       rw [if_pos (decide_eq_true h5),if_pos ⟨z1,g2⟩,Y5 _ _ _ _ _ _ _ _ _ _ h hf];rfl
     · have eC:aC q=250:=by unfold aC Ry;rw [if_pos g,if_neg (fun e=>h5 e.2)]
       rw [eC] at h ⊢
       rw [if_neg (by simpa using h5),if_pos ⟨z1,g2⟩,Y5 _ _ _ _ _ _ _ _ _ _ h hf];rfl
   · have eC:aC q=250:=by unfold aC Ry;rw [if_pos g,if_neg (fun e=>h4 e.1)]
     rw [eC] at h ⊢
     rw [if_neg (by simpa using h4),if_pos ⟨z1,g2⟩,Y5 _ _ _ _ _ _ _ _ _ _ h hf];rfl
 · have eQ:uL q=q:=if_neg g
   have eC:aC q=250:=if_neg g
   rw [eC] at h ⊢
   rw [eQ,if_neg (by rw [decide_eq_true_iff];omega),Y5 _ _ _ _ _ _ _ _ _ _ h hf];rfl
theorem J3 {t:BA} (h:wd NN (aC q)=some t) (hf:Ca out t=true):pb NN lm q re sk fr to tx inn out got=some (aC q==250,(lm,(uL q,(re,(sk,(fr,(to,(tx,(inn,(out++t,(got,()))))))))))):=by
 unfold pb Gf
 by_cases g:0<q.n
 · have eQ:uL q=⟨q.n - 1,fun j=>q.at' (1+j)⟩:=if_pos g
   have g1:((q.n:Int)>0):=by omega
   have g2:(1:Int)≤(q.n:Int):=by omega
   have z0:(0:Int)≤0:=Int.le_refl _
   have z1:(0:Int)≤1:=by decide
   have z2:(0:Int)<(q.n:Int):=by omega
   have tn:Int.toNat (0:Int)=0:=rfl
   rw [eQ,if_pos (decide_eq_true g1),if_pos ⟨z0,z2⟩,tn]
   by_cases h4:400≤q.at' 0
   · rw [if_pos (decide_eq_true h4)]
     by_cases h5:q.at' 0≤599
     · have eC:aC q=q.at' 0:=by unfold aC Ry;rw [if_pos g,if_pos ⟨h4,h5⟩]
       rw [eC] at h ⊢
       rw [if_pos (decide_eq_true h5),if_pos ⟨z1,g2⟩,y8 _ _ _ _ _ _ _ _ _ _ h hf];rfl
     · have eC:aC q=250:=by unfold aC Ry;rw [if_pos g,if_neg (fun e=>h5 e.2)]
       rw [eC] at h ⊢
       rw [if_neg (by simpa using h5),if_pos ⟨z1,g2⟩,y8 _ _ _ _ _ _ _ _ _ _ h hf];rfl
   · have eC:aC q=250:=by unfold aC Ry;rw [if_pos g,if_neg (fun e=>h4 e.1)]
     rw [eC] at h ⊢
     rw [if_neg (by simpa using h4),if_pos ⟨z1,g2⟩,y8 _ _ _ _ _ _ _ _ _ _ h hf];rfl
 · have eQ:uL q=q:=if_neg g
   have eC:aC q=250:=if_neg g
   rw [eC] at h ⊢
   rw [eQ,if_neg (by rw [decide_eq_true_iff];omega),y8 _ _ _ _ _ _ _ _ _ _ h hf];rfl
end
theorem HP (lm:Bool) (yq:Sq Int) (k:Nat) (hk:k≤4000000) (re:BA) (sk:Bool) (pa:BA) (inn:Bool) (li:BA) (bx:Sq Mbx) (got:Sq BA):
  Ha NN lm yq (k:Int) re sk pa inn li bx got=some (o8 yq k,(lm,(yq,(((k+1:Nat):Int),(re,(sk,(pa,(inn,(li,(bx,(got,()))))))))))):=by
 unfold Ha od o8 Ry
 have e1:=wr1 (k:=k) (by omega)
 rw [e1]
 have z0:(0:Int)≤(k:Int):=by omega
 by_cases g:k<yq.n
 · have g1:(k:Int)<(yq.n:Int):=by omega
   rw [if_pos (decide_eq_true g1),if_pos ⟨z0,g1⟩,Int.toNat_natCast,if_pos g]
   by_cases h4:400≤yq.at' k
   · rw [if_pos (decide_eq_true h4),if_pos ⟨z0,g1⟩]
     by_cases h5:yq.at' k≤599
     · rw [if_pos (decide_eq_true h5),if_pos ⟨z0,g1⟩,if_pos ⟨h4,h5⟩]
     · rw [if_neg (by simpa using h5),if_neg (fun e=>h5 e.2)]
   · rw [if_neg (by simpa using h4),if_neg (fun e=>h4 e.1)]
 · rw [if_neg (by rw [decide_eq_true_iff];omega),if_neg g]
abbrev snoc3 (a:Sq BA) (x y z:BA):Sq BA:=⟨a.n+3,fun q=>if q<a.n then a.at' q else (fun q=>List.getD (α:=BA) [x,y,z] q (Aa .str)) (q - a.n)⟩
theorem SqE.snoc3 {a b:Sq BA} (h:SqE a b) (x y z:BA):SqE (snoc3 a x y z) (AM.snoc3 b x y z):=by
 refine ⟨by show a.n+3=b.n+3;rw [h.1],fun i hi=>?_⟩
 have hi:i<a.n+3:=hi
 show (if i<a.n then a.at' i else List.getD [x,y,z] (i - a.n) (Aa .str))=(if i<b.n then b.at' i else List.getD [x,y,z] (i - b.n) (Aa .str))
 rw [←h.1]
 by_cases g:i<a.n
 · rw [if_pos g,if_pos g,h.2 i g]
 · rw [if_neg g,if_neg g]
theorem Z0 {n:Nat} (h:n≤4000000):Ta (n+3) 16=true:=by
 unfold Ta
 simp only [Bool.and_eq_true,Nat.ble_eq]
 omega
theorem tL (a b c:BA):(a++b)++c=a++(b++c):=yJ (by rw [wn,wn,wn,wn,List.append_assoc])
theorem eU (a:BA):a++(⟨#[]⟩:BA)=a:=yJ (by rw [wn];exact List.append_nil _)
def mtx (b:Mbx):BA:=(b.1++(⟨#[64]⟩:BA))++b.2.1
def pY (to:Sq BA) (bx:Sq Mbx):Prop:=to.n=bx.n∧∀ i,i<bx.n→to.at' i=mtx (bx.at' i)∧(bx.at' i).1.size≤100000∧(bx.at' i).2.1.size≤100000
theorem e6 (x:BA) (lm:Bool) (q:Sq Int) (re:BA) (sk:Bool) (fr:BA) (to:Sq BA) (tx:BA) (inn:Bool) (out:BA) (got:Sq BA) (hg:got.n≤4000000):
  Cb NN x lm q re sk fr to tx inn out got=some (lm,(q,(re,(sk,(fr,(to,(tx,(inn,(out,(snoc3 got fr x tx,())))))))))):=by
 unfold Cb Tc
 rw [fa,if_pos (Z0 hg)]
section
variable (to:Sq BA) (bx:Sq Mbx) (hto:pY to bx) (hbx:bx.n≤1000000) (re:BA) (sk:Bool) (fr tx:BA) (inn:Bool) (base:BA) (hbase:base.size≤100000000) (re2:BA) (sk2 inn2:Bool) (yq:Sq Int)
include hto hbase hbx
theorem R8:∀ (d i m m2:Nat) (q:Sq Int) (k:Nat) (o:BA) (g1 g2:Sq BA) (code:Int),i+d=bx.n→d<m→d<m2→QRel q yq k→SqE g1 g2→o.size+20*d≤100000000→g1.n+3*d≤3000000→k+d≤3000000→
  ∃ q2 o2 h1 h2,wa NN m false to (to.n:Int) (i:Int) true q re sk fr to tx inn (base++o) g1=some (.out (true,q2,re,sk,fr,to,tx,inn,base++o2,h1))∧
   qa NN m2 o code (i:Int) true yq (k:Int) re2 sk2 fr inn2 tx bx g2=some (.out (o2,true,yq,((k+d:Nat):Int),re2,sk2,fr,inn2,tx,bx,h2))∧QRel q2 yq (k+d)∧SqE h1 h2∧o2.size≤o.size+20*d∧h1.n≤g1.n+3*d:=by
 intro d
 induction d with
 | zero=>
  intro i m m2 q k o g1 g2 code hi hm hm2 hq hg ho hgn hk
  obtain ⟨m,rfl⟩:∃ q,m=q+1:=⟨m - 1,by omega⟩
  obtain ⟨m2,rfl⟩:∃ q,m2=q+1:=⟨m2 - 1,by omega⟩
  have a1:¬((i:Int)<(to.n:Int)):=by rw [hto.1];omega
  have a2:¬((i:Int)<(bx.n:Int)):=by omega
  refine ⟨q,o,g1,g2,?_,?_,hq,hg,Nat.le_add_right _ _,Nat.le_add_right _ _⟩
  · simp only [wa,Ka,a1,decide_false,Bool.false_eq_true,if_false]
  · simp only [qa,Da,a2,decide_false,Bool.false_eq_true,if_false,Nat.add_zero]
 | succ d ih=>
  intro i m m2 q k o g1 g2 code hi hm hm2 hq hg ho hgn hk
  obtain ⟨m,rfl⟩:∃ q,m=q+1:=⟨m - 1,by omega⟩
  obtain ⟨m2,rfl⟩:∃ q,m2=q+1:=⟨m2 - 1,by omega⟩
  have a2:(i:Int)<(bx.n:Int):=by omega
  have a1:(i:Int)<(to.n:Int):=by rw [hto.1];omega
  have a0:(0:Int)≤(i:Int):=by omega
  have e1:=wr1 (k:=i) (by omega)
  obtain ⟨t,t1,t2,t3⟩:=Su (RK q)
  have hF:Ca (base++o) t=true:=FN (by rw [ByteArray.size_append];omega)
  have hF2:Ca o t=true:=FN (by omega)
  have A:=J3 true q re sk fr tx inn (base++o) to g1 t1 hF
  have B:=HP true yq k (by omega) re2 sk2 fr inn2 tx bx g2
  rw [hq.code] at B
  have hot:(o++t).size=o.size+t.size:=by rw [ByteArray.size_append]
  obtain ⟨x1,x2,x3⟩:=hto.2 i (by omega)
  by_cases g:aC q=250
  · have g':(aC q==250)=true:=by simpa using g
    have T:=e6 (to.at' i) true (uL q) re sk fr to tx inn ((base++o)++t) g1 (by omega)
    have L:=(GV NN (bx.at' i).1 (bx.at' i).2.1 x2 x3).2
    have f3:=Z0 (n:=g2.n) (by rw [←hg.1];omega)
    obtain ⟨q2,o2,h1,h2,i1,i2,i3,i4,i5,i6⟩:=ih (i+1) m m2 (uL q) (k+1) (o++t) (snoc3 g1 fr (to.at' i) tx) (snoc3 g2 fr (mtx (bx.at' i)) tx) (aC q) (by omega) (by omega) (by omega) hq.next (by rw [x1];exact hg.snoc3 _ _ _) (by omega) (by show g1.n+3+3*d≤_;omega) (by omega)
    refine ⟨q2,o2,h1,h2,?_,?_,by rw [show k+(d+1)=k+1+d by omega];exact i3,i4,by omega,?_⟩
    · simp only [wa,Ka,a0,a1,decide_true,and_self,if_true,A,Option.bind_some,g',Int.toNat_natCast,T,e1]
      rw [tL]
      exact i1
    · simp only [qa,Da,a0,a2,decide_true,and_self,if_true,Bool.true_eq_false,if_false,B,Option.bind_some,t2,hF2,g',Int.toNat_natCast,L,f3,fa,ba,e1]
      rw [show k+(d+1)=k+1+d by omega]
      exact i2
    · have:h1.n≤g1.n+3+3*d:=i6
      omega
  · have g':(aC q==250)=false:=by simpa using g
    obtain ⟨q2,o2,h1,h2,i1,i2,i3,i4,i5,i6⟩:=ih (i+1) m m2 (uL q) (k+1) (o++t) g1 g2 (aC q) (by omega) (by omega) (by omega) hq.next hg (by omega) (by omega) (by omega)
    refine ⟨q2,o2,h1,h2,?_,?_,by rw [show k+(d+1)=k+1+d by omega];exact i3,i4,by omega,by omega⟩
    · simp only [wa,Ka,a0,a1,decide_true,and_self,if_true,A,Option.bind_some,g',Int.toNat_natCast,Bool.false_eq_true,if_false,e1]
      rw [tL]
      exact i1
    · simp only [qa,Da,a0,a2,decide_true,and_self,if_true,Bool.true_eq_false,Bool.false_eq_true,if_false,B,Option.bind_some,t2,hF2,g',Int.toNat_natCast,e1]
      rw [show k+(d+1)=k+1+d by omega]
      exact i2
end
open Go Go.RowKit
abbrev zS:Sq BA:=⟨0,fun _=>Aa .str⟩
abbrev zM:Sq Mbx:=⟨0,fun _=>Aa (.pair .str (.pair .str .unit))⟩
section
variable (to:Sq BA) (bx:Sq Mbx) (hto:pY to bx) (hbx:bx.n≤1000000) (re:BA) (sk:Bool) (fr tx:BA) (inn:Bool) (out:BA) (re2:BA) (sk2 inn2:Bool) (yq q:Sq Int) (k:Int) (o:BA) (code:Int)
include hto hbx
theorem C7:∀ (d i m m2:Nat) (g1 g2:Sq BA),1≤i→i+d=bx.n→d<m→d<m2→SqE g1 g2→g1.n+3*d≤3000000→
  ∃ h1 h2,wa NN m (code==250) to (to.n:Int) (i:Int) false q re sk fr to tx inn out g1=some (.out (false,q,re,sk,fr,to,tx,inn,out,h1))∧
   qa NN m2 o code (i:Int) false yq k re2 sk2 fr inn2 tx bx g2=some (.out (o,false,yq,k,re2,sk2,fr,inn2,tx,bx,h2))∧SqE h1 h2∧h1.n≤g1.n+3*d:=by
 intro d
 induction d with
 | zero=>
  intro i m m2 g1 g2 hi1 hi hm hm2 hg hgn
  obtain ⟨m,rfl⟩:∃ q,m=q+1:=⟨m - 1,by omega⟩
  obtain ⟨m2,rfl⟩:∃ q,m2=q+1:=⟨m2 - 1,by omega⟩
  have a1:¬((i:Int)<(to.n:Int)):=by rw [hto.1];omega
  have a2:¬((i:Int)<(bx.n:Int)):=by omega
  refine ⟨g1,g2,?_,?_,hg,Nat.le_add_right _ _⟩
  · simp only [wa,Ka,a1,decide_false,Bool.false_eq_true,if_false]
  · simp only [qa,Da,a2,decide_false,Bool.false_eq_true,if_false]
 | succ d ih=>
  intro i m m2 g1 g2 hi1 hi hm hm2 hg hgn
  obtain ⟨m,rfl⟩:∃ q,m=q+1:=⟨m - 1,by omega⟩
  obtain ⟨m2,rfl⟩:∃ q,m2=q+1:=⟨m2 - 1,by omega⟩
  have a2:(i:Int)<(bx.n:Int):=by omega
  have a1:(i:Int)<(to.n:Int):=by rw [hto.1];omega
  have a0:(0:Int)≤(i:Int):=by omega
  have e1:=wr1 (k:=i) (by omega)
  have i0:((i:Int)==0)=false:=by
   have:(i:Int)≠0:=by omega
   simpa using this
  obtain ⟨x1,x2,x3⟩:=hto.2 i (by omega)
  cases g':(code==250) with
  | true=>
   have T:=e6 (to.at' i) false q re sk fr to tx inn out g1 (by omega)
   have L:=(GV NN (bx.at' i).1 (bx.at' i).2.1 x2 x3).2
   have f3:=Z0 (n:=g2.n) (by rw [←hg.1];omega)
   rw [g'] at ih
   obtain ⟨h1,h2,i1,i2,i4,i6⟩:=ih (i+1) m m2 (snoc3 g1 fr (to.at' i) tx) (snoc3 g2 fr (mtx (bx.at' i)) tx) (by omega) (by omega) (by omega) (by omega) (by rw [x1];exact hg.snoc3 _ _ _) (by show g1.n+3+3*d≤_;omega)
   refine ⟨h1,h2,?_,?_,i4,?_⟩
   · simp only [wa,Ka,a0,a1,decide_true,and_self,if_true,Bool.true_eq_false,if_false,Option.bind_some,Int.toNat_natCast,T,e1]
     exact i1
   · simp only [qa,Da,a0,a2,i0,decide_true,and_self,if_true,Bool.false_eq_true,if_false,Option.bind_some,g',Int.toNat_natCast,L,f3,fa,ba,e1]
     exact i2
   · have:h1.n≤g1.n+3+3*d:=i6
     omega
  | false=>
   rw [g'] at ih
   obtain ⟨h1,h2,i1,i2,i4,i6⟩:=ih (i+1) m m2 g1 g2 (by omega) (by omega) (by omega) (by omega) hg (by omega)
   refine ⟨h1,h2,?_,?_,i4,by omega⟩
   · simp only [wa,Ka,a0,a1,decide_true,and_self,if_true,Bool.false_eq_true,if_false,e1]
     exact i1
   · simp only [qa,Da,a0,a2,i0,decide_true,and_self,if_true,Bool.false_eq_true,if_false,g',e1]
     exact i2
end
theorem e7 (lm:Bool) (q:Sq Int) (re:BA) (sk:Bool) (fr:BA) (to:Sq BA) (tx:BA) (inn:Bool) (out:BA) (got:Sq BA):Qb NN lm q re sk fr to tx inn out got=some (lm,(q,(re,(sk,(eB,(eB,(false,(out,(zS,(got,())))))))))):=rfl
theorem O4 (lm:Bool) (yq:Sq Int) (k:Int) (re:BA) (sk:Bool) (pa:BA) (inn:Bool) (li:BA) (bx:Sq Mbx) (got:Sq BA):yb NN lm yq k re sk pa inn li bx got=some (lm,(yq,(k,(re,(sk,(eB,(false,(eB,(zM,(got,())))))))))):=rfl
theorem o5 (lm:Bool) (to:Sq BA) (bx:Sq Mbx) (hto:pY to bx) (hbx:bx.n≤100000) (hb1:1≤bx.n) (re:BA) (sk:Bool) (fr tx:BA) (inn:Bool) (out:BA) (ho:out.size≤10000000) (re2:BA) (sk2 inn2:Bool) (yq q:Sq Int) (k:Nat) (hk:k≤1000000) (hq:QRel q yq k) (g1 g2:Sq BA) (hg:SqE g1 g2) (hgn:g1.n≤1000000):
  ∃ q2 k2 o2 h1 h2,Rb NN lm q re sk fr tx inn out to g1=some (lm,(q2,(re,(sk,(eB,(eB,(false,(out++o2,(zS,(h1,()))))))))))∧
   zb NN lm yq (k:Int) re2 sk2 fr inn2 tx bx g2=some (o2,(lm,(yq,(((k2:Nat):Int),(re2,(sk2,(eB,(false,(eB,(zM,(h2,())))))))))))∧QRel q2 yq k2∧SqE h1 h2∧o2.size≤20*bx.n∧h1.n≤g1.n+3*bx.n∧k2≤k+bx.n:=by
 unfold Rb Rc zb pd
 cases lm with
 | true=>
  obtain ⟨q2,o2,h1,h2,i1,i2,i3,i4,i5,i6⟩:=R8 to bx hto (by omega) re sk fr tx inn out (by omega) re2 sk2 inn2 yq bx.n 0 NN NN q k eB g1 g2 0 (by omega) (by show bx.n<10000000;omega) (by show bx.n<10000000;omega) hq hg (by show 0+_≤_;omega) (by omega) (by omega)
  rw [eU,show ((0:Nat):Int)=0 from rfl] at i1
  rw [show ((0:Nat):Int)=0 from rfl] at i2
  refine ⟨q2,k+bx.n,o2,h1,h2,?_,?_,i3,i4,by have:o2.size≤0+20*bx.n:=i5;omega,i6,Nat.le_refl _⟩
  · rw [if_neg (by simp),i1,Option.bind_some]
    simp only [onL,e7,Option.bind_some]
  · rw [i2,Option.bind_some]
    simp only [onL,O4,Option.bind_some]
 | false=>
  obtain ⟨t,t1,t2,t3⟩:=Su (RK q)
  have hF:Ca out t=true:=FN (by omega)
  have A:=J3 false q re sk fr tx inn out to g1 t1 hF
  have B:=HP false yq k (by omega) re2 sk2 fr inn2 tx bx g2
  rw [hq.code] at B
  obtain ⟨d,hd⟩:∃ d,bx.n=d+1:=⟨bx.n - 1,by omega⟩
  have a2:(0:Int)<(bx.n:Int):=by omega
  have a1:(0:Int)<(to.n:Int):=by rw [hto.1];omega
  have a0:(0:Int)≤0:=Int.le_refl _
  have e1:IntKind.wrap .i64 ((0:Int)+1)=((1:Nat):Int):=by decide
  have hF2:Ca eB t=true:=FN (by show 0+t.size≤_;omega)
  have et:eB++t=t:=yJ (by rw [wn];rfl)
  have z0:((0:Int)==0)=true:=rfl
  have tn:Int.toNat (0:Int)=0:=rfl
  obtain ⟨x1,x2,x3⟩:=hto.2 0 (by omega)
  have step:∀ m:Nat,d<m→∃ h1 h2,wa NN (m+1) (aC q==250) to (to.n:Int) 0 false (uL q) re sk fr to tx inn (out++t) g1=some (.out (false,uL q,re,sk,fr,to,tx,inn,out++t,h1))∧
   qa NN (m+1) eB 0 0 false yq (k:Int) re2 sk2 fr inn2 tx bx g2=some (.out (t,false,yq,((k+1:Nat):Int),re2,sk2,fr,inn2,tx,bx,h2))∧SqE h1 h2∧h1.n≤g1.n+3*bx.n:=by
   intro m hm
   cases g':(aC q==250) with
   | true=>
    have T:=e6 (to.at' 0) false (uL q) re sk fr to tx inn (out++t) g1 (by omega)
    have L:=(GV NN (bx.at' 0).1 (bx.at' 0).2.1 x2 x3).2
    have f3:=Z0 (n:=g2.n) (by rw [←hg.1];omega)
    obtain ⟨h1,h2,i1,i2,i4,i6⟩:=C7 to bx hto (by omega) re sk fr tx inn (out++t) re2 sk2 inn2 yq (uL q) ((k+1:Nat):Int) t (aC q) d 1 m m (snoc3 g1 fr (to.at' 0) tx) (snoc3 g2 fr (mtx (bx.at' 0)) tx) (by omega) (by omega) (by omega) (by omega) (by rw [x1];exact hg.snoc3 _ _ _) (by show g1.n+3+3*d≤_;omega)
    rw [g'] at i1
    refine ⟨h1,h2,?_,?_,i4,?_⟩
    · simp only [wa,Ka,a0,a1,decide_true,and_self,if_true,Bool.true_eq_false,if_false,Option.bind_some,tn,T,e1]
      exact i1
    · simp only [qa,Da,a0,a2,z0,decide_true,and_self,if_true,Bool.false_eq_true,if_false,B,t2,hF2,Option.bind_some,g',tn,L,f3,fa,ba,e1,et]
      exact i2
    · have:h1.n≤g1.n+3+3*d:=i6
      omega
   | false=>
    obtain ⟨h1,h2,i1,i2,i4,i6⟩:=C7 to bx hto (by omega) re sk fr tx inn (out++t) re2 sk2 inn2 yq (uL q) ((k+1:Nat):Int) t (aC q) d 1 m m g1 g2 (by omega) (by omega) (by omega) (by omega) hg (by omega)
    rw [g'] at i1
    refine ⟨h1,h2,?_,?_,i4,by omega⟩
    · simp only [wa,Ka,a0,a1,decide_true,and_self,if_true,Bool.false_eq_true,if_false,e1]
      exact i1
    · simp only [qa,Da,a0,a2,z0,decide_true,and_self,if_true,Bool.false_eq_true,if_false,B,t2,hF2,Option.bind_some,g',e1,et]
      exact i2
  obtain ⟨h1,h2,i1,i2,i4,i6⟩:=step 9999999 (by omega)
  have i1:wa NN NN (aC q==250) to (to.n:Int) 0 false (uL q) re sk fr to tx inn (out++t) g1=_:=i1
  have i2:qa NN NN eB 0 0 false yq (k:Int) re2 sk2 fr inn2 tx bx g2=_:=i2
  refine ⟨uL q,k+1,t,h1,h2,?_,?_,hq.next,i4,by omega,i6,by omega⟩
  · rw [if_pos (by rfl),A,Option.bind_some]
    dsimp only
    rw [i1,Option.bind_some]
    simp only [onL,e7,Option.bind_some]
  · rw [i2,Option.bind_some]
    simp only [onL,O4,Option.bind_some]
end Go.Proofs.YtddefjokgaajfaaGreatDoor.AM
