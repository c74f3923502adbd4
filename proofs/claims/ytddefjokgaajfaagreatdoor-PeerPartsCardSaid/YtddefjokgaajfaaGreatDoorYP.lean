/- Peers, plainly: lines of a stream, as lists. -/
import Derived.Test.YtddefjokgaajfaaGreatDoorYV
set_option linter.all false
set_option linter.unusedVariables false
set_option linter.unusedSimpArgs false
namespace Go.Proofs.YtddefjokgaajfaaGreatDoor.AM
open Go Go.RowKit
def Vo:List Int→Option (List Int×List Int)
 | []=>none
 | [_]=>none
 | c::d::r=>if c=13∧d=10 then some ([],r) else (Vo (d::r)).map fun p=>(c::p.1,p.2)
theorem lH:∀ (x y:List Int),Vo x=none→¬(x.getLast?=some 13∧y.head?=some 10)→Vo (x++y)=(Vo y).map fun p=>(x++p.1,p.2)
 | [],y,_,_=>by
  cases h:Vo y with
  | none=>rw [List.nil_append,h];rfl
  | some p=>rw [List.nil_append,h];rfl
 | [c],[],_,_=>rfl
 | [c],d::r,_,hn=>by
  have h:¬(c=13∧d=10):=fun e=>hn (by rw [e.1,e.2];exact ⟨rfl,rfl⟩)
  show Vo (c::d::r)=_
  rw [Vo,if_neg h];rfl
 | c::d::x,y,hx,hn=>by
  rw [Vo] at hx
  by_cases h:c=13∧d=10
  · rw [if_pos h] at hx;cases hx
  · rw [if_neg h] at hx
    have hx':Vo (d::x)=none:=by
     cases hc:Vo (d::x) with
     | none=>rfl
     | some p=>rw [hc] at hx;cases hx
    have ih:=lH (d::x) y hx' (fun e=>hn ⟨by rw [List.getLast?_cons_cons];exact e.1,e.2⟩)
    show Vo (c::d::(x++y))=_
    rw [Vo,if_neg h]
    show Option.map _ (Vo ((d::x)++y))=_
    rw [ih,Option.map_map]
    rfl
theorem cR:∀ (l a b:List Int),Vo l=some (a,b)→l=a++13::10::b
 | [],a,b,h=>by cases h
 | [c],a,b,h=>by cases h
 | c::d::r,a,b,h=>by
  rw [Vo] at h
  by_cases hc:c=13∧d=10
  · rw [if_pos hc] at h
    cases h
    rw [hc.1,hc.2];rfl
  · rw [if_neg hc] at h
    cases hp:Vo (d::r) with
    | none=>rw [hp] at h;cases h
    | some p=>
     rw [hp] at h
     cases h
     have:=cR (d::r) p.1 p.2 hp
     rw [this];rfl
theorem OM (x:List Int) (c:Int) (hx:Vo x=none) (hn:¬(x.getLast?=some 13∧c=10)):Vo (x++[c])=none:=by
 rw [lH x [c] hx (fun e=>hn ⟨e.1,by simpa using e.2⟩)];rfl
def oE (c:Int):List Int:=if c=13 then [13] else []
def mT (l:List Int) (sk:Bool):List Int×Bool:=if sk=false∧l.length<512 then (l,false) else (if l.getLast?=some 13 then [13] else [],true)
def fP (s:List Int) (sk:Bool):List Int×Bool:=if sk=true∨s.length>510 then ([],true) else (s,false)
def BR:Nat→Bool→List Int→(List Int×Bool)×List (List Int×Bool)
 | 0,sk,l=>((l,sk),[])
 | m+1,sk,l=>match Vo l with
  | none=>(mT l sk,[])
  | some p=>((BR m false p.2).1,fP p.1 sk::(BR m false p.2).2)
def cx (st:List Int×Bool) (c:Int):(List Int×Bool)×List (List Int×Bool):=
 if st.2=true then (if st.1=[13]∧c=10 then (([],false),[([],true)]) else ((oE c,true),[]))
 else if st.1.getLast?=some 13∧c=10 then (([],false),[(st.1.dropLast,false)])
 else if (st.1++[c]).length≥512 then ((oE c,true),[]) else ((st.1++[c],false),[])
def zg:List Int×Bool→List Int→(List Int×Bool)×List (List Int×Bool)
 | st,[]=>(st,[])
 | st,c::r=>((zg (cx st c).1 r).1,(cx st c).2++(zg (cx st c).1 r).2)
def Wi (st:List Int×Bool):Prop:=if st.2=true then st.1=[]∨st.1=[13] else Vo st.1=none∧st.1.length<512
theorem FQ (c:Int):Wi (oE c,true):=by
 unfold Wi oE
 rw [if_pos rfl]
 by_cases h:c=13
 · right;rw [if_pos h]
 · left;rw [if_neg h]
theorem rK (st:List Int×Bool) (c:Int) (h:Wi st):Wi (cx st c).1:=by
 unfold cx
 obtain ⟨rest,sk⟩:=st
 cases sk with
 | true=>
  rw [if_pos rfl]
  split
  · exact ⟨rfl,by decide⟩
  · exact FQ c
 | false=>
  rw [if_neg (by simp)]
  unfold Wi at h
  rw [if_neg (by simp)] at h
  split
  · exact ⟨rfl,Nat.zero_lt_succ 511⟩
  · rename_i hn
    split
    · exact FQ c
    · rename_i h5
      unfold Wi
      rw [if_neg (by simp)]
      exact ⟨OM rest c h.1 hn,by show (rest++[c]).length<512;have:¬((rest++[c]).length≥512):=h5;omega⟩
theorem jQ:∀ (b:List Int) (st:List Int×Bool),Wi st→Wi (zg st b).1
 | [],st,h=>h
 | c::r,st,h=>jQ r _ (rK st c h)
theorem PX (m:Nat) (x:List Int) (c:Int) (r:List Int) (sk:Bool) (hx:Vo (x++[c])=none) (hx0:Vo x=none) (hs:sk=true∨511≤x.length):BR (m+1) sk (x++c::r)=BR (m+1) true (oE c++r):=by
 have hL:∀ s:List Int,x.length≤s.length→fP s sk=([],true):=fun s hl=>by
  unfold fP
  rw [if_pos (hs.imp_right fun h=>by omega)]
 have hL2:∀ s:List Int,fP s true=([],true):=fun s=>by unfold fP;rw [if_pos (.inl rfl)]
 have hF2:∀ l:List Int,mT l true=(if l.getLast?=some 13 then [13] else [],true):=fun l=>by unfold mT;rw [if_neg (by simp)]
 have hF:∀ l:List Int,x.length<l.length→mT l sk=(if l.getLast?=some 13 then [13] else [],true):=fun l hl=>by
  unfold mT
  rw [if_neg]
  rintro ⟨h1,h2⟩
  rcases hs with h | h
  · rw [h] at h1;cases h1
  · omega
 by_cases hc:c=13
 · subst hc
   have e:=lH x (13::r) hx0 (fun e=>by simp at e)
   have t:oE 13++r=13::r:=rfl
   rw [t,BR,BR,e]
   cases hp:Vo (13::r) with
   | none=>
    simp only [Option.map_none]
    rw [hF _ (by simp),hF2]
    rw [List.getLast?_append,List.getLast?_cons]
    rfl
   | some p=>
    simp only [Option.map_some]
    rw [hL _ (by simp),hL2]
 · have e:=lH (x++[c]) r hx (fun e=>by
    have:=e.1
    rw [List.getLast?_append] at this
    simp at this
    exact hc this)
   have t:oE c++r=r:=by unfold oE;rw [if_neg hc];rfl
   have e':x++c::r=(x++[c])++r:=by simp
   rw [t,BR,BR,e',e]
   cases hp:Vo r with
   | none=>
    simp only [Option.map_none]
    rw [hF _ (by simp),hF2]
    cases r with
    | nil=>
     have:(x++[c]++[]).getLast?=some c:=by rw [List.append_nil,List.getLast?_append];rfl
     rw [this]
     simp [hc]
    | cons d r=>
     have:(x++[c]++d::r).getLast?=(d::r).getLast?:=by
      rw [List.getLast?_append,List.getLast?_cons]
      rfl
     rw [this]
   | some p=>
    simp only [Option.map_some]
    rw [hL _ (by simp),hL2]
theorem LC:∀ (b:List Int) (rest:List Int) (sk:Bool) (m:Nat),Wi (rest,sk)→(rest++b).length<m→BR m sk (rest++b)=zg (rest,sk) b
 | [],rest,sk,m,hv,hm=>by
  obtain ⟨m,rfl⟩:∃ q,m=q+1:=⟨m - 1,by omega⟩
  rw [List.append_nil,BR,zg]
  unfold Wi at hv
  cases sk with
  | true=>
   rw [if_pos rfl] at hv
   rcases hv with h | h<;>simp only at h<;>subst h<;>rfl
  | false=>
   rw [if_neg (by simp)] at hv
   have h1:Vo rest=none:=hv.1
   have h2:rest.length<512:=hv.2
   rw [h1]
   unfold mT
   rw [if_pos ⟨rfl,h2⟩]
 | c::r,rest,sk,m,hv,hm=>by
  obtain ⟨m,rfl⟩:∃ q,m=q+1:=⟨m - 1,by omega⟩
  have hsv:=rK (rest,sk) c hv
  have hm':rest.length+(r.length+1)<m+1:=by simpa using hm
  rw [zg]
  cases sk with
  | true=>
   unfold Wi at hv
   rw [if_pos rfl] at hv
   have hv:rest=[]∨rest=[13]:=hv
   by_cases hc:rest=[13]∧c=10
   · have e:cx (rest,true) c=(([],false),[([],true)]):=by unfold cx;rw [if_pos rfl,if_pos hc]
     rw [e]
     have ih:=LC r [] false m ⟨rfl,by decide⟩ (by rw [List.nil_append];omega)
     rw [List.nil_append] at ih
     rw [hc.1,hc.2]
     show BR (m+1) true (13::10::r)=_
     rw [BR,Vo,if_pos ⟨rfl,rfl⟩]
     simp only [ih]
     rfl
   · have e:cx (rest,true) c=((oE c,true),[]):=by unfold cx;rw [if_pos rfl,if_neg hc]
     rw [e] at hsv ⊢
     have hx0:Vo rest=none:=by rcases hv with h | h<;>rw [h]<;>rfl
     have hx:Vo (rest++[c])=none:=OM rest c hx0 (fun e=>hc ⟨by
      rcases hv with h | h
      · rw [h] at e;simp at e
      · exact h,e.2⟩)
     have hlen:(oE c++r).length<m+1:=by
      unfold oE
      split<;>simp<;>omega
     rw [PX m rest c r true hx hx0 (.inl rfl),LC r (oE c) true (m+1) hsv hlen]
     rfl
  | false=>
   have hv0:=hv
   unfold Wi at hv
   rw [if_neg (by simp)] at hv
   have h1:Vo rest=none:=hv.1
   have h2:rest.length<512:=hv.2
   by_cases hc:rest.getLast?=some 13∧c=10
   · have e:cx (rest,false) c=(([],false),[(rest.dropLast,false)]):=by unfold cx;rw [if_neg (by simp),if_pos hc]
     rw [e]
     have ih:=LC r [] false m ⟨rfl,by decide⟩ (by rw [List.nil_append];omega)
     rw [List.nil_append] at ih
     obtain ⟨x,rfl⟩:∃ x,rest=x++[13]:=by
      have hne:rest≠[]:=fun e=>by rw [e] at hc;simp at hc
      refine ⟨rest.dropLast,?_⟩
      have h3:=List.dropLast_concat_getLast hne
      have h4:=hc.1
      rw [List.getLast?_eq_some_getLast hne] at h4
      rw [Option.some.inj h4] at h3
      exact h3.symm
     have hx:Vo x=none:=by
      cases hp:Vo x with
      | none=>rfl
      | some p=>
       have:=cR x p.1 p.2 hp
       exfalso
       have hq:∀ (a b:List Int),Vo (a++13::10::b)≠none:=by
        intro a
        induction a with
        | nil=>intro b hb;simp [Vo] at hb
        | cons a0 a iha=>
         intro b hb
         cases a with
         | nil=>
          show False
          have hb:Vo (a0::13::10::b)=none:=hb
          rw [Vo] at hb
          by_cases hh:a0=13∧(13:Int)=10
          · exact absurd hh.2 (by decide)
          · rw [if_neg hh] at hb
            have:=iha b
            simp only [List.nil_append] at this
            cases hcc:Vo (13::10::b) with
            | none=>exact this hcc
            | some p=>rw [hcc] at hb;cases hb
         | cons a1 a=>
          have hb:Vo (a0::a1::(a++13::10::b))=none:=hb
          rw [Vo] at hb
          split at hb
          · cases hb
          · have:=iha b
            cases hcc:Vo (a1::a++13::10::b) with
            | none=>exact this hcc
            | some p=>
             have hcc:Vo (a1::(a++13::10::b))=some p:=hcc
             rw [hcc] at hb;cases hb
       rw [this] at h1
       have h1':Vo (p.1++13::10::(p.2++[13]))=none:=by simpa using h1
       exact hq _ _ h1'
     rw [hc.2,show (x++[13])++10::r=x++13::10::r by simp,BR,lH x (13::10::r) hx (fun e=>by simp at e),Vo,if_pos ⟨rfl,rfl⟩]
     simp only [Option.map_some,ih,List.append_nil]
     have hl:fP x false=(x,false):=by
      unfold fP
      rw [if_neg]
      rintro (h | h)
      · cases h
      · simp at h2;omega
     rw [hl,List.dropLast_concat]
     rfl
   · by_cases h5:(rest++[c]).length≥512
     · have e:cx (rest,false) c=((oE c,true),[]):=by unfold cx;rw [if_neg (by simp),if_neg hc,if_pos h5]
       rw [e] at hsv ⊢
       have hx:Vo (rest++[c])=none:=OM rest c h1 hc
       have hlen:(oE c++r).length<m+1:=by
        unfold oE
        split<;>simp<;>omega
       rw [PX m rest c r false hx h1 (.inr (by simp at h5;omega)),LC r (oE c) true (m+1) hsv hlen]
       rfl
     · have e:cx (rest,false) c=((rest++[c],false),[]):=by unfold cx;rw [if_neg (by simp),if_neg hc,if_neg h5]
       rw [e] at hsv ⊢
       have:=LC r (rest++[c]) false (m+1) hsv (by simp;omega)
       rw [show rest++c::r=(rest++[c])++r by simp,this]
       rfl
open Go Go.RowKit
abbrev Ln:=BA×(Bool×Unit)
def lnL (x:Ln):List Int×Bool:=(bs x.1,x.2.1)
abbrev eB:BA:=⟨#[]⟩
abbrev ceB:BA:=⟨#[13,10]⟩
theorem F9 {n:Nat} (h:n≤4000000):Ta (n+1) 24=true:=by
 unfold Ta
 simp only [Bool.and_eq_true,Nat.ble_eq]
 omega
theorem WM:∀ (l:List UInt8) (k:Int),zZ l [13,10] k=match Vo (l.map fun c=>(c.toNat:Int)) with
  | none=> -1
  | some p=>(p.1.length:Int)+k
 | [],k=>rfl
 | [b],k=>by
  unfold zZ
  have h:(List.isPrefixOf [(13:UInt8),10] [b])=false:=by simp [List.isPrefixOf]
  rw [h];rfl
 | b::c::l,k=>by
  have ih:=WM (c::l) (k+1)
  unfold zZ
  have e1:∀ (x y:UInt8),(x.toNat:Int)=(y.toNat:Int)↔x=y:=fun x y=>⟨fun e=>UInt8.toNat_inj.1 (by omega),fun e=>by rw [e]⟩
  have e13:((b.toNat:Int)=13)↔b=13:=e1 b 13
  have e10:((c.toNat:Int)=10)↔c=10:=e1 c 10
  rw [List.map_cons,List.map_cons,Vo]
  by_cases h:b=13∧c=10
  · have hp:(List.isPrefixOf [(13:UInt8),10] (b::c::l))=true:=by rw [h.1,h.2];rfl
    rw [if_pos hp,if_pos ⟨e13.2 h.1,e10.2 h.2⟩]
    simp
  · have hp:(List.isPrefixOf [(13:UInt8),10] (b::c::l))=false:=by
     simp only [List.isPrefixOf,Bool.and_true,Bool.and_eq_false_iff,beq_eq_false_iff_ne]
     by_cases hb:b=13
     · right;exact fun e=>h ⟨hb,e.symm⟩
     · left;exact fun e=>hb e.symm
    have hn:¬((b.toNat:Int)=13∧(c.toNat:Int)=10):=fun e=>h ⟨e13.1 e.1,e10.1 e.2⟩
    rw [hp,if_neg (by simp),ih,if_neg hn,List.map_cons]
    cases Vo ((c.toNat:Int)::l.map fun c=>(c.toNat:Int)) with
    | none=>rfl
    | some p=>
     show (p.1.length:Int)+(k+1)=((p.1.length+1:Nat):Int)+k
     omega
theorem V3 (n:Nat) (s:BA) (hs:s.size≤1000000) (h:Vo (bs s)=none):jL n s ceB=some (s,(eB,(false,()))):=by
 have hi:DE s ceB=some (-1):=by
  unfold DE
  rw [if_pos (by omega)]
  have:=WM s.data.toList 0
  have hb:Vo (s.data.toList.map fun c=>(c.toNat:Int))=none:=h
  rw [hb] at this
  exact congrArg some this
 unfold jL XI nQ tH
 rw [hi];rfl
theorem X3 (n:Nat) (s:BA) (hs:s.size≤1000000) {p:List Int×List Int} (h:Vo (bs s)=some p):∃ a b,jL n s ceB=some (a,(b,(true,())))∧bs a=p.1∧bs b=p.2:=by
 have hl:=cR _ _ _ h
 have hlen:s.size=p.1.length+(p.2.length+2):=by rw [←za,hl];simp
 have hi:DE s ceB=some (p.1.length:Int):=by
  unfold DE
  rw [if_pos (by omega)]
  have:=WM s.data.toList 0
  have hb:Vo (s.data.toList.map fun c=>(c.toNat:Int))=some p:=h
  rw [hb] at this
  simp only [Int.add_zero] at this
  exact congrArg some this
 have w:IntKind.wrap .i64 ((p.1.length:Int)+(ceB.size:Int))=((p.1.length+2:Nat):Int):=by
  rw [show (ceB.size:Int)=2 from rfl,wr (by omega) (by omega)];rfl
 refine ⟨s.extract 0 p.1.length,s.extract (p.1.length+2) s.size,?_,?_,?_⟩
 · unfold jL XI nQ tH
   rw [hi,Option.bind_some,if_pos (by simp),if_pos ⟨by omega,by omega⟩,w,if_pos ⟨by omega,by omega⟩,Option.bind_some]
   rfl
 · rw [Ah,List.drop_zero,hl,List.take_left]
 · rw [Ah,←za,List.take_length,hl]
   rw [List.drop_append]
   simp
theorem A7 (n:Nat) (s:BA) (sk:Bool) (hs:s.size≤1000000):∃ r,kw n (s,(sk,()))=some r∧lnL r=mT (bs s) sk:=by
 unfold kw ux mT
 have hx:=lx n s (⟨#[13]⟩:BA) hs (c:=13) rfl
 cases sk with
 | false=>
  by_cases h:s.size<512
  · have h1:decide ((s.size:Int)<512)=true:=decide_eq_true (by omega)
    rw [if_pos (by rfl),if_pos h1,if_pos ⟨rfl,by rw [za];exact h⟩]
    exact ⟨_,rfl,rfl⟩
  · have h1:decide ((s.size:Int)<512)=false:=decide_eq_false (by omega)
    have h2:¬(false=false∧(bs s).length<512):=fun e=>h (by rw [←za];exact e.2)
    rw [if_pos (by rfl),if_neg (by rw [h1];simp),if_neg h2,hx,Option.bind_some]
    by_cases g:(bs s).getLast?=some 13
    · rw [if_pos (decide_eq_true g),if_pos g];exact ⟨_,rfl,rfl⟩
    · rw [if_neg (by simpa using g),if_neg g];exact ⟨_,rfl,rfl⟩
 | true=>
  rw [if_neg (by simp),if_neg (by simp),hx,Option.bind_some]
  by_cases g:(bs s).getLast?=some 13
  · rw [if_pos (decide_eq_true g),if_pos g];exact ⟨_,rfl,rfl⟩
  · rw [if_neg (by simpa using g),if_neg g];exact ⟨_,rfl,rfl⟩
theorem Q4 (n:Nat) (s:BA) (sk:Bool) (hs:s.size≤1000000):∃ r,ir n s sk=some r∧lnL r=fP (bs s) sk:=by
 unfold ir Yt fP
 have w:IntKind.wrap .i64 ((s.size:Int)+2)=(s.size:Int)+2:=wr (by omega) (by omega)
 cases sk with
 | true=>rw [if_neg (by simp),if_pos (.inl rfl)];exact ⟨_,rfl,rfl⟩
 | false=>
  rw [if_pos rfl,w,za]
  by_cases h:s.size>510
  · rw [if_pos (decide_eq_true (by omega)),if_pos (.inr h)];exact ⟨_,rfl,rfl⟩
  · rw [if_neg (by rw [decide_eq_true_iff];omega),if_neg (by rintro (e | e)<;>first | cases e | exact h e)];exact ⟨_,rfl,rfl⟩
theorem g6 (n:Nat) (t4:BA) (t41:Bool):∀ (d m:Nat) (all:BA) (sk:Bool) (l:Sq Ln),all.size<d→d≤m→all.size≤1000000→l.n+all.size≤3000000→
  ∃ rest sk2 l2,Cd n m all sk t4 t41 l=some (.ret (rest,sk2,l2))∧(bs rest,sk2)=(BR d sk (bs all)).1∧sqL lnL l2=sqL lnL l++(BR d sk (bs all)).2
 | 0,m,all,sk,l,h,_,_,_=>by omega
 | d+1,m,all,sk,l,h,hm,hs,hl=>by
  obtain ⟨m,rfl⟩:∃ q,m=q+1:=⟨m - 1,by omega⟩
  have f:=F9 (n:=l.n) (by omega)
  cases hc:Vo (bs all) with
  | none=>
   obtain ⟨r,h1,h2⟩:=A7 n all sk hs
   refine ⟨r.1,r.2.1,l,?_,?_,?_⟩
   · simp only [Cd,Mk,V3 n all hs hc,Option.bind_some,Bool.not_false,if_true,h1]
   · rw [BR,hc];exact h2
   · rw [BR,hc];simp
  | some p=>
   have hl2:=cR _ _ _ hc
   have hlen:all.size=p.1.length+(p.2.length+2):=by rw [←za,hl2];simp
   obtain ⟨a,b,c1,c2,c3⟩:=X3 n all hs hc
   have ha:a.size=p.1.length:=by rw [←za,c2]
   have hb:b.size=p.2.length:=by rw [←za,c3]
   obtain ⟨r,h1,h2⟩:=Q4 n a sk (by omega)
   obtain ⟨rest,sk2,l2,i1,i2,i3⟩:=g6 n t4 t41 d m b false (⟨l.n+1,fun q=>if q<l.n then l.at' q else (fun q=>List.getD (α:=Ln) [(r.1,(r.2.1,()))] q (Ba (.pair .str (.pair .bool .unit)))) (q - l.n)⟩:Sq Ln) (by omega) (by omega) (by omega) (by show l.n+1+b.size≤_;omega)
   refine ⟨rest,sk2,l2,?_,?_,?_⟩
   · simp only [Cd,Mk,c1,Option.bind_some,Bool.not_true,Bool.false_eq_true,if_false,h1,f,if_true]
     exact i1
   · rw [BR,hc,i2,c3]
   · rw [BR,hc,i3,eD lnL l (r.1,(r.2.1,())) (Ba (.pair .str (.pair .bool .unit))),c3]
     have hr:lnL (r.1,(r.2.1,()))=fP p.1 sk:=by rw [←c2];exact h2
     rw [hr]
     simp
def okB (b:Sq Int):Prop:=∀ i,i<b.n→0≤b.at' i∧b.at' i<256
theorem m9 (n:Nat) (rest:BA) (sk:Bool) (b:Sq Int) (hb:okB b) (hs:rest.size+b.n≤1000000) (hn:10000000≤n) (hv:Wi (bs rest,sk)):
  ∃ r2 sk2 l2,bo n (rest,(sk,())) b=some ((r2,(sk2,())),(l2,()))∧(bs r2,sk2)=(zg (bs rest,sk) (sqL id b)).1∧sqL lnL l2=(zg (bs rest,sk) (sqL id b)).2:=by
 have hst:bs (Oh b.n b.at')=sqL id b:=kH hb
 have hsz:(Oh b.n b.at').size=b.n:=by rw [←za,hst,Nc]
 have hsz2:(rest++Oh b.n b.at').size=rest.size+b.n:=by rw [ByteArray.size_append,hsz]
 have hF:Ca rest (Oh b.n b.at')=true:=WO (by rw [hsz];omega)
 obtain ⟨r2,sk2,l2,h1,h2,h3⟩:=g6 n eB false (rest.size+b.n+1) n (rest++Oh b.n b.at') sk (⟨0,fun _=>Ba (.pair .str (.pair .bool .unit))⟩:Sq Ln) (by omega) (by omega) (by omega) (by show 0+_≤_;omega)
 have hp:=LC (sqL id b) (bs rest) sk (rest.size+b.n+1) hv (by rw [List.length_append,za,Nc];omega)
 rw [Zn,hst,hp] at h2 h3
 refine ⟨r2,sk2,l2,?_,h2,by rw [h3];rfl⟩
 unfold bo sx
 rw [if_pos hF,h1,Option.bind_some]
 rfl
open Go Go.RowKit
open Go Go.RowKit
set_option maxRecDepth 100000
def vZ (c:Int):Bool:=match de 10000000 c,oa 10000000 c with
 | some a,some b=>(a.data.toList==b.data.toList)&&Nat.ble a.size 20
 | _,_=>false
theorem Jbb:(List.range 50).all (fun k=>vZ (400+(k:Int)))=true:=by kernel_rfl
theorem Kbb:(List.range 50).all (fun k=>vZ (450+(k:Int)))=true:=by kernel_rfl
theorem Lbb:(List.range 50).all (fun k=>vZ (500+(k:Int)))=true:=by kernel_rfl
theorem Mbb:(List.range 50).all (fun k=>vZ (550+(k:Int)))=true:=by kernel_rfl
theorem Nbb:(vZ 250&&(vZ 354&&(vZ 221&&vZ 220)))=true:=by kernel_rfl
def S4 (c:Int):Prop:=c=250∨c=354∨c=221∨c=220∨(400≤c∧c≤599)
theorem T4 {c:Int} (h:S4 c):vZ c=true:=by
 have hF:=Nbb
 simp only [Bool.and_eq_true] at hF
 have part:∀ (b:Int) (hb:(List.range 50).all (fun k=>vZ (b+(k:Int)))=true),b≤c→c<b+50→vZ c=true:=fun b hb h1 h2=>by
  have:=List.all_eq_true.1 hb (c - b).toNat (List.mem_range.2 (by omega))
  rw [show b+((c - b).toNat:Int)=c by omega] at this
  exact this
 rcases h with rfl | rfl | rfl | rfl | ⟨h1,h2⟩
 · exact hF.1
 · exact hF.2.1
 · exact hF.2.2.1
 · exact hF.2.2.2
 · by_cases a:c<450
   · exact part 400 Jbb (by omega) (by omega)
   · by_cases a:c<500
     · exact part 450 Kbb (by omega) (by omega)
     · by_cases a:c<550
       · exact part 500 Lbb (by omega) (by omega)
       · exact part 550 Mbb (by omega) (by omega)
theorem Wv {c:Int} (h:S4 c):∃ t,de 10000000 c=some t∧oa 10000000 c=some t∧t.size≤20:=by
 have hc:=T4 h
 unfold vZ at hc
 split at hc
 · rename_i a b ha hb
   rw [Bool.and_eq_true] at hc
   have e:a=b:=by
    have h1:a.data.toList=b.data.toList:=by simpa using hc.1
    obtain ⟨⟨a⟩⟩:=a
    obtain ⟨⟨b⟩⟩:=b
    simp only at h1
    rw [h1]
   subst e
   exact ⟨a,ha,hb,Nat.le_of_ble_eq_true hc.2⟩
 · cases hc
open Go Go.RowKit
def SqE {T:Type} (a b:Sq T):Prop:=a.n=b.n∧∀ i,i<a.n→a.at' i=b.at' i
theorem SqE.refl {T:Type} (a:Sq T):SqE a a:=⟨rfl,fun _ _=>rfl⟩
theorem SqE.symm {T:Type} {a b:Sq T} (h:SqE a b):SqE b a:=⟨h.1.symm,fun i hi=>(h.2 i (by rw [h.1];exact hi)).symm⟩
theorem SqE.trans {T:Type} {a b c:Sq T} (h:SqE a b) (k:SqE b c):SqE a c:=⟨h.1.trans k.1,fun i hi=>(h.2 i hi).trans (k.2 i (by rw [←h.1];exact hi))⟩
theorem SqE.zero {T:Type} (f g:Nat→T):SqE (⟨0,f⟩:Sq T) ⟨0,g⟩:=⟨rfl,fun i hi=>absurd hi (Nat.not_lt_zero i)⟩
abbrev Mbx:=BA×(BA×Unit)
theorem G9 {n:Nat} (h:n≤4000000):Ta (n+1) 32=true:=by
 unfold Ta
 simp only [Bool.and_eq_true,Nat.ble_eq]
 omega
theorem yK (n:Nat) (a b:Sq BA) (h:SqE a b) (hn:a.n≤4000000):∀ (d i m:Nat),i+d=a.n→d<m→Qb n m a b (i:Int)=some (.out ())
 | 0,i,m,hi,hm=>by
  obtain ⟨m,rfl⟩:∃ q,m=q+1:=⟨m - 1,by omega⟩
  have e:¬((i:Int)<(a.n:Int)):=by omega
  simp [Qb,mg,e]
 | d+1,i,m,hi,hm=>by
  obtain ⟨m,rfl⟩:∃ q,m=q+1:=⟨m - 1,by omega⟩
  have e1:=wr1 (k:=i) (by omega)
  have a3:(0:Int)≤(i:Int):=by omega
  have a4:(i:Int)<(a.n:Int):=by omega
  have a5:(i:Int)<(b.n:Int):=by rw [←h.1];exact a4
  have ih:=yK n a b h hn d (i+1) m (by omega) (by omega)
  have e2:=h.2 i (by omega)
  simp only [Qb,mg,a3,a4,a5,e1,e2,Int.toNat_natCast,decide_true,if_true,and_self,beq_self_eq_true,Bool.not_true,Bool.false_eq_true,if_false]
  exact ih
theorem zK (n:Nat) (a b:Sq BA) (h:SqE a b) (hl:a.n≤4000000) (hn:10000000≤n):Ef n a b=some true:=by
 have h0:=yK n a b h hl a.n 0 n (by omega) (by omega)
 rw [show ((0:Nat):Int)=0 from rfl] at h0
 unfold Ef Kn
 rw [if_neg (by rw [h.1];simp),h0];rfl
theorem W9 (n:Nat) (s:BA):Ei n s (⟨#[46]⟩:BA)=some (if (bs s).head?=some 46 then s.extract 1 s.size else s):=by
 have h:=Wk n s (⟨#[46]⟩:BA) (c:=46) rfl
 have h2:rg n s (⟨#[46]⟩:BA)=some (decide ((bs s).head?=some 46)):=by
  unfold Sa Nj at h
  cases hh:rg n s (⟨#[46]⟩:BA) with
  | none=>rw [hh] at h;cases h
  | some v=>rw [hh] at h;exact h
 unfold Ei qm fl il
 rw [h2,Option.bind_some]
 by_cases g:(bs s).head?=some 46
 · have hz:1≤s.size:=by
    rw [←za]
    cases hb:bs s with
    | nil=>rw [hb] at g;cases g
    | cons a l=>simp
   have z1:((⟨#[46]⟩:BA).size:Int)=1:=rfl
   rw [if_pos (by simpa using g),if_pos g,z1,if_pos ⟨by decide,by omega⟩,Option.bind_some]
   rfl
 · rw [if_neg (by simpa using g),if_neg g];rfl
theorem F3 (n:Nat) (s:BA):∃ t last,xr n s=some (t,(last,()))∧OJ n s=some (t,(last,()))∧t.size≤s.size:=by
 unfold xr qx OJ cI
 by_cases h:(s.toList==(⟨#[46]⟩:BA).toList)=true
 · exact ⟨⟨#[]⟩,true,by rw [if_pos h],by rw [if_pos h],Nat.zero_le _⟩
 · rw [if_neg h,if_neg h,W9,Option.bind_some]
   cases hb:bs s with
   | nil=>
    have hz:s.size=0:=by rw [←za,hb];rfl
    refine ⟨s,false,by rw [if_neg (by simp)],?_,Nat.le_refl _⟩
    rw [if_neg (by simp [hz])]
   | cons c r=>
    obtain ⟨h1,h2,h3,h4,h5⟩:=Rh (k:=0) (by rw [List.drop_zero];exact hb)
    rw [show ((0:Nat):Int)=0 from rfl] at h1 h2
    have e1:decide ((s.size:Int)>0)=true:=by simpa using h1
    have e2:(0:Int)≤0∧(0:Int)<(s.size:Int):=⟨Int.le_refl _,h1⟩
    have e3:(0:Int)≤1∧(1:Int)≤(s.size:Int):=⟨by decide,by omega⟩
    rw [if_pos e1,if_pos e2,h2,if_pos e3]
    by_cases g:c=46
    · subst g
      exact ⟨s.extract 1 s.size,false,by rw [if_pos (by simp)],by rw [if_pos (by simp)];rfl,by rw [ByteArray.size_extract];omega⟩
    · exact ⟨s,false,by rw [if_neg (by simpa using g)],by rw [if_neg (by simpa using g)],Nat.le_refl _⟩
open Go Go.RowKit
abbrev NN:Nat:=10000000
def Sz (r:Int):Int:=if 400≤r∧r≤599 then r else 250
theorem TZ (r:Int):S4 (Sz r):=by
 unfold Sz
 split
 · rename_i h;exact .inr (.inr (.inr (.inr h)))
 · exact .inl rfl
def rD (q:Sq Int):Int:=if 0<q.n then Sz (q.at' 0) else 250
def LM (q:Sq Int):Sq Int:=if 0<q.n then ⟨q.n - 1,fun j=>q.at' (1+j)⟩ else q
theorem eM (q:Sq Int):S4 (rD q):=by
 unfold rD
 split
 · exact TZ _
 · exact .inl rfl
def QRel (q yq:Sq Int) (k:Nat):Prop:=q.n=yq.n - k∧∀ j,j<q.n→q.at' j=yq.at' (k+j)
def qab (yq:Sq Int) (k:Nat):Int:=if k<yq.n then Sz (yq.at' k) else 250
theorem QRel.code {q yq:Sq Int} {k:Nat} (h:QRel q yq k):qab yq k=rD q:=by
 unfold qab rD
 by_cases g:k<yq.n
 · have:0<q.n:=by rw [h.1];omega
   rw [if_pos g,if_pos this,h.2 0 this];rfl
 · have:¬0<q.n:=by rw [h.1];omega
   rw [if_neg g,if_neg this]
theorem QRel.next {q yq:Sq Int} {k:Nat} (h:QRel q yq k):QRel (LM q) yq (k+1):=by
 unfold LM
 by_cases g:0<q.n
 · rw [if_pos g]
   refine ⟨by show q.n - 1=_;rw [h.1];omega,fun j hj=>?_⟩
   have hj:j<q.n - 1:=hj
   show q.at' (1+j)=_
   rw [h.2 (1+j) (by omega)]
   congr 1;omega
 · rw [if_neg g]
   exact ⟨by rw [h.1];have:=h.1;omega,fun j hj=>by omega⟩
section
variable (lm:Bool) (q:Sq Int) (re:BA) (sk:Bool) (fr tx:BA) (inn:Bool) (out:BA) (to got:Sq BA)
theorem d8 {c:Int} {t:BA} (h:de NN c=some t) (hf:Ca out t=true):ua NN c lm q re sk fr tx inn out to got=some (lm,(q,(re,(sk,(fr,(tx,(inn,(out++t,(to,(got,())))))))))):=by
 unfold ua Dh
 rw [h,Option.bind_some,if_pos hf]
theorem yab {c:Int} {t:BA} (h:de NN c=some t) (hf:Ca out t=true):Sb NN c lm q re sk fr to tx inn out got=some (lm,(q,(re,(sk,(fr,(to,(tx,(inn,(out++t,(got,())))))))))):=by
 unfold Sb Eh
 rw [h,Option.bind_some,if_pos hf]
theorem l6 {t:BA} (h:de NN (rD q)=some t) (hf:Ca out t=true):Pb NN lm q re sk fr tx inn out to got=some (rD q==250,(lm,(LM q,(re,(sk,(fr,(tx,(inn,(out++t,(to,(got,()))))))))))):=by
 unfold Pb Yf
 by_cases g:0<q.n
 · have eQ:LM q=⟨q.n - 1,fun j=>q.at' (1+j)⟩:=if_pos g
   have g1:((q.n:Int)>0):=by omega
   have g2:(1:Int)≤(q.n:Int):=by omega
   have z0:(0:Int)≤0:=Int.le_refl _
   have z1:(0:Int)≤1:=by decide
   have z2:(0:Int)<(q.n:Int):=by omega
   have tn:Int.toNat (0:Int)=0:=rfl
   rw [eQ,if_pos (decide_eq_true g1),if_pos ⟨z0,z2⟩,tn]
   by_cases h4:400≤q.at' 0
   · rw [if_pos (decide_eq_true h4)]
     by_cases h5:q.at' 0≤599
     · have eC:rD q=q.at' 0:=by unfold rD Sz;rw [if_pos g,if_pos ⟨h4,h5⟩]
       rw [eC] at h ⊢
       rw [if_pos (decide_eq_true h5),if_pos ⟨z1,g2⟩,d8 _ _ _ _ _ _ _ _ _ _ h hf];rfl
     · have eC:rD q=250:=by unfold rD Sz;rw [if_pos g,if_neg (fun e=>h5 e.2)]
       rw [eC] at h ⊢
       rw [if_neg (by simpa using h5),if_pos ⟨z1,g2⟩,d8 _ _ _ _ _ _ _ _ _ _ h hf];rfl
   · have eC:rD q=250:=by unfold rD Sz;rw [if_pos g,if_neg (fun e=>h4 e.1)]
     rw [eC] at h ⊢
     rw [if_neg (by simpa using h4),if_pos ⟨z1,g2⟩,d8 _ _ _ _ _ _ _ _ _ _ h hf];rfl
 · have eQ:LM q=q:=if_neg g
   have eC:rD q=250:=if_neg g
   rw [eC] at h ⊢
   rw [eQ,if_neg (by rw [decide_eq_true_iff];omega),d8 _ _ _ _ _ _ _ _ _ _ h hf];rfl
theorem j6 {t:BA} (h:de NN (rD q)=some t) (hf:Ca out t=true):Ab NN lm q re sk fr to tx inn out got=some (rD q==250,(lm,(LM q,(re,(sk,(fr,(to,(tx,(inn,(out++t,(got,()))))))))))):=by
 unfold Ab Xf
 by_cases g:0<q.n
 · have eQ:LM q=⟨q.n - 1,fun j=>q.at' (1+j)⟩:=if_pos g
   have g1:((q.n:Int)>0):=by omega
   have g2:(1:Int)≤(q.n:Int):=by omega
   have z0:(0:Int)≤0:=Int.le_refl _
   have z1:(0:Int)≤1:=by decide
   have z2:(0:Int)<(q.n:Int):=by omega
   have tn:Int.toNat (0:Int)=0:=rfl
   rw [eQ,if_pos (decide_eq_true g1),if_pos ⟨z0,z2⟩,tn]
   by_cases h4:400≤q.at' 0
   · rw [if_pos (decide_eq_true h4)]
     by_cases h5:q.at' 0≤599
     · have eC:rD q=q.at' 0:=by unfold rD Sz;rw [if_pos g,if_pos ⟨h4,h5⟩]
       rw [eC] at h ⊢
       rw [if_pos (decide_eq_true h5),if_pos ⟨z1,g2⟩,yab _ _ _ _ _ _ _ _ _ _ h hf];rfl
     · have eC:rD q=250:=by unfold rD Sz;rw [if_pos g,if_neg (fun e=>h5 e.2)]
       rw [eC] at h ⊢
       rw [if_neg (by simpa using h5),if_pos ⟨z1,g2⟩,yab _ _ _ _ _ _ _ _ _ _ h hf];rfl
   · have eC:rD q=250:=by unfold rD Sz;rw [if_pos g,if_neg (fun e=>h4 e.1)]
     rw [eC] at h ⊢
     rw [if_neg (by simpa using h4),if_pos ⟨z1,g2⟩,yab _ _ _ _ _ _ _ _ _ _ h hf];rfl
 · have eQ:LM q=q:=if_neg g
   have eC:rD q=250:=if_neg g
   rw [eC] at h ⊢
   rw [eQ,if_neg (by rw [decide_eq_true_iff];omega),yab _ _ _ _ _ _ _ _ _ _ h hf];rfl
end
theorem aR (lm:Bool) (yq:Sq Int) (k:Nat) (hk:k≤4000000) (re:BA) (sk:Bool) (pa:BA) (inn:Bool) (li:BA) (bx:Sq Mbx) (got:Sq BA):
  Ia NN lm yq (k:Int) re sk pa inn li bx got=some (qab yq k,(lm,(yq,(((k+1:Nat):Int),(re,(sk,(pa,(inn,(li,(bx,(got,()))))))))))):=by
 unfold Ia Ad qab Sz
 have e1:=wr1 (k:=k) (by omega)
 rw [e1]
 have z0:(0:Int)≤(k:Int):=by omega
 by_cases g:k<yq.n
 · have g1:(k:Int)<(yq.n:Int):=by omega
   rw [if_pos (decide_eq_true g1),if_pos ⟨z0,g1⟩,Int.toNat_natCast,if_pos g]
   by_cases h4:400≤yq.at' k
   · rw [if_pos (decide_eq_true h4),if_pos ⟨z0,g1⟩]
     by_cases h5:yq.at' k≤599
     · rw [if_pos (decide_eq_true h5),if_pos ⟨z0,g1⟩,if_pos ⟨h4,h5⟩]
     · rw [if_neg (by simpa using h5),if_neg (fun e=>h5 e.2)]
   · rw [if_neg (by simpa using h4),if_neg (fun e=>h4 e.1)]
 · rw [if_neg (by rw [decide_eq_true_iff];omega),if_neg g]
abbrev snoc3 (a:Sq BA) (x y z:BA):Sq BA:=⟨a.n+3,fun q=>if q<a.n then a.at' q else (fun q=>List.getD (α:=BA) [x,y,z] q (Ba .str)) (q - a.n)⟩
theorem SqE.snoc3 {a b:Sq BA} (h:SqE a b) (x y z:BA):SqE (snoc3 a x y z) (AM.snoc3 b x y z):=by
 refine ⟨by show a.n+3=b.n+3;rw [h.1],fun i hi=>?_⟩
 have hi:i<a.n+3:=hi
 show (if i<a.n then a.at' i else List.getD [x,y,z] (i - a.n) (Ba .str))=(if i<b.n then b.at' i else List.getD [x,y,z] (i - b.n) (Ba .str))
 rw [←h.1]
 by_cases g:i<a.n
 · rw [if_pos g,if_pos g,h.2 i g]
 · rw [if_neg g,if_neg g]
theorem P4 {n:Nat} (h:n≤4000000):Ta (n+3) 16=true:=by
 unfold Ta
 simp only [Bool.and_eq_true,Nat.ble_eq]
 omega
theorem iw (a b c:BA):(a++b)++c=a++(b++c):=JK (by rw [Zn,Zn,Zn,Zn,List.append_assoc])
theorem KM (a:BA):a++(⟨#[]⟩:BA)=a:=JK (by rw [Zn];exact List.append_nil _)
def mtx (b:Mbx):BA:=(b.1++(⟨#[64]⟩:BA))++b.2.1
def EZ (to:Sq BA) (bx:Sq Mbx):Prop:=to.n=bx.n∧∀ i,i<bx.n→to.at' i=mtx (bx.at' i)∧(bx.at' i).1.size≤100000∧(bx.at' i).2.1.size≤100000
theorem m8 (x:BA) (lm:Bool) (q:Sq Int) (re:BA) (sk:Bool) (fr:BA) (to:Sq BA) (tx:BA) (inn:Bool) (out:BA) (got:Sq BA) (hg:got.n≤4000000):
  Ib NN x lm q re sk fr to tx inn out got=some (lm,(q,(re,(sk,(fr,(to,(tx,(inn,(out,(snoc3 got fr x tx,())))))))))):=by
 unfold Ib ed
 rw [fa,if_pos (P4 hg)]
section
variable (to:Sq BA) (bx:Sq Mbx) (hto:EZ to bx) (hbx:bx.n≤1000000) (re:BA) (sk:Bool) (fr tx:BA) (inn:Bool) (base:BA) (hbase:base.size≤100000000) (yq:Sq Int)
include hto hbase hbx
theorem Rab:∀ (d i m m2:Nat) (q:Sq Int) (k:Nat) (o:BA) (g1 g2:Sq BA) (code:Int),i+d=bx.n→d<m→d<m2→QRel q yq k→SqE g1 g2→o.size+20*d≤100000000→g1.n+3*d≤3000000→k+d≤3000000→
  ∃ q2 o2 h1 h2,ya NN m false to (to.n:Int) (i:Int) true q re sk fr to tx inn (base++o) g1=some (.out (true,q2,re,sk,fr,to,tx,inn,base++o2,h1))∧
   (∀ (re2:BA) (sk2 inn2:Bool),qa NN m2 o code (i:Int) true yq (k:Int) re2 sk2 fr inn2 tx bx g2=some (.out (o2,true,yq,((k+d:Nat):Int),re2,sk2,fr,inn2,tx,bx,h2)))∧QRel q2 yq (k+d)∧SqE h1 h2∧o2.size≤o.size+20*d∧h1.n≤g1.n+3*d∧h1.n%3=g1.n%3:=by
 intro d
 induction d with
 | zero=>
  intro i m m2 q k o g1 g2 code hi hm hm2 hq hg ho hgn hk
  obtain ⟨m,rfl⟩:∃ q,m=q+1:=⟨m - 1,by omega⟩
  obtain ⟨m2,rfl⟩:∃ q,m2=q+1:=⟨m2 - 1,by omega⟩
  have a1:¬((i:Int)<(to.n:Int)):=by rw [hto.1];omega
  have a2:¬((i:Int)<(bx.n:Int)):=by omega
  refine ⟨q,o,g1,g2,?_,fun re2 sk2 inn2=>?_,hq,hg,Nat.le_add_right _ _,Nat.le_add_right _ _,rfl⟩
  · simp only [ya,La,a1,decide_false,Bool.false_eq_true,if_false]
  · simp only [qa,Ea,a2,decide_false,Bool.false_eq_true,if_false,Nat.add_zero]
 | succ d ih=>
  intro i m m2 q k o g1 g2 code hi hm hm2 hq hg ho hgn hk
  obtain ⟨m,rfl⟩:∃ q,m=q+1:=⟨m - 1,by omega⟩
  obtain ⟨m2,rfl⟩:∃ q,m2=q+1:=⟨m2 - 1,by omega⟩
  have a2:(i:Int)<(bx.n:Int):=by omega
  have a1:(i:Int)<(to.n:Int):=by rw [hto.1];omega
  have a0:(0:Int)≤(i:Int):=by omega
  have e1:=wr1 (k:=i) (by omega)
  obtain ⟨t,t1,t2,t3⟩:=Wv (eM q)
  have hF:Ca (base++o) t=true:=WO (by rw [ByteArray.size_append];omega)
  have hF2:Ca o t=true:=WO (by omega)
  have A:=j6 true q re sk fr tx inn (base++o) to g1 t1 hF
  have B:∀ (re2:BA) (sk2 inn2:Bool),_:=fun re2 sk2 inn2=>aR true yq k (by omega) re2 sk2 fr inn2 tx bx g2
  simp only [hq.code] at B
  have hot:(o++t).size=o.size+t.size:=by rw [ByteArray.size_append]
  obtain ⟨x1,x2,x3⟩:=hto.2 i (by omega)
  by_cases g:rD q=250
  · have g':(rD q==250)=true:=by simpa using g
    have T:=m8 (to.at' i) true (LM q) re sk fr to tx inn ((base++o)++t) g1 (by omega)
    have L:=(XW NN (bx.at' i).1 (bx.at' i).2.1 x2 x3).2
    have f3:=P4 (n:=g2.n) (by rw [←hg.1];omega)
    obtain ⟨q2,o2,h1,h2,i1,i2,i3,i4,i5,i6,i7⟩:=ih (i+1) m m2 (LM q) (k+1) (o++t) (snoc3 g1 fr (to.at' i) tx) (snoc3 g2 fr (mtx (bx.at' i)) tx) (rD q) (by omega) (by omega) (by omega) hq.next (by rw [x1];exact hg.snoc3 _ _ _) (by omega) (by show g1.n+3+3*d≤_;omega) (by omega)
    refine ⟨q2,o2,h1,h2,?_,fun re2 sk2 inn2=>?_,by rw [show k+(d+1)=k+1+d by omega];exact i3,i4,by omega,?_,?_⟩
    · simp only [ya,La,a0,a1,decide_true,and_self,if_true,A,Option.bind_some,g',Int.toNat_natCast,T,e1]
      rw [iw]
      exact i1
    · simp only [qa,Ea,a0,a2,decide_true,and_self,if_true,Bool.true_eq_false,if_false,B,Option.bind_some,t2,hF2,g',Int.toNat_natCast,L,f3,fa,ba,e1]
      rw [show k+(d+1)=k+1+d by omega]
      exact i2 re2 sk2 inn2
    · have:h1.n≤g1.n+3+3*d:=i6
      omega
    · have:h1.n%3=(g1.n+3)%3:=i7
      omega
  · have g':(rD q==250)=false:=by simpa using g
    obtain ⟨q2,o2,h1,h2,i1,i2,i3,i4,i5,i6,i7⟩:=ih (i+1) m m2 (LM q) (k+1) (o++t) g1 g2 (rD q) (by omega) (by omega) (by omega) hq.next hg (by omega) (by omega) (by omega)
    refine ⟨q2,o2,h1,h2,?_,fun re2 sk2 inn2=>?_,by rw [show k+(d+1)=k+1+d by omega];exact i3,i4,by omega,by omega,i7⟩
    · simp only [ya,La,a0,a1,decide_true,and_self,if_true,A,Option.bind_some,g',Int.toNat_natCast,Bool.false_eq_true,if_false,e1]
      rw [iw]
      exact i1
    · simp only [qa,Ea,a0,a2,decide_true,and_self,if_true,Bool.true_eq_false,Bool.false_eq_true,if_false,B,Option.bind_some,t2,hF2,g',Int.toNat_natCast,e1]
      rw [show k+(d+1)=k+1+d by omega]
      exact i2 re2 sk2 inn2
end
open Go Go.RowKit
abbrev zS:Sq BA:=⟨0,fun _=>Ba .str⟩
abbrev zM:Sq Mbx:=⟨0,fun _=>Ba (.pair .str (.pair .str .unit))⟩
section
variable (to:Sq BA) (bx:Sq Mbx) (hto:EZ to bx) (hbx:bx.n≤1000000) (re:BA) (sk:Bool) (fr tx:BA) (inn:Bool) (out:BA) (yq q:Sq Int) (k:Int) (o:BA) (code:Int)
include hto hbx
theorem L9:∀ (d i m m2:Nat) (g1 g2:Sq BA),1≤i→i+d=bx.n→d<m→d<m2→SqE g1 g2→g1.n+3*d≤3000000→
  ∃ h1 h2,ya NN m (code==250) to (to.n:Int) (i:Int) false q re sk fr to tx inn out g1=some (.out (false,q,re,sk,fr,to,tx,inn,out,h1))∧
   (∀ (re2:BA) (sk2 inn2:Bool),qa NN m2 o code (i:Int) false yq k re2 sk2 fr inn2 tx bx g2=some (.out (o,false,yq,k,re2,sk2,fr,inn2,tx,bx,h2)))∧SqE h1 h2∧h1.n≤g1.n+3*d∧h1.n%3=g1.n%3:=by
 intro d
 induction d with
 | zero=>
  intro i m m2 g1 g2 hi1 hi hm hm2 hg hgn
  obtain ⟨m,rfl⟩:∃ q,m=q+1:=⟨m - 1,by omega⟩
  obtain ⟨m2,rfl⟩:∃ q,m2=q+1:=⟨m2 - 1,by omega⟩
  have a1:¬((i:Int)<(to.n:Int)):=by rw [hto.1];omega
  have a2:¬((i:Int)<(bx.n:Int)):=by omega
  refine ⟨g1,g2,?_,fun re2 sk2 inn2=>?_,hg,Nat.le_add_right _ _,rfl⟩
  · simp only [ya,La,a1,decide_false,Bool.false_eq_true,if_false]
  · simp only [qa,Ea,a2,decide_false,Bool.false_eq_true,if_false]
 | succ d ih=>
  intro i m m2 g1 g2 hi1 hi hm hm2 hg hgn
  obtain ⟨m,rfl⟩:∃ q,m=q+1:=⟨m - 1,by omega⟩
  obtain ⟨m2,rfl⟩:∃ q,m2=q+1:=⟨m2 - 1,by omega⟩
  have a2:(i:Int)<(bx.n:Int):=by omega
  have a1:(i:Int)<(to.n:Int):=by rw [hto.1];omega
  have a0:(0:Int)≤(i:Int):=by omega
  have e1:=wr1 (k:=i) (by omega)
  have i0:((i:Int)==0)=false:=by
   have:(i:Int)≠0:=by omega
   simpa using this
  obtain ⟨x1,x2,x3⟩:=hto.2 i (by omega)
  cases g':(code==250) with
  | true=>
   have T:=m8 (to.at' i) false q re sk fr to tx inn out g1 (by omega)
   have L:=(XW NN (bx.at' i).1 (bx.at' i).2.1 x2 x3).2
   have f3:=P4 (n:=g2.n) (by rw [←hg.1];omega)
   rw [g'] at ih
   obtain ⟨h1,h2,i1,i2,i4,i6,i7⟩:=ih (i+1) m m2 (snoc3 g1 fr (to.at' i) tx) (snoc3 g2 fr (mtx (bx.at' i)) tx) (by omega) (by omega) (by omega) (by omega) (by rw [x1];exact hg.snoc3 _ _ _) (by show g1.n+3+3*d≤_;omega)
   refine ⟨h1,h2,?_,fun re2 sk2 inn2=>?_,i4,?_,?_⟩
   · simp only [ya,La,a0,a1,decide_true,and_self,if_true,Bool.true_eq_false,if_false,Option.bind_some,Int.toNat_natCast,T,e1]
     exact i1
   · simp only [qa,Ea,a0,a2,i0,decide_true,and_self,if_true,Bool.false_eq_true,if_false,Option.bind_some,g',Int.toNat_natCast,L,f3,fa,ba,e1]
     exact i2 re2 sk2 inn2
   · have:h1.n≤g1.n+3+3*d:=i6
     omega
   · have:h1.n%3=(g1.n+3)%3:=i7
     omega
  | false=>
   rw [g'] at ih
   obtain ⟨h1,h2,i1,i2,i4,i6,i7⟩:=ih (i+1) m m2 g1 g2 (by omega) (by omega) (by omega) (by omega) hg (by omega)
   refine ⟨h1,h2,?_,fun re2 sk2 inn2=>?_,i4,by omega,i7⟩
   · simp only [ya,La,a0,a1,decide_true,and_self,if_true,Bool.false_eq_true,if_false,e1]
     exact i1
   · simp only [qa,Ea,a0,a2,i0,decide_true,and_self,if_true,Bool.false_eq_true,if_false,g',e1]
     exact i2 re2 sk2 inn2
end
theorem n9 (lm:Bool) (q:Sq Int) (re:BA) (sk:Bool) (fr:BA) (to:Sq BA) (tx:BA) (inn:Bool) (out:BA) (got:Sq BA):Vb NN lm q re sk fr to tx inn out got=some (lm,(q,(re,(sk,(eB,(eB,(false,(out,(zS,(got,())))))))))):=rfl
theorem W6 (lm:Bool) (yq:Sq Int) (k:Int) (re:BA) (sk:Bool) (pa:BA) (inn:Bool) (li:BA) (bx:Sq Mbx) (got:Sq BA):Eb NN lm yq k re sk pa inn li bx got=some (lm,(yq,(k,(re,(sk,(eB,(false,(eB,(zM,(got,())))))))))):=rfl
theorem w7 (lm:Bool) (to:Sq BA) (bx:Sq Mbx) (hto:EZ to bx) (hbx:bx.n≤100000) (hb1:1≤bx.n) (re:BA) (sk:Bool) (fr tx:BA) (inn:Bool) (out:BA) (ho:out.size≤10000000) (yq q:Sq Int) (k:Nat) (hk:k≤1000000) (hq:QRel q yq k) (g1 g2:Sq BA) (hg:SqE g1 g2) (hgn:g1.n≤1000000):
  ∃ q2 k2 o2 h1 h2,Wb NN lm q re sk fr tx inn out to g1=some (lm,(q2,(re,(sk,(eB,(eB,(false,(out++o2,(zS,(h1,()))))))))))∧
   (∀ (re2:BA) (sk2 inn2:Bool),pb NN lm yq (k:Int) re2 sk2 fr inn2 tx bx g2=some (o2,(lm,(yq,(((k2:Nat):Int),(re2,(sk2,(eB,(false,(eB,(zM,(h2,()))))))))))))∧QRel q2 yq k2∧SqE h1 h2∧o2.size≤20*bx.n∧h1.n≤g1.n+3*bx.n∧k2≤k+bx.n∧h1.n%3=g1.n%3:=by
 unfold Wb bd
 cases lm with
 | true=>
  obtain ⟨q2,o2,h1,h2,i1,i2,i3,i4,i5,i6,i7⟩:=Rab to bx hto (by omega) re sk fr tx inn out (by omega) yq bx.n 0 NN NN q k eB g1 g2 0 (by omega) (by show bx.n<10000000;omega) (by show bx.n<10000000;omega) hq hg (by show 0+_≤_;omega) (by omega) (by omega)
  rw [KM,show ((0:Nat):Int)=0 from rfl] at i1
  refine ⟨q2,k+bx.n,o2,h1,h2,?_,fun re2 sk2 inn2=>?_,i3,i4,by have:o2.size≤0+20*bx.n:=i5;omega,i6,Nat.le_refl _,i7⟩
  · rw [if_neg (by simp),i1,Option.bind_some]
    simp only [onL,n9,Option.bind_some]
  · have i2:=i2 re2 sk2 inn2
    rw [show ((0:Nat):Int)=0 from rfl] at i2
    unfold pb fc
    rw [i2,Option.bind_some]
    simp only [onL,W6,Option.bind_some]
 | false=>
  obtain ⟨t,t1,t2,t3⟩:=Wv (eM q)
  have hF:Ca out t=true:=WO (by omega)
  have A:=j6 false q re sk fr tx inn out to g1 t1 hF
  have B:∀ (re2:BA) (sk2 inn2:Bool),_:=fun re2 sk2 inn2=>aR false yq k (by omega) re2 sk2 fr inn2 tx bx g2
  simp only [hq.code] at B
  obtain ⟨d,hd⟩:∃ d,bx.n=d+1:=⟨bx.n - 1,by omega⟩
  have a2:(0:Int)<(bx.n:Int):=by omega
  have a1:(0:Int)<(to.n:Int):=by rw [hto.1];omega
  have a0:(0:Int)≤0:=Int.le_refl _
  have e1:IntKind.wrap .i64 ((0:Int)+1)=((1:Nat):Int):=by decide
  have hF2:Ca eB t=true:=WO (by show 0+t.size≤_;omega)
  have et:eB++t=t:=JK (by rw [Zn];rfl)
  have z0:((0:Int)==0)=true:=rfl
  have tn:Int.toNat (0:Int)=0:=rfl
  obtain ⟨x1,x2,x3⟩:=hto.2 0 (by omega)
  have step:∀ m:Nat,d<m→∃ h1 h2,ya NN (m+1) (rD q==250) to (to.n:Int) 0 false (LM q) re sk fr to tx inn (out++t) g1=some (.out (false,LM q,re,sk,fr,to,tx,inn,out++t,h1))∧
   (∀ (re2:BA) (sk2 inn2:Bool),qa NN (m+1) eB 0 0 false yq (k:Int) re2 sk2 fr inn2 tx bx g2=some (.out (t,false,yq,((k+1:Nat):Int),re2,sk2,fr,inn2,tx,bx,h2)))∧SqE h1 h2∧h1.n≤g1.n+3*bx.n∧h1.n%3=g1.n%3:=by
   intro m hm
   cases g':(rD q==250) with
   | true=>
    have T:=m8 (to.at' 0) false (LM q) re sk fr to tx inn (out++t) g1 (by omega)
    have L:=(XW NN (bx.at' 0).1 (bx.at' 0).2.1 x2 x3).2
    have f3:=P4 (n:=g2.n) (by rw [←hg.1];omega)
    obtain ⟨h1,h2,i1,i2,i4,i6,i7⟩:=L9 to bx hto (by omega) re sk fr tx inn (out++t) yq (LM q) ((k+1:Nat):Int) t (rD q) d 1 m m (snoc3 g1 fr (to.at' 0) tx) (snoc3 g2 fr (mtx (bx.at' 0)) tx) (by omega) (by omega) (by omega) (by omega) (by rw [x1];exact hg.snoc3 _ _ _) (by show g1.n+3+3*d≤_;omega)
    rw [g'] at i1
    refine ⟨h1,h2,?_,fun re2 sk2 inn2=>?_,i4,?_,?_⟩
    · simp only [ya,La,a0,a1,decide_true,and_self,if_true,Bool.true_eq_false,if_false,Option.bind_some,tn,T,e1]
      exact i1
    · simp only [qa,Ea,a0,a2,z0,decide_true,and_self,if_true,Bool.false_eq_true,if_false,B,t2,hF2,Option.bind_some,g',tn,L,f3,fa,ba,e1,et]
      exact i2 re2 sk2 inn2
    · have:h1.n≤g1.n+3+3*d:=i6
      omega
    · have:h1.n%3=(g1.n+3)%3:=i7
      omega
   | false=>
    obtain ⟨h1,h2,i1,i2,i4,i6,i7⟩:=L9 to bx hto (by omega) re sk fr tx inn (out++t) yq (LM q) ((k+1:Nat):Int) t (rD q) d 1 m m g1 g2 (by omega) (by omega) (by omega) (by omega) hg (by omega)
    rw [g'] at i1
    refine ⟨h1,h2,?_,fun re2 sk2 inn2=>?_,i4,by omega,i7⟩
    · simp only [ya,La,a0,a1,decide_true,and_self,if_true,Bool.false_eq_true,if_false,e1]
      exact i1
    · simp only [qa,Ea,a0,a2,z0,decide_true,and_self,if_true,Bool.false_eq_true,if_false,B,t2,hF2,Option.bind_some,g',e1,et]
      exact i2 re2 sk2 inn2
  obtain ⟨h1,h2,i1,i2,i4,i6,i7⟩:=step 9999999 (by omega)
  have i1:ya NN NN (rD q==250) to (to.n:Int) 0 false (LM q) re sk fr to tx inn (out++t) g1=_:=i1
  refine ⟨LM q,k+1,t,h1,h2,?_,fun re2 sk2 inn2=>?_,hq.next,i4,by omega,i6,by omega,i7⟩
  · rw [if_pos (by rfl),A,Option.bind_some]
    dsimp only
    rw [i1,Option.bind_some]
    simp only [onL,n9,Option.bind_some]
  · have i2:qa NN NN eB 0 0 false yq (k:Int) re2 sk2 fr inn2 tx bx g2=_:=i2 re2 sk2 inn2
    unfold pb fc
    rw [i2,Option.bind_some]
    simp only [onL,W6,Option.bind_some]
end Go.Proofs.YtddefjokgaajfaaGreatDoor.AM
