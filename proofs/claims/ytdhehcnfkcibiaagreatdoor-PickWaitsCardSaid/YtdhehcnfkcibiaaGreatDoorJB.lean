/- The abstract machine, part 14: append, the operation. -/
import Derived.Test.YtdhehcnfkcibiaaGreatDoorJA
import Derived.Lib.AppendStr
import Derived.Shelf.Abstract
import Derived.Lib.Strings
import Derived.StringKeys
import Derived.Lib.UnsafeStr
import Derived.LoopN
import Derived.Lib.Bytealg
import Derived.Laws.Externs
import Derived.Recover
set_option linter.all false
set_option linter.unusedVariables false
set_option linter.unusedSimpArgs false
namespace Go.Proofs.YtdhehcnfkcibiaaGreatDoor.AM
open Go Go.RowKit
section
variable {P:Program} {L:YU} {g:Glob} {B:Nat→Prop} {w0:World} {I0:Nat→Prop} {E:Env} {R:Type} {r:R}
variable {k:AV→fa→Option (Nat→Bool)→Option R}
theorem ne_iff {q r':Nat}:(!(Nat.beq q r'))=true↔q≠r':=by
 cases hb:Nat.beq q r' with
 | true=>simp [Nat.eq_of_beq_eq_true hb]
 | false=>simp [Nat.ne_of_beq_eq_false hb]
section
variable {w:World} {I:Nat→Prop} {m:Nat→Info} {D:Nat→Bool}
mutual
theorem yp:∀ (x:AV) (v:Value),VR w I m Ya x v→rf D x=true
 | .agg l,v,h=>by simp only [VR] at h;obtain ⟨a,rfl,h⟩:=h;simp only [rf];exact Dl l _ h
 | .tup l,v,h=>by simp only [VR] at h;obtain ⟨a,rfl,h⟩:=h;simp only [rf];exact Dl l _ h
 | .fn f l,v,h=>by simp only [VR] at h;obtain ⟨a,rfl,h⟩:=h;simp only [rf];exact Dl l _ h
 | .ifc t x,v,h=>by simp only [VR] at h;obtain ⟨y,rfl,h⟩:=h;simp only [rf];exact yp x _ h
 | .sl r n,v,h=>by simp only [VR] at h;obtain ⟨⟨k,hk⟩,_⟩:=h;simp [Ya] at hk
 | .ptr r i j,v,h=>by simp only [VR] at h;obtain ⟨k,n,hk,_⟩:=h;simp [Ya] at hk
 | .b _,_,_=>by simp [rf]
 | .snap _ _ _,_,_=>by simp [rf]
 | .sptr _,_,_=>by simp [rf]
 | .sp r n,v,h=>by simp only [VR] at h;obtain ⟨⟨k,hk⟩,_⟩:=h;simp [Ya] at hk
 | .mp r,v,h=>by simp only [VR] at h;obtain ⟨⟨k,hk⟩,_⟩:=h;simp [Ya] at hk
 | .top,_,_=>by simp [rf]
theorem Dl:∀ (l:List AV) (vs:List Value),LR w I m Ya l vs→TV D l=true
 | [],_,_=>by simp [TV]
 | x::xs,[],h=>by simp [LR] at h
 | x::xs,v::vs,h=>by simp only [LR] at h;simp only [TV,yp x v h.1,Dl xs vs h.2];rfl
end
end
theorem St.reghost (h:St g B w0 I0 E) {r':Nat} {W W':Row} (hns:∀ τ n xs,W'.ex≠.set τ n xs) (hW:E.H[r']?=some (some W)) (hal:(E.m r').al=false) (hn:W'.n=0) (hmn:W'.mn=true) (hb:W'.box=false) (hkp:W'.k≠0) (hcv:W'.cv=W.cv) {H':fa}
  (hH1:∀ q,q≠r'→∀ V',H'[q]?=some (some V')→∃ V,E.H[q]?=some (some V)∧V'=jm (fun q=>!(Nat.beq q r')) V)
  (hH2:∀ q V,q≠r'→E.H[q]?=some (some V)→H'[q]?=some (some (jm (fun q=>!(Nat.beq q r')) V)))
  (hH3:H'[r']?=some (some W')):St g B w0 I0 { E with H:=H' }∧Ext (fun q=>!(Nat.beq q r')) E { E with H:=H' }:=by
 obtain ⟨s1,s2⟩:=h.cut (D:=fun q=>!(Nat.beq q r')) (H':=H'.set r' none) (fun q V' hV=>by
  by_cases hq:q=r'
  · subst hq
    have hl:q<H'.length:=(List.getElem?_eq_some_iff.1 hH3).1
    rw [List.getElem?_set,if_pos rfl,if_pos hl] at hV
    cases hV
  · rw [List.getElem?_set,if_neg (Ne.symm hq)] at hV
    exact ⟨ne_iff.2 hq,hH1 q hq V' hV⟩) (fun q V hV hd=>by
  have hq:=ne_iff.1 hd
  rw [List.getElem?_set,if_neg (Ne.symm hq)]
  exact hH2 q V hq hV)
 have hget:∀ q,q≠r'→(H'.set r' none)[q]?=H'[q]?:=fun q hq=>by rw [List.getElem?_set,if_neg (Ne.symm hq)]
 have hx:Ext (fun q=>!(Nat.beq q r')) { E with H:=H'.set r' none } { E with H:=H' }:=⟨fun b hb=>⟨hb,rfl⟩,fun q p hp hd=>by
  refine ⟨?_,rfl⟩
  have hq:=ne_iff.1 hd
  unfold VV at hp ⊢
  simp only at hp ⊢
  rw [hget q hq] at hp
  exact hp⟩
 refine ⟨⟨s1.below,s1.hB,s1.hn,s1.gn,s1.glob,s1.isz,s1.imono,s1.ifresh,fun q V hV=>?_,fun q q' V V' hV hV' a1 a2 hb=>?_,fun q V hV hkq hpq=>?_,s1.mp.of (fun q V τ n xs hV hex=>?_) fun b es c hb h1 h2=>⟨rfl,h1,h2⟩⟩,s2.trans hx⟩
 rotate_left
 rotate_left
 rotate_left
 · by_cases hq:q=r'
   · subst hq
     have:H'[q]?=some (some V):=hV
     rw [hH3] at this
     have hV':W'=V:=by simpa using this
     exact absurd (hV'▸hex) (hns τ n xs)
   · have hV':(H'.set r' none)[q]?=some (some V):=by rw [hget q hq];exact hV
     exact ⟨(s1.mp q V τ n xs hV' hex).2.2.2.1,⟨V,hV',hex⟩,rfl⟩
 rotate_left
 rotate_left
 · by_cases hq:q=r'
   · subst hq
     have:H'[q]?=some (some V):=hV
     rw [hH3] at this
     have hV':W'=V:=by simpa using this
     exact absurd (hV'▸hkq) hkp
   · exact s1.gse q V (by show (H'.set r' none)[q]?=_;rw [hget q hq];exact hV) hkq hpq
 · by_cases hq:q=r'
   · subst hq
     have hV':V=W':=by
      have:H'[q]?=some (some V):=hV
      rw [hH3] at this
      simpa using this.symm
     subst hV'
     exact ⟨fun h1=>absurd h1 (by rw [hmn,hn];simp),fun i hi=>(by omega),fun h1=>(by rw [hb] at h1;cases h1),fun l h0=>absurd h0 hkp,fun h1=>(by simp only [hal] at h1;cases h1),fun h1 h2=>(h.rows q W hW).nn (by rw [←hcv];exact h1) h2⟩
   · have hV2:(H'.set r' none)[q]?=some (some V):=by rw [hget q hq];exact hV
     obtain ⟨V0,hV0,hVe⟩:=hH1 q hq V hV
     by_cases ha:(E.m q).al=true
     · exact (s1.rows q V hV2).ext hx rfl rfl (fun h1 _=>h1) (by
        subst hVe
        cases hp:V0.pf with
        | true=>exact .inl hp
        | false=>
         refine .inr fun i hi j x hx'=>?_
         have hx'':(DV (fun q=>!(Nat.beq q r')) (V0.els i))[j]?=some x:=by simpa [cd,hp] using hx'
         rw [Sy] at hx''
         cases hy:(V0.els i)[j]? with
         | none=>rw [hy] at hx'';simp at hx''
         | some y=>rw [hy] at hx'';simp at hx'';rw [←hx''];exact QE y) (fun l hp hl=>by
        subst hVe
        obtain ⟨l0,_,rfl⟩:=nx (W:=V0) hp hl
        exact Df l0)
     · exact ⟨fun h1=>absurd ((s1.rows q V hV2).al h1) ha,(s1.rows q V hV2).len,(s1.rows q V hV2).bx,fun l h0 hp hl=>(by
        subst hVe
        obtain ⟨l0,hl0,rfl⟩:=nx (W:=V0) hp hl
        exact hx.L (Df l0) ((s1.rows q _ hV2).gh _ h0 hp hl)),fun h1=>absurd h1 ha,(s1.rows q V hV2).nn⟩
 · have n1:q≠r':=fun e=>by rw [e] at a1;simp only [hal] at a1;cases a1
   have n2:q'≠r':=fun e=>by rw [e] at a2;simp only [hal] at a2;cases a2
   exact s1.inj q q' V V' (by show (H'.set r' none)[q]?=_;rw [hget q n1];exact hV) (by show (H'.set r' none)[q']?=_;rw [hget q' n2];exact hV') a1 a2 hb
structure App2 (P:Program) (w:World) (t u ty e:TypeId) (x2:Value) (n2:Nat) (news:List Value) (kk:Nat):Prop where
 room:∀ (i:TypeInfo),P.info? e=some i→kk=i.size→∀ (g sLen sCap:Nat) (cur:Array Value),w.heap[g]?=some (.cells cur e (0,0))→sLen+n2≤sCap→sLen*i.size+news.length≤cur.size→
  (Builtin.append_ #[t,u] ty #[.slice (some ⟨g,0,none⟩) sLen sCap,x2]).run P w=.ok (.slice (some ⟨g,0,none⟩) (sLen+n2) sCap) (w.setRow g (cur.toList.take (sLen*i.size)++news++cur.toList.drop (sLen*i.size+news.length)).toArray)
 grow:∀ (i:TypeInfo) (z:Value),P.info? e=some i→i.zero=some z→kk=i.size→∀ (b:Addr) (sLen sCap:Nat) (olds:List Value),olds.length=sLen*i.size→(∀ (j:Nat) (v:Value),olds[j]?=some v→w.cell? (b.add j)=some v)→sCap<sLen+n2→((sLen+n2:Nat):Int)≤9223372036854775807→Builtin.nextslicecap (sLen+n2) sCap*i.bytes≤281474976710656→
  (Builtin.append_ #[t,u] ty #[.slice (some b) sLen sCap,x2]).run P w=.ok (.slice (some ⟨w.heap.size,0,none⟩) (sLen+n2) (grownCap w (sLen+n2) sCap e)) (w.drew.alloc (.cells (olds.toArray++news.toArray++Builtin.zeroCells z.cells (grownCap w (sLen+n2) sCap e - (sLen+n2))) e))
 nil:∀ (i:TypeInfo) (z:Value),P.info? e=some i→i.zero=some z→kk=i.size→0<n2→(n2:Int)≤9223372036854775807→n2*i.bytes≤281474976710656→
  (Builtin.append_ #[t,u] ty #[.slice none 0 0,x2]).run P w=.ok (.slice (some ⟨w.heap.size,0,none⟩) n2 (grownCap w n2 0 e)) (w.drew.alloc (.cells (news.toArray++Builtin.zeroCells z.cells (grownCap w n2 0 e - n2)) e))
theorem FH (hS:St g B w0 I0 E) {t u e ty:TypeId} {ye:Ty} (hu:P.underlying t=some (.slice e)) (hye:TyOk P e ye) {r' n n2:Nat} {W:Row} {e2:Els} {p2:Bool} {vs x2:Value}
  (hW:E.H[r']?=some (some W)) (hs:E.V (.sl r' n) vs)
  (hsrc:0<n2→∃ news:List Value,(∀ i,i<n2→((e2.at') i).length=W.k)∧news.length=n2*W.k∧(∀ i,i<n2→∀ (j:Nat) (x:AV),((e2.at') i)[j]?=some x→∃ v,news[i*W.k+j]?=some v∧VR E.w E.I E.m (jV p2 Ya (VV E.H)) x v∧v.oneCell'=true)∧App2 P E.w t u ty e x2 n2 news W.k)
  (h00:n2=0→∀ (it:TypeInfo),P.info? e=some it→∀ (base:Option Addr) (sl sc:Nat),sl≤sc→(Builtin.append_ #[t,u] ty #[.slice base sl sc,x2]).run P E.w=.ok (.slice base sl sc) E.w)
  (ht:W.t=e) (hzc':ye.zero.cells.size=ye.size) (h:Je E.H r' W ye n n2 e2 p2 k=some r):Nxt P g B w0 I0 E (do pure (Next.value (←Builtin.append_ #[t,u] ty #[vs,x2]))) k r:=by
 unfold Je at h
 obtain ⟨hc,h⟩:=ja h
 simp only [Bool.and_eq_true,Bool.not_eq_true'] at hc
 obtain ⟨⟨⟨hc1,hc2⟩,hcv⟩,hbox⟩:=hc
 obtain ⟨hfits,h⟩:=Pd h
 unfold ld at hfits
 rw [Bool.and_eq_true] at hfits
 have hbytes:=Nat.le_of_ble_eq_true hfits.1
 have h63:=Nat.le_of_ble_eq_true hfits.2
 have hsize:ye.size=W.k:=Nat.eq_of_beq_eq_true hc1
 have hkp:0<W.k:=by have:=Nat.le_of_ble_eq_true hc2;omega
 have hk0:=hS.rows r' W hW
 have hrl:r'<E.H.length:=(List.getElem?_eq_some_iff.1 hW).1
 have hs0:=hs
 simp only [Env.V,VR] at hs
 obtain ⟨⟨kk,hT⟩,hs⟩:=hs
 obtain ⟨rfl,rfl⟩:=si hW hT
 obtain ⟨it,hit,hz,hisz,hiby⟩:=hye.info
 have hzc:ye.zero.cells.size=W.k:=by rw [hzc',hsize]
 generalize hH':(Li (fun q=>!(Nat.beq q r')) E.H).set r' (some (Kc r' W W.n n2 e2 p2))=H'
 have hh:k (.sl r' (W.n+n2)) H' (some (fun q=>!(Nat.beq q r')))=some r:=by rw [←hH'];exact h
 have hH1:∀ q,q≠r'→∀ V',H'[q]?=some (some V')→∃ V,E.H[q]?=some (some V)∧V'=jm (fun q=>!(Nat.beq q r')) V:=fun q hq V' hV=>by
  rw [←hH',List.getElem?_set,if_neg (Ne.symm hq),Ec] at hV
  cases ho:E.H[q]? with
  | none=>rw [ho] at hV;cases hV
  | some o=>cases o with
   | none=>rw [ho] at hV;cases hV
   | some V=>rw [ho] at hV;exact ⟨V,rfl,by simpa using hV.symm⟩
 have hH2:∀ q V,q≠r'→E.H[q]?=some (some V)→H'[q]?=some (some (jm (fun q=>!(Nat.beq q r')) V)):=fun q V hq hV=>by
  rw [←hH',List.getElem?_set,if_neg (Ne.symm hq),Ec,hV];rfl
 have hH3:H'[r']?=some (some (Kc r' W W.n n2 e2 p2)):=by
  rw [←hH',List.getElem?_set,if_pos rfl,if_pos (by simpa [Li] using hrl)]
 have htab:VV H' r'=some (W.k,W.n+n2):=by unfold VV;rw [hH3];rfl
 obtain ⟨hels1,hels2⟩:=lJ r' W W.n n2 e2 p2
 have hlen:∀ i,i<(Kc r' W W.n n2 e2 p2).n→((Kc r' W W.n n2 e2 p2).els i).length=W.k:=fun i hi=>by
  have hi':i<W.n+n2:=hi
  rcases Nat.lt_or_ge i W.n with h1 | h1
  · rw [hels1 i h1]
    have:=hk0.len i h1
    rw [cd]
    show _=W.k
    cases W.pf with
    | true=>exact this
    | false=>simpa [km] using this
  · obtain ⟨q,rfl⟩:∃ q,i=W.n+q:=⟨i - W.n,by omega⟩
    rw [hels2 q (by omega)]
    obtain ⟨_,hl,_⟩:=hsrc (by omega)
    cases p2 with
    | true=>exact hl q (by omega)
    | false=>simpa [km] using hl q (by omega)
 have hpfn:(Kc r' W W.n n2 e2 p2).pf=(W.pf&&p2):=rfl
 have conv1:∀ {y x:AV} {v:Value},(W.pf=true∧x=y∨W.pf=false∧x=kd (fun q=>!(Nat.beq q r')) y)→VR E.w E.I E.m (Fl W (VV E.H)) y v→VR E.w E.I E.m (Fl (Kc r' W W.n n2 e2 p2) (VV E.H)) x v∧((Kc r' W W.n n2 e2 p2).pf=true∨rf (fun q=>!(Nat.beq q r')) x=true):=fun {y x v} hxy hv=>by
  rcases hxy with ⟨hp,rfl⟩ | ⟨hp,rfl⟩
  · unfold Fl at hv ⊢
    rw [if_pos hp] at hv
    rw [hpfn,hp]
    cases p2 with
    | true=>exact ⟨hv,.inl rfl⟩
    | false=>exact ⟨yo hv,.inr (yp x v hv)⟩
  · unfold Fl at hv ⊢
    rw [hp] at hv
    rw [hpfn,hp]
    simp only [Bool.false_and,Bool.false_eq_true,if_false] at hv ⊢
    exact ⟨IF y _ v hv,.inr (QE y)⟩
 have conv2:∀ {y x:AV} {v:Value},(p2=true∧x=y∨p2=false∧x=kd (fun q=>!(Nat.beq q r')) y)→VR E.w E.I E.m (jV p2 Ya (VV E.H)) y v→VR E.w E.I E.m (Fl (Kc r' W W.n n2 e2 p2) (VV E.H)) x v∧((Kc r' W W.n n2 e2 p2).pf=true∨rf (fun q=>!(Nat.beq q r')) x=true):=fun {y x v} hxy hv=>by
  rcases hxy with ⟨hp,rfl⟩ | ⟨hp,rfl⟩
  · rw [hp] at hv
    unfold Fl
    rw [hpfn,hp]
    cases hq:W.pf with
    | true=>exact ⟨hv,.inl rfl⟩
    | false=>exact ⟨yo hv,.inr (yp x v hv)⟩
  · rw [hp] at hv
    unfold Fl
    rw [hpfn,hp]
    simp only [Bool.and_false,Bool.false_eq_true,if_false,cnd_false] at hv ⊢
    exact ⟨IF y _ v hv,.inr (QE y)⟩
 have hWt:(Kc r' W W.n n2 e2 p2).t=W.t:=rfl
 have hWk:(Kc r' W W.n n2 e2 p2).k=W.k:=rfl
 have hWn:(Kc r' W W.n n2 e2 p2).n=W.n+n2:=rfl
 have hWb:(Kc r' W W.n n2 e2 p2).box=false:=hbox
 have mkc:∀ {news:List Value} {arr':Array Value},(∀ i,i<W.n→∀ (j:Nat) (x:AV),(W.els i)[j]?=some x→∃ v,arr'[i*W.k+j]?=some v∧VR E.w E.I E.m (Fl W (VV E.H)) x v∧v.oneCell'=true)→
   (∀ (j:Nat) (v:Value),news[j]?=some v→arr'[W.n*W.k+j]?=some v)→
   (∀ i,i<n2→∀ (j:Nat) (x:AV),((e2.at') i)[j]?=some x→∃ v,news[i*W.k+j]?=some v∧VR E.w E.I E.m (jV p2 Ya (VV E.H)) x v∧v.oneCell'=true)→
   ∀ i,i<(Kc r' W W.n n2 e2 p2).n→∀ (j:Nat) (x:AV),((Kc r' W W.n n2 e2 p2).els i)[j]?=some x→∃ v,arr'[i*(Kc r' W W.n n2 e2 p2).k+j]?=some v∧(VR E.w E.I E.m (Fl (Kc r' W W.n n2 e2 p2) (VV E.H)) x v∧((Kc r' W W.n n2 e2 p2).pf=true∨rf (fun q=>!(Nat.beq q r')) x=true))∧v.oneCell'=true:=fun {news arr'} ho hn hnew i hi j x hx=>by
  rw [hWn] at hi
  rw [hWk]
  rcases Nat.lt_or_ge i W.n with h1 | h1
  · rw [hels1 i h1] at hx
    cases hp:W.pf with
    | true=>
     have hx':(W.els i)[j]?=some x:=by simpa [cd,hp] using hx
     obtain ⟨v,a,b,c⟩:=ho i h1 j x hx'
     exact ⟨v,a,conv1 (.inl ⟨hp,rfl⟩) b,c⟩
    | false=>
     have hx':(DV (fun q=>!(Nat.beq q r')) (W.els i))[j]?=some x:=by simpa [cd,hp] using hx
     rw [Sy] at hx'
     cases hy:(W.els i)[j]? with
     | none=>rw [hy] at hx';simp at hx'
     | some y=>
      rw [hy] at hx'
      simp at hx'
      obtain ⟨v,a,b,c⟩:=ho i h1 j y hy
      exact ⟨v,a,conv1 (.inr ⟨hp,hx'.symm⟩) b,c⟩
  · obtain ⟨q,rfl⟩:∃ q,i=W.n+q:=⟨i - W.n,by omega⟩
    rw [hels2 q (by omega)] at hx
    have hadd:(W.n+q)*W.k+j=W.n*W.k+(q*W.k+j):=by rw [Nat.add_mul,Nat.add_assoc]
    rcases Bool.eq_false_or_eq_true p2 with hp | hp
    · have hx':((e2.at') q)[j]?=some x:=by simpa [hp] using hx
      obtain ⟨v,a,b,c⟩:=hnew q (by omega) j x hx'
      exact ⟨v,by rw [hadd];exact hn _ v a,conv2 (.inl ⟨hp,rfl⟩) b,c⟩
    · have hx':(DV (fun q=>!(Nat.beq q r')) ((e2.at') q))[j]?=some x:=by simpa [hp] using hx
      rw [Sy] at hx'
      cases hy:((e2.at') q)[j]? with
      | none=>rw [hy] at hx';simp at hx'
      | some y=>
       rw [hy] at hx'
       simp at hx'
       obtain ⟨v,a,b,c⟩:=hnew q (by omega) j y hy
       exact ⟨v,by rw [hadd];exact hn _ v a,conv2 (.inr ⟨hp,hx'.symm⟩) b,c⟩
 have fin:∀ {w':World} {blk cap:Nat} {v':Value},(St g B w0 I0 { w:=w',I:=E.I,m:=iW E.m r' ⟨blk,cap,true,[]⟩,H:=H' }∧Ext (fun q=>!(Nat.beq q r')) E { w:=w',I:=E.I,m:=iW E.m r' ⟨blk,cap,true,[]⟩,H:=H' })→(∃ c,v'=.slice (some ⟨blk,0,none⟩) (W.n+n2) c∧W.n+n2≤c∧c≤cap)→
   (Builtin.append_ #[t,u] ty #[vs,x2]).run P E.w=.ok v' w'→Nxt P g B w0 I0 E (do pure (Next.value (←Builtin.append_ #[t,u] ty #[vs,x2]))) k r:=fun {w' blk cap v'} hst hv hrun=>by
  obtain ⟨c,rfl,hv1,hv2⟩:=hv
  refine ⟨_,_,_,some (fun q=>!(Nat.beq q r')),hst.1,hst.2,?_,hh,.inl (nd hrun)⟩
  simp only [Env.V,VR]
  refine ⟨⟨W.k,htab⟩,?_⟩
  rw [eb]
  simp only [if_true]
  exact ⟨c,rfl,hv1,hv2⟩
 have same0:n2=0→∀ (base:Option Addr) (sl sc:Nat),vs=.slice base sl sc→sl≤sc→(Builtin.append_ #[t,u] ty #[vs,x2]).run P E.w=.ok vs E.w:=fun h0 base sl sc hv hle=>by
  subst hv
  exact h00 h0 it hit base sl sc hle
 have hks:W.k=it.size:=by rw [hisz,hsize]
 have newb:∀ {news olds:List Value} {oc:Nat},(Builtin.append_ #[t,u] ty #[vs,x2]).run P E.w=.ok (.slice (some ⟨E.w.heap.size,0,none⟩) (W.n+n2) (grownCap E.w (W.n+n2) oc e)) (E.w.drew.alloc (.cells (olds.toArray++news.toArray++Builtin.zeroCells ye.zero.cells (grownCap E.w (W.n+n2) oc e - (W.n+n2))) e))→
   olds.length=W.n*W.k→(∀ i,i<W.n→∀ (j:Nat) (x:AV),(W.els i)[j]?=some x→∃ v,olds[i*W.k+j]?=some v∧VR E.w E.I E.m (Fl W (VV E.H)) x v∧v.oneCell'=true)→news.length=n2*W.k→
   (∀ i,i<n2→∀ (j:Nat) (x:AV),((e2.at') i)[j]?=some x→∃ v,news[i*W.k+j]?=some v∧VR E.w E.I E.m (jV p2 Ya (VV E.H)) x v∧v.oneCell'=true)→
   Nxt P g B w0 I0 E (do pure (Next.value (←Builtin.append_ #[t,u] ty #[vs,x2]))) k r:=fun {news olds oc} hrun hol ho hnl hnew=>by
  have hge:=grownCap_ge E.w (W.n+n2) oc e
  refine fin (blk:=E.w.heap.size) (cap:=grownCap E.w (W.n+n2) oc e) ?_ ⟨_,rfl,hge,Nat.le_refl _⟩ hrun
  refine hS.grown YF hW hWt hWk hWb (by omega) hH1 hH2 hH3 (arr:=olds.toArray++news.toArray++Builtin.zeroCells ye.zero.cells (grownCap E.w (W.n+n2) oc e - (W.n+n2))) (.inl rfl) (fun b hb hlt=>?_) ?_ rfl rfl rfl (fun arr0 t fz hb=>absurd (Array.getElem?_eq_some_iff.1 hb).1 (Nat.lt_irrefl _)) ?_ (by rw [hWk];exact hlen) (by rw [hWn];exact hge) ?_ ?_
  · exact heap_alloc_old E.w.drew _ b hlt
  · simp
  · rw [hWt,ht];exact heap_alloc_new E.w.drew _
  · rw [hWk]
    simp only [Array.size_append,List.size_toArray,hol,hnl,size_zeroCells,hzc,←Nat.add_mul]
    congr 1
    omega
  · refine mkc (news:=news) (fun i hi j x hx=>?_) (fun j v hv=>?_) hnew
    · obtain ⟨v,b1,b2,b3⟩:=ho i hi j x hx
      refine ⟨v,?_,b2,b3⟩
      have hlt:i*W.k+j<olds.length:=(List.getElem?_eq_some_iff.1 b1).1
      rw [Array.append_assoc,Array.getElem?_append_left (by simpa using hlt),List.getElem?_toArray]
      exact b1
    · have hj:j<news.length:=(List.getElem?_eq_some_iff.1 hv).1
      rw [Array.append_assoc,Array.getElem?_append_right (by simp;omega),Array.getElem?_append_left (by simp;omega),List.size_toArray,hol,show W.n*W.k+j - W.n*W.k=j by omega,List.getElem?_toArray]
      exact hv
 cases hal:(E.m r').al with
 | true=>
  obtain ⟨k1,k2,k3,arr,fz,k4,k5,k6,k6',k7⟩:=hk0.mem hal
  have hfz:=k6' hcv
  subst hfz
  rw [if_pos hal] at hs
  obtain ⟨c,rfl,hnc,hcc⟩:=hs
  rcases Nat.eq_zero_or_pos n2 with h0 | h0
  · refine fin (w':=E.w) (blk:=(E.m r').blk) (cap:=(E.m r').cap) ?_ ⟨c,by rw [h0];rfl,by omega,hcc⟩ (same0 h0 _ _ _ rfl hnc)
    refine hS.grown YF hW hWt hWk hWb (by omega) hH1 hH2 hH3 (arr:=arr) (.inr ⟨hal,rfl⟩) (fun _ _ _=>rfl) (Nat.le_refl _) rfl rfl rfl (fun arr0 t fz hb=>by rw [k4] at hb;cases hb;exact ⟨hWt.symm,rfl⟩) k4 (by rw [hWk];exact hlen) (by rw [hWn];omega) k5 ?_
    exact mkc (news:=[]) k7 (fun j v hv=>by simp at hv) (fun i hi=>by omega)
  · obtain ⟨news,_,n1,n4,hA⟩:=hsrc h0
    by_cases hroom:W.n+n2≤c
    · have hfit:W.n*W.k+news.length≤arr.size:=by
       rw [n1,k5,←Nat.add_mul];exact Nat.mul_le_mul_right _ (by omega)
      have hrun:=hA.room it hit hks (E.m r').blk W.n c arr (ht▸k4) hroom (by rw [←hks];exact hfit)
      rw [←hks] at hrun
      refine fin (blk:=(E.m r').blk) (cap:=(E.m r').cap) ?_ ⟨c,rfl,hroom,hcc⟩ hrun
      refine hS.grown YF hW hWt hWk hWb (by omega) hH1 hH2 hH3 (arr:=(arr.toList.take (W.n*W.k)++news++arr.toList.drop (W.n*W.k+news.length)).toArray) (.inr ⟨hal,rfl⟩) (fun b hb _=>setRow_other _ _ _ _ hb) ?_ rfl rfl rfl (fun arr0 t fz hb=>by
       rw [k4] at hb
       cases hb
       refine ⟨hWt.symm,?_⟩
       simp only [List.size_toArray,List.length_append,List.length_take,List.length_drop,Array.length_toList]
       omega) (setRow_heap _ _ arr _ _ _ k4) (by rw [hWk];exact hlen) (by rw [hWn];omega) ?_ ?_
      · show E.w.heap.size≤(E.w.setRow (E.m r').blk _).heap.size
        simp [World.setRow]
      · rw [hWk,←k5]
        simp only [List.size_toArray,List.length_append,List.length_take,List.length_drop,Array.length_toList]
        omega
      · have htl:(arr.toList.take (W.n*W.k)).length=W.n*W.k:=by rw [List.length_take,Array.length_toList];omega
        refine mkc (news:=news) (fun i hi j x hx=>?_) (fun j v hv=>?_) n4
        · obtain ⟨v,b1,b2,b3⟩:=k7 i hi j x hx
          refine ⟨v,?_,b2,b3⟩
          have hj:j<W.k:=by have:=(List.getElem?_eq_some_iff.1 hx).1;rwa [hk0.len i hi] at this
          have hlt:i*W.k+j<W.n*W.k:=by
           have:=Nat.mul_le_mul_right W.k (show i+1≤W.n by omega)
           rw [Nat.succ_mul] at this;omega
          rw [List.getElem?_toArray,List.append_assoc,List.getElem?_append_left (by rw [htl];exact hlt),List.getElem?_take,if_pos hlt,Array.getElem?_toList]
          exact b1
        · have hj:j<news.length:=(List.getElem?_eq_some_iff.1 hv).1
          rw [List.getElem?_toArray,List.append_assoc,List.getElem?_append_right (by rw [htl];omega),htl,show W.n*W.k+j - W.n*W.k=j by omega,List.getElem?_append_left hj]
          exact hv
    · -- a new row
      have hol:∀ (j:Nat) (v:Value),(arr.toList.take (W.n*W.k))[j]?=some v→E.w.cell? ((⟨(E.m r').blk,0,none⟩:Addr).add j)=some v:=fun j v hv=>by
       rw [List.getElem?_take] at hv
       split at hv
       · rw [Array.getElem?_toList] at hv
         rw [Gj,Nat.zero_add]
         simp [World.cell?,k4,hv]
       · cases hv
      have htl:(arr.toList.take (W.n*W.k)).length=W.n*W.k:=by
       have:=Nat.mul_le_mul_right W.k k3
       rw [List.length_take,Array.length_toList];omega
      have hrun:=hA.grow it ye.zero hit hz hks ⟨(E.m r').blk,0,none⟩ W.n c (arr.toList.take (W.n*W.k)) (by rw [htl,hks]) hol (by omega) (by omega) (growslice_fits (by omega) (by rw [hiby];exact hbytes))
      exact newb hrun htl (fun i hi j x hx=>by
       obtain ⟨v,b1,b2,b3⟩:=k7 i hi j x hx
       refine ⟨v,?_,b2,b3⟩
       have hj:j<W.k:=by have:=(List.getElem?_eq_some_iff.1 hx).1;rwa [hk0.len i hi] at this
       have hlt:i*W.k+j<W.n*W.k:=by
        have:=Nat.mul_le_mul_right W.k (show i+1≤W.n by omega)
        rw [Nat.succ_mul] at this;omega
       rw [List.getElem?_take,if_pos hlt,Array.getElem?_toList]
       exact b1) n1 n4
 | false=>
  rw [if_neg (by rw [hal];simp)] at hs
  obtain ⟨⟨A0,rfl,hA0⟩,hn0⟩:=hs
  have hmn:W.mn=true:=by
   cases hq:W.mn with
   | true=>rfl
   | false=>have:=hk0.al (.inr hq);rw [hal] at this;cases this
  rcases Nat.eq_zero_or_pos n2 with h0 | h0
  · obtain ⟨s1,s2⟩:=hS.reghost YF hW hal (by rw [hWn];omega) (by exact hmn) hWb (show W.k≠0 by omega) rfl hH1 hH2 hH3
    refine ⟨_,_,_,some (fun q=>!(Nat.beq q r')),s1,s2,?_,hh,.inl (nd (same0 h0 A0 0 0 rfl (Nat.le_refl _)))⟩
    simp only [Env.V,VR]
    refine ⟨⟨W.k,htab⟩,?_⟩
    rw [if_neg (by rw [hal];simp)]
    exact ⟨⟨A0,rfl,hA0⟩,by omega⟩
  · obtain ⟨news,_,n1,n4,hA⟩:=hsrc h0
    have hb':n2*it.bytes≤140737488355328:=by rw [hiby];rw [hn0,Nat.zero_add] at hbytes;exact hbytes
    cases A0 with
    | none=>
     have hrun:=hA.nil it ye.zero hit hz hks h0 (by omega) (by omega)
     exact newb (olds:=[]) (oc:=0) (by rw [hn0,Nat.zero_add];simpa using hrun) (by simp [hn0]) (fun i hi=>by omega) n1 n4
    | some a0=>
     have hrun:=hA.grow it ye.zero hit hz hks a0 0 0 [] (by simp) (fun j v hv=>by simp at hv) (by omega) (by omega) (growslice_fits (by omega) (by rw [Nat.zero_add];exact hb'))
     exact newb (olds:=[]) (oc:=0) (by rw [hn0];exact hrun) (by simp [hn0]) (fun i hi=>by omega) n1 n4
theorem mt (hS:St g B w0 I0 E) {t e ty:TypeId} {ye:Ty} (hu:P.underlying t=some (.slice e)) (hye:TyOk P e ye) {r' n n2:Nat} {W:Row} {e2:Els} {p2:Bool} {vs:Value} {A:Option Addr} {c2:Nat}
  (hW:E.H[r']?=some (some W)) (hs:E.V (.sl r' n) vs)
  (hsrc:0<n2→∃ a,A=some a∧(∀ i,i<n2→((e2.at') i).length=W.k)∧∀ i,i<n2→∀ (j:Nat) (x:AV),((e2.at') i)[j]?=some x→∃ v,E.w.cell? (a.add (i*W.k+j))=some v∧VR E.w E.I E.m (jV p2 Ya (VV E.H)) x v∧v.oneCell'=true)
  (ht:W.t=e) (hzc':ye.zero.cells.size=ye.size) (h:Je E.H r' W ye n n2 e2 p2 k=some r):Nxt P g B w0 I0 E (do pure (Next.value (←Builtin.append_ #[t,t] ty #[vs,.slice A n2 c2]))) k r:=by
 refine FH hS hu hye hW hs (fun h0=>?_) (fun h0 it hit base sl sc hle=>?_) ht hzc' h
 · obtain ⟨a,rfl,hsl,hsc⟩:=hsrc h0
   obtain ⟨news,n1,n2',n3,n4⟩:=JH (E:=E) (f:=fun j=>E.w.cell? (a.add j)) (T:=jV p2 Ya (VV E.H)) (kk:=W.k) (els:=e2.at') n2 hsl hsc
   exact ⟨news,hsl,n1,n4,fun i hi hk g sLen sCap cur hg hr hf=>run_append_room (P:=P) E.w t ty e i hu hi g sLen sCap cur hg a n2 c2 news (by rw [n1,hk]) n2' n3 hr hf,
    fun i z hi hz hk b sLen sCap olds h1 h2 h3 h4 h5=>run_append_grow (P:=P) E.w t ty e i z hu hi hz b sLen sCap olds h1 h2 a n2 c2 news (by rw [n1,hk]) n2' h3 h4 h5,
    fun i z hi hz hk h1 h2 h3=>run_append_nil (P:=P) E.w t ty e i z hu hi hz a n2 c2 news (by rw [n1,hk]) n2' h1 h2 h3⟩
 · subst h0
   have hf:(Builtin.firstCells it.size 0 (.slice A 0 c2)).run P E.w=.ok #[] E.w:=by
    cases A with
    | none=>simp [Builtin.firstCells]
    | some a=>simp [Builtin.firstCells,loadCells,loadCellsFrom]
   cases base with
   | none=>simp [Builtin.append_,run_underlying hu,sizeOf,typeInfo,hit,Builtin.lenOf,hle,hf]
   | some a=>simp [Builtin.append_,run_underlying hu,sizeOf,typeInfo,hit,Builtin.lenOf,hle,hf,storeCells]
theorem FJ (q:BA) (i:Nat) (hi:i<q.size):(Lib.strCells q)[i]?=some (.int .u8 (bt q i)):=by
 have h2:i<q.data.toList.length:=by rw [Array.length_toList];exact hi
 unfold Lib.strCells bt
 rw [List.getElem?_map,List.getElem?_eq_getElem h2,dif_pos (by rw [Int.toNat_natCast];exact hi)]
 simp only [Int.toNat_natCast,Option.map_some,Array.getElem_toList]
 rfl
theorem GH (hS:St g B w0 I0 E) {t u e ty:TypeId} {ye:Ty} (hu:P.underlying t=some (.slice e)) (hus:P.underlying u=some .string) (hye:TyOk P e ye) {r' n:Nat} {W:Row} {vs:Value} {q:BA}
  (hW:E.H[r']?=some (some W)) (hs:E.V (.sl r' n) vs) (hk1:W.k=1)
  (ht:W.t=e) (hzc':ye.zero.cells.size=ye.size) (h:Je E.H r' W ye n q.size (mF q) true k=some r):Nxt P g B w0 I0 E (do pure (Next.value (←Builtin.append_ #[t,u] ty #[vs,.string q]))) k r:=by
 refine FH hS hu hye hW hs (fun h0=>?_) (fun h0 it hit base sl sc hle=>?_) ht hzc' h
 · refine ⟨Lib.strCells q,fun i hi=>by rw [hk1];rfl,by rw [hk1,Lib.strCells_length,Nat.mul_one],fun i hi j x hx=>?_,?_⟩
   · have hl:j<1:=(List.getElem?_eq_some_iff.1 hx).1
     obtain rfl:j=0:=by omega
     have hx':x=.b (.int .u8 (bt q i)):=by
      have:([AV.b (.int .u8 (bt q i))]:List AV)[0]?=some x:=hx
      simpa using this.symm
     subst hx'
     refine ⟨.int .u8 (bt q i),?_,rfl,rfl⟩
     rw [hk1,Nat.mul_one,Nat.add_zero]
     exact FJ q i hi
   · rw [hk1]
     exact ⟨fun i hi hk g sLen sCap cur hg hr hf=>by
       have:=Lib.run_append_room_string (P:=P) E.w t u ty e i hu hus hi hk.symm g sLen sCap cur hg q hr (by rw [←hk,Nat.mul_one,Lib.strCells_length] at hf;exact hf)
       rw [←hk,Nat.mul_one,Lib.strCells_length];exact this,
      fun i z hi hz hk b sLen sCap olds h1 h2 h3 h4 h5=>Lib.run_append_grow_string (P:=P) E.w t u ty e i z hu hus hi hz b sLen sCap olds h1 h2 q h3 h4 h5,
      fun i z hi hz hk h1 h2 h3=>by
       have:=run_append_nil_string (P:=P) E.w t u ty e i z hu hus hi hz q h1 h2 h3
       have hsc:(Lib.strCells q).toArray=q.data.map (fun b=>Value.int .u8 b.toNat):=by apply Array.ext';simp [Lib.strCells]
       rw [hsc]
       exact this⟩
 · have hq:q=⟨#[]⟩:=by
    cases q with | mk d=>have:d= #[]:=Array.eq_empty_of_size_eq_zero h0;rw [this]
   subst hq
   have hz0:(⟨#[]⟩:BA).size=0:=rfl
   have hf:(Builtin.firstCells it.size 0 (.string ⟨#[]⟩)).run P E.w=.ok #[] E.w:=by simp [Builtin.firstCells]
   cases base with
   | none=>simp [Builtin.append_,run_underlying hu,run_underlying hus,hz0,sizeOf,typeInfo,hit,Builtin.lenOf,hle,hf]
   | some a=>simp [Builtin.append_,run_underlying hu,run_underlying hus,hz0,sizeOf,typeInfo,hit,Builtin.lenOf,hle,hf,storeCells]
end
open Go Go.RowKit
def Kn:Nat→Info:=fun _=>⟨0,0,false,[]⟩
inductive Out where
 | ret (av:AV)
 | pan (av:AV)
def Out.av:Out→AV
 | .ret av=>av
 | .pan av=>av
def Out.end_:Out→Value→Ending
 | .ret _,v=>.returned v
 | .pan _,v=>.panicked [{ v,recovered:=false }]
def Ans (P:Program) (g:Glob) (f:FuncId) (args:List AV) (out:Out):Prop:=
 ∀ (w:World) (I:Nat→Prop) (vs:List Value),(∀ b,I b→b<w.heap.size)→g.G w→g.n≤w.heap.size→LR w I Kn Ya args vs→
  Calls P f vs.toArray w fun e w'=>∃ v I',e=out.end_ v∧Below w.heap.size w w'∧(∀ b,I b→I' b)∧(∀ b,I' b→I b∨w.heap.size≤b)∧(∀ b,I' b→b<w'.heap.size)∧VR w' I' Kn Ya out.av v
structure PureOk (P:Program) (g:Glob) {R:Type} (Γ:Callees R):Prop where
 enters:∀ f,Γ.isP f=true→Enters P f
 xok:∀ f h vs v,Γ.xc f=some (.flat h)→h vs=some v→∀ w,(callFunc f vs.toArray).run P w=.ok (.value v) w
 xid:∀ f,Γ.xc f=some .ident→∀ x w,(callFunc f #[x]).run P w=.ok (.value x) w
 ans:∀ f args kk pk r,Γ.isP f=true→Γ.pc f args kk pk=some r→(∃ av,kk av=some r∧ao av=true∧Ans P g f args (.ret av))∨(∃ av,pk av=some r∧ao av=true∧Ans P g f args (.pan av))
def LM (P:Program) (g:Glob) (f:FuncId) (args:List AV) (H:fa) (o:OutS):Prop:=
 ∀ (gs:List Value) (B:Nat→Prop) (E:Env) (vs:List Value),St { g with gs:=gs } B E.w E.I E→E.H=H→E.L args vs→Calls P f vs.toArray E.w fun e w'=>
  ∃ v E',e=jV o.pan (.panicked [{ v,recovered:=false }]) (.returned v)∧E'.w=w'∧St { g with gs:=gs } B E.w E.I E'∧E'.H=o.H∧E'.L o.ga vs∧E'.V o.v v
structure CsOk (P:Program) (g:Glob) {R:Type} (Γ:Callees R):Prop where
 ans:∀ f args H F,Γ.cs f args H=some F→Enters P f∧∀ k r,F k=some r→∃ out,k out=some r∧LM P g f args H out
section
variable {P:Program} {L:YU} {g:Glob} {B:Nat→Prop} {w0:World} {I0:Nat→Prop} {E:Env} {R:Type} {r:R}
theorem NS {w:World} {I:Nat→Prop} {m m':Nat→Info} {T:XU} {x:AV} {v:Value} (h:VR w I m Ya x v):VR w I m' T x v:=
 VR.mono (fun _=>true) (fun _ h=>⟨h,rfl⟩) x Ya T v (fun r p hp=>by simp [Ya] at hp) (.inl rfl) h
theorem ES {w:World} {I:Nat→Prop} {m m':Nat→Info} {T:XU} {x:List AV} {v:List Value} (h:LR w I m Ya x v):LR w I m' T x v:=
 LR.mono (fun _=>true) (fun _ h=>⟨h,rfl⟩) x Ya T v (fun r p hp=>by simp [Ya] at hp) (.inl rfl) h
def HQ (w:World):Nat→Prop:=fun b=>b<w.heap.size
theorem FM (hS:St g B w0 I0 E) {J:Nat→Prop} (hJ:∀ b,E.I b→J b) (hJ2:∀ b,¬B b→b<E.w.heap.size→J b) {x:AV} {v:Value} (h:E.V x v):VR E.w J E.m (VV E.H) (view E.H x) v:=by
 have up:∀ {T:XU} {y:AV} {u:Value},VR E.w E.I E.m T y u→VR E.w J E.m T y u:=fun {T y u} hu=>
  VR.mono (fun _=>true) (fun b hb=>⟨hJ b hb,rfl⟩) y T T u (fun _ _ hp _=>⟨hp,rfl⟩) (.inr (rf_all' y)) hu
 cases x with
 | sl r n=>
  simp only [view]
  split
  · rename_i W hW
    split
    · rename_i τ xs hex
      have hels:W.els=fun i=>gV τ (xs i):=by unfold Row.els;rw [hex];rfl
      cases hpk:W.pf&&Nat.beq W.k τ.size with
      | false=>exact up h
      | true=>
       rw [Bool.and_eq_true] at hpk
       obtain ⟨hp,hkb⟩:=hpk
       have hkk:W.k=τ.size:=Nat.eq_of_beq_eq_true hkb
       have hk0:=hS.rows r W hW
       simp only [Env.V,VR] at h
       obtain ⟨⟨kk,hT⟩,h⟩:=h
       obtain ⟨rfl,rfl⟩:=si hW hT
       rw [cnd_true,Cj,←hkk]
       split at h
       · rename_i hal
         obtain ⟨c,rfl,hnc,_⟩:=h
         refine ⟨_,c,rfl,hnc,fun h0=>?_⟩
         obtain ⟨k1,k2,k3,arr,fz,k4,k5,k6,k6',k7⟩:=hk0.mem hal
         rw [hels] at k7
         have hlen:=hk0.len
         rw [hels] at hlen
         refine ⟨_,rfl,rfl,hJ2 _ k1 (Array.getElem?_eq_some_iff.1 k4).1,fun i hi=>⟨hlen i hi,II fun j x hx=>?_⟩⟩
         obtain ⟨u,a,b,c⟩:=k7 i hi j x hx
         refine ⟨u,?_,?_,c⟩
         · rw [Gj,Nat.zero_add]
           simp [World.cell?,k4,a]
         · unfold Fl at b
           rw [if_pos hp] at b
           exact VR.mono (fun _=>true) (fun b hb=>⟨hJ b hb,rfl⟩) x Ya Ya u (fun _ _ hp _=>by simp [Ya] at hp) (.inl rfl) b
       · obtain ⟨⟨A0,rfl,_⟩,hn⟩:=h
         exact ⟨A0,0,by rw [hn],by omega,fun h0=>by omega⟩
    · exact up h
  · exact up h
 | _=>exact up h
where rf_all' (y:AV):rf (fun _=>true) y=true:=re y
theorem MK (hS:St g B w0 I0 E) {J:Nat→Prop} (hJ:∀ b,E.I b→J b) (hJ2:∀ b,¬B b→b<E.w.heap.size→J b):∀ {l:List AV} {vs:List Value},E.L l vs→LR E.w J E.m (VV E.H) (l.map (view E.H)) vs
 | [],[],_=>by simp [LR]
 | [],_::_,h=>by simp [Env.L,LR] at h
 | _::_,[],h=>by simp [Env.L,LR] at h
 | x::xs,v::vs,h=>by
  simp only [Env.L,LR] at h
  simp only [List.map_cons,LR]
  exact ⟨FM hS hJ hJ2 h.1,MK hS hJ hJ2 h.2⟩
theorem LK (hS:St g B w0 I0 E) {J:Nat→Prop} (hJ:∀ b,E.I b→J b) (hJ2:∀ b,¬B b→b<E.w.heap.size→J b) {x:AV} {v:Value} (h:E.V x v):VR E.w J E.m (VV E.H) (CI E.H x) v:=by
 cases x with
 | agg l=>
  simp only [Env.V,VR] at h
  obtain ⟨a,rfl,h⟩:=h
  simp only [CI,VR]
  exact ⟨a,rfl,MK hS hJ hJ2 h⟩
 | _=>exact FM hS hJ hJ2 h
theorem DI (hS:St g B w0 I0 E) {J:Nat→Prop} (hJ:∀ b,E.I b→J b) (hJ2:∀ b,¬B b→b<E.w.heap.size→J b):∀ {l:List AV} {vs:List Value},E.L l vs→LR E.w J E.m (VV E.H) (l.map (CI E.H)) vs
 | [],[],_=>by simp [LR]
 | [],_::_,h=>by simp [Env.L,LR] at h
 | _::_,[],h=>by simp [Env.L,LR] at h
 | x::xs,v::vs,h=>by
  simp only [Env.L,LR] at h
  simp only [List.map_cons,LR]
  exact ⟨LK hS hJ hJ2 h.1,DI hS hJ hJ2 h.2⟩
theorem NK (hS:St g B w0 I0 E) {J:Nat→Prop} (hJ:∀ b,E.I b→J b) (hJ2:∀ b,¬B b→b<E.w.heap.size→J b) {x:AV} {v:Value} (h:E.V x v):VR E.w J E.m (VV E.H) (Wk E.H x) v:=by
 cases x with
 | tup l=>
  simp only [Env.V,VR] at h
  obtain ⟨a,rfl,h⟩:=h
  simp only [Wk,VR]
  exact ⟨a,rfl,DI hS hJ hJ2 h⟩
 | _=>exact LK hS hJ hJ2 h
theorem sy (hS:St g B w0 I0 E):∀ {l:List AV} {vs:List Value},E.L l vs→LR E.w (HQ E.w) E.m (VV E.H) (l.map (Wk E.H)) vs
 | [],[],_=>by simp [LR]
 | [],_::_,h=>by simp [Env.L,LR] at h
 | _::_,[],h=>by simp [Env.L,LR] at h
 | x::xs,v::vs,h=>by
  simp only [Env.L,LR] at h
  simp only [List.map_cons,LR]
  exact ⟨NK hS (fun b hb=>hS.isz b hb) (fun b _ hb=>hb) h.1,sy hS h.2⟩
theorem GM (H:fa) {x:AV} (h:ao x=true):view H x=x:=by
 cases x with
 | sl r n=>simp [ao,rf] at h
 | _=>rfl
theorem EF (H:fa):∀ {l:List AV},dc l=true→l.map (view H)=l
 | [],_=>rfl
 | x::xs,h=>by
  simp only [dc,TV,Bool.and_eq_true] at h
  simp only [List.map_cons,GM H h.1,EF H (l:=xs) h.2]
theorem DF (H:fa) {x:AV} (h:ao x=true):CI H x=x:=by
 cases x with
 | agg l=>simp only [ao,rf] at h;simp only [CI,EF H h]
 | sl r n=>simp [ao,rf] at h
 | _=>rfl
theorem ND (H:fa):∀ {l:List AV},dc l=true→l.map (CI H)=l
 | [],_=>rfl
 | x::xs,h=>by
  simp only [dc,TV,Bool.and_eq_true] at h
  simp only [List.map_cons,DF H h.1,ND H (l:=xs) h.2]
theorem AL (H:fa) {x:AV} (h:ao x=true):Wk H x=x:=by
 cases x with
 | tup l=>simp only [ao,rf] at h;simp only [Wk,ND H h]
 | agg l=>exact DF H h
 | sl r n=>simp [ao,rf] at h
 | _=>rfl
theorem OD (H:fa):∀ {l:List AV},dc l=true→l.map (Wk H)=l
 | [],_=>rfl
 | x::xs,h=>by
  simp only [dc,TV,Bool.and_eq_true] at h
  simp only [List.map_cons,AL H h.1,OD H (l:=xs) h.2]
theorem HF {w:World} {I:Nat→Prop} {m:Nat→Info} {T:XU} {l:List AV} {vs:List Value} (hp:dc l=true) (h:LR w I m T l vs):LR w I m Ya l vs:=
 LR.mono (fun _=>false) (fun _ h=>⟨h,rfl⟩) l T Ya vs (fun r p _ hd=>by cases hd) (.inr hp) h
theorem YJ {w w':World} {I I':Nat→Prop} {m m':Nat→Info} {T T':XU} {x:AV} {v:Value} (hf:gx x=true) (h:VR w I m T x v):VR w' I' m' T' x v:=by
 have hl:∀ {l:List AV} {vs:List Value},(l.all fun x=>match x with
   | .b _=>true
   | _=>false)=true→LR w I m T l vs→LR w' I' m' T' l vs:=fun {l}=>by
  induction l with
  | nil=>intro vs _ h;cases vs<;>simp_all [LR]
  | cons y ys ih=>
   intro vs hall h
   cases vs with
   | nil=>simp [LR] at h
   | cons u us=>
    simp only [List.all_cons,Bool.and_eq_true] at hall
    simp only [LR] at h ⊢
    refine ⟨?_,ih hall.2 h.2⟩
    have h1:=hall.1
    have h2:=h.1
    cases y<;>simp at h1
    simpa only [VR] using h2
 cases x with
 | b u=>simpa only [VR] using h
 | agg l=>simp only [VR] at h ⊢;obtain ⟨a,rfl,h⟩:=h;exact ⟨a,rfl,hl hf h⟩
 | tup l=>simp only [VR] at h ⊢;obtain ⟨a,rfl,h⟩:=h;exact ⟨a,rfl,hl hf h⟩
 | ifc t y=>
  cases y with
  | agg l=>simp only [VR] at h ⊢;obtain ⟨u,rfl,a,rfl,h⟩:=h;exact ⟨_,rfl,a,rfl,hl hf h⟩
  | _=>simp [gx] at hf
 | _=>simp [gx] at hf
theorem CH (hS:St g B w0 I0 E) {Γ:Callees R} (hΓ:PureOk P g Γ) {f:FuncId} {args:List AV} {vs:List Value} (hf:Γ.isP f=true) (hargs:E.L args vs) (hp:dc (args.map (Wk E.H))=true) {kk pk:AV→Option R}
  (h:Γ.pc f (args.map (Wk E.H)) (fun v=>jV (dc args || gx v) (kk v) none) (fun v=>jV (dc args || gx v) (pk v) none)=some r):
  Calls P f vs.toArray E.w fun e w'=>∃ v av E',E'.w=w'∧St g B w0 I0 E'∧Ext gj E E'∧E'.V av v∧E'.H=E.H∧Below E.w.heap.size E.w w'∧(e=.returned v∧kk av=some r∨e=.panicked [{ v,recovered:=false }]∧pk av=some r):=by
 have key:∃ out:Out,((dc args=true∨gx out.av=true)∧Ans P g f (args.map (Wk E.H)) out)∧∀ v,(out.end_ v=.returned v∧kk out.av=some r∨out.end_ v=.panicked [{ v,recovered:=false }]∧pk out.av=some r):=by
  rcases hΓ.ans f _ _ _ r hf h with ⟨av,hk,hpav,ha⟩ | ⟨av,hk,hpav,ha⟩
  · obtain ⟨hc,hk⟩:=ja hk
    rw [Bool.or_eq_true] at hc
    exact ⟨.ret av,⟨hc,ha⟩,fun v=>.inl ⟨rfl,hk⟩⟩
  · obtain ⟨hc,hk⟩:=ja hk
    rw [Bool.or_eq_true] at hc
    exact ⟨.pan av,⟨hc,ha⟩,fun v=>.inr ⟨rfl,hk⟩⟩
 obtain ⟨out,⟨hc,ha⟩,hend⟩:=key
 rcases hc with hc | hc
 · rw [OD E.H hc] at ha
   refine (ha E.w E.I vs hS.isz hS.glob hS.gbase (ES (HF hc hargs))).mono ?_
   rintro e w' ⟨v,I',rfl,hb,h1,h2,h3,h4⟩
   obtain ⟨s1,s2⟩:=hS.grow hb h1 h2 h3
   exact ⟨v,out.av,_,rfl,s1,s2,NS h4,rfl,hb,hend v⟩
 · have hv:=sy hS hargs
   refine (ha E.w (HQ E.w) vs (fun b h=>h) hS.glob hS.gbase (ES (HF hp hv))).mono ?_
   rintro e w' ⟨v,I',rfl,hb,h1,h2,h3,h4⟩
   obtain ⟨s1,s2⟩:=hS.grow hb (I':=E.I) (fun b h=>h) (fun b h=>.inl h) (fun b h=>Nat.lt_of_lt_of_le (hS.isz b h) hb.size)
   exact ⟨v,out.av,_,rfl,s1,s2,YJ hc h4,rfl,hb,hend v⟩
end
open Go Go.RowKit
section
variable {P:Program} {L:YU} {g:Glob} {B:Nat→Prop} {w0:World} {I0:Nat→Prop} {E:Env}
def fL (E:Env) (r:Nat):Nat→Prop:=fun x=>E.I x∨((E.m r).al=true∧x=(E.m r).blk)
theorem St.freeze (h:St g B w0 I0 E) {r:Nat} {W:Row} (hW:E.H[r]?=some (some W)):
  St g B w0 I0 { E with I:=fL E r,H:=wo E.H r }∧Ext (fun q=>!(Nat.beq q r)) E { E with I:=fL E r,H:=wo E.H r }:=by
 have hrl:r<E.H.length:=(List.getElem?_eq_some_iff.1 hW).1
 have hget:∀ q,(wo E.H r)[q]?=if q=r then some none else (Li (fun q=>!(Nat.beq q r)) E.H)[q]?:=fun q=>by
  unfold wo
  rw [List.getElem?_set]
  by_cases hq:q=r
  · subst hq;rw [if_pos rfl,if_pos (by simpa [Li] using hrl),if_pos rfl]
  · rw [if_neg (Ne.symm hq),if_neg hq]
 obtain ⟨s1,s2⟩:=h.cut (D:=fun q=>!(Nat.beq q r)) (H':=wo E.H r) (fun q V' hV=>by
  rw [hget] at hV
  by_cases hq:q=r
  · rw [if_pos hq] at hV;cases hV
  · rw [if_neg hq,Ec] at hV
    cases ho:E.H[q]? with
    | none=>rw [ho] at hV;cases hV
    | some o=>cases o with
     | none=>rw [ho] at hV;cases hV
     | some V=>rw [ho] at hV;exact ⟨ne_iff.2 hq,V,rfl,by simpa using hV.symm⟩) (fun q V hV hd=>by
  have hq:=ne_iff.1 hd
  rw [hget,if_neg hq,Ec,hV];rfl)
 have hx:Ext gj { E with H:=wo E.H r } { E with I:=fL E r,H:=wo E.H r }:=⟨fun b hb=>⟨.inl hb,rfl⟩,fun q p hp _=>⟨hp,rfl⟩⟩
 have hk0:=h.rows r W hW
 refine ⟨⟨s1.below,s1.hB,s1.hn,s1.gn,s1.glob,fun b hb=>?_,fun b hb=>.inl (s1.imono b hb),fun b hb=>?_,fun q V hV=>?_,s1.inj,s1.gse,s1.mp.same rfl rfl fun b es c hb h1 h2=>⟨rfl,h1,fun h3=>h3.elim h2 fun ⟨ha,e⟩=>by
  obtain ⟨_,_,_,arr,fz,k4,_⟩:=hk0.mem ha
  rw [e] at hb
  have hb:E.w.heap[(E.m r).blk]?=some (.map es c):=hb
  rw [k4] at hb;cases hb⟩⟩,?_⟩
 · rcases hb with hb | ⟨ha,rfl⟩
   · exact s1.isz b hb
   · exact h.lt hW ha
 · rcases hb with hb | ⟨ha,rfl⟩
   · exact s1.ifresh b hb
   · exact .inr (hk0.mem ha).1
 · by_cases ha:(E.m q).al=true
   · refine (s1.rows q V hV).ext hx rfl rfl (fun h1 _ h3=>?_) (.inr fun _ _ _ _ _=>re _) (fun _ _ _=>Sa _)
     rcases h3 with h3 | ⟨ha',h3⟩
     · exact h1 h3
     · have hq:q≠r:=fun e=>by
        have:=hget q
        rw [if_pos e] at this
        rw [this] at hV;cases hV
       have hV0:∃ V0,E.H[q]?=some (some V0):=by
        have:=hget q
        rw [if_neg hq,Ec] at this
        rw [this] at hV
        cases ho:E.H[q]? with
        | none=>rw [ho] at hV;cases hV
        | some o=>cases o with
         | none=>rw [ho] at hV;cases hV
         | some V0=>exact ⟨V0,rfl⟩
       obtain ⟨V0,hV0⟩:=hV0
       exact hq (h.inj q r V0 W hV0 hW ha ha' h3)
   · exact ⟨fun h1=>absurd ((s1.rows q V hV).al h1) ha,(s1.rows q V hV).len,(s1.rows q V hV).bx,fun l h0 hp hl=>hx.L (Sa l) ((s1.rows q V hV).gh l h0 hp hl),fun h1=>absurd h1 ha,(s1.rows q V hV).nn⟩
 · exact ⟨fun b hb=>⟨.inl hb,rfl⟩,fun q p hp hd=>s2.t q p hp hd⟩
theorem Bj (hS:St g B w0 I0 E) {r n:Nat} {W:Row} (hW:E.H[r]?=some (some W)) {τ:CTy} {xs:Nat→El τ} (hex:W.ex=.typ τ xs) (hp:W.pf=true) (hkk:W.k=τ.size) {v:Value} (h:E.V (.sl r n) v) {T:XU}:
  VR E.w (fL E r) E.m T (.snap τ n xs) v:=by
 have hels:W.els=fun i=>gV τ (xs i):=by unfold Row.els;rw [hex];rfl
 have hk0:=hS.rows r W hW
 simp only [Env.V,VR] at h
 obtain ⟨⟨kk,hT⟩,h⟩:=h
 obtain ⟨rfl,rfl⟩:=si hW hT
 rw [Cj,←hkk]
 split at h
 · rename_i hal
   obtain ⟨c,rfl,hnc,_⟩:=h
   refine ⟨_,c,rfl,hnc,fun h0=>?_⟩
   obtain ⟨k1,k2,k3,arr,fz,k4,k5,k6,k6',k7⟩:=hk0.mem hal
   rw [hels] at k7
   have hlen:=hk0.len
   rw [hels] at hlen
   refine ⟨_,rfl,rfl,.inr ⟨hal,rfl⟩,fun i hi=>⟨hlen i hi,II fun j x hx=>?_⟩⟩
   obtain ⟨u,a,b,c⟩:=k7 i hi j x hx
   refine ⟨u,?_,?_,c⟩
   · rw [Gj,Nat.zero_add]
     simp [World.cell?,k4,a]
   · unfold Fl at b
     rw [if_pos hp] at b
     exact VR.mono (fun _=>true) (fun b hb=>⟨.inl hb,rfl⟩) x Ya Ya u (fun _ _ hp _=>by simp [Ya] at hp) (.inl rfl) b
 · obtain ⟨⟨A0,rfl,_⟩,hn⟩:=h
   exact ⟨A0,0,by rw [hn],by omega,fun h0=>by omega⟩
variable {R:Type} {k:AV→fa→Option (Nat→Bool)→Option R} {r:R}
def jP (r':Nat) (s:AV):AV→AV
 | .b v=>.b v
 | .sl q _=>jV (Nat.beq q r') s .top
 | _=>.top
theorem RO {n r':Nat} {s:AV} {lo hi:Option AV} {kk:Int→Int→Option R} (h:QM n lo hi kk=some r):QM n (lo.map (jP r' s)) (hi.map (jP r' s)) kk=some r:=by
 unfold QM at h
 split at h
 · exact h
 · exact h
 · exact h
 · exact h
 · cases h
theorem eP (hS:St g B w0 I0 E) (hL:Za P L) {ev:Operand→AV} {ρ:Operand→Value} (hρ:∀ x,E.V (ev x) (ρ x)) {t:TypeId} {x:Operand} {lo hi:Option Operand} {r' n:Nat} (hx:ev x=.sl r' n) (h:(match ec L t,E.H[r']? with
   | some y,some (some W)=>match y.u,W.ex with
    | .slice e,.typ τ xs=>match ec L e with
     | some ye=>jV (W.pf&&Nat.beq W.k τ.size&&Nat.beq ye.size τ.size&&Nat.blt 0 τ.size) (QM n (lo.map ev) (hi.map ev) fun l h=>
       k (.snap τ (h.toNat - l.toNat) (fun i=>xs (l.toNat+i))) ((Li (fun q=>!(Nat.beq q r')) E.H).set r' none) (some fun q=>!(Nat.beq q r'))) none
     | none=>none
    | _,_=>none
   | _,_=>none)=some r):Nxt P g B w0 I0 E (do pure (Next.value (←Instr.sliceAt t (ρ x) (lo.map ρ) (hi.map ρ) none))) k r:=by
 split at h
 · rename_i y W hy hW
   split at h
   · rename_i e τ xs hu hex
     split at h
     · rename_i ye hye
       obtain ⟨hc,h⟩:=ja h
       simp only [Bool.and_eq_true] at hc
       obtain ⟨⟨⟨hp,hk⟩,hs1⟩,hs2⟩:=hc
       have hkk:W.k=τ.size:=Nat.eq_of_beq_eq_true hk
       obtain ⟨s1,s2⟩:=hS.freeze hW
       have hval:∀ q v,E.V (.sl r' q) v→q=n→({ E with I:=fL E r',H:=wo E.H r' }:Env).V (.snap τ n xs) v:=fun q v hv hq=>by
        subst hq
        exact Bj hS hW hex hp hkk hv
       have hn:n=W.n:=by
        have:=hρ x
        rw [hx] at this
        simp only [Env.V,VR] at this
        obtain ⟨⟨kk,hT⟩,_⟩:=this
        exact (si hW hT).2
       have hρ1:∀ o,({ E with I:=fL E r',H:=wo E.H r' }:Env).V (jP r' (.snap τ n xs) (ev o)) (ρ o):=fun o=>by
        have ho:=hρ o
        cases he:ev o with
        | b v=>rw [he] at ho;exact V_b.2 (V_b.1 ho)
        | sl q m=>
         rw [he] at ho
         simp only [jP]
         cases hq:Nat.beq q r' with
         | false=>simp [Env.V,VR]
         | true=>
          have hq':q=r':=Nat.eq_of_beq_eq_true hq
          subst hq'
          refine hval m _ ho ?_
          simp only [Env.V,VR] at ho
          obtain ⟨⟨kk,hT⟩,_⟩:=ho
          rw [hn]
          exact (si hW hT).2
        | _=>simp [jP,Env.V,VR]
       have h2:PV L (wo E.H r') (fun o=>jP r' (.snap τ n xs) (ev o)) (.slice t x lo hi none) (fun v=>k v (wo E.H r') (some fun q=>!(Nat.beq q r')))=some r:=by
        simp only [PV,hx,jP,Nat.beq_eq_true_eq,hy]
        rw [show Nat.beq r' r'=true from Nat.beq_refl r',cnd_true]
        simp only [hu,hye]
        rw [show (Nat.beq ye.size τ.size&&Nat.blt 0 τ.size)=true from by rw [hs1,hs2];rfl,cnd_true]
        have:=RO (r':=r') (s:=.snap τ n xs) h
        rw [Option.map_map,Option.map_map] at this
        exact this
       obtain ⟨av,v,h3,h4,h5⟩:=KM (P:=P) (E:={ E with I:=fL E r',H:=wo E.H r' }) (C:=fun _=>True) hL hρ1 h2
       exact ⟨av,v,_,some fun q=>!(Nat.beq q r'),s1,s2,h4,h3,.inl (nd (h5 E.w trivial))⟩
     · exact da h
   · exact da h
 · exact da h
section
variable {E E2:Env} {r':Nat} {s:AV} (hx:Ext (fun q=>!(Nat.beq q r')) E E2) (hs:∀ n v,E.V (.sl r' n) v→E2.V s v)
include hx hs
mutual
theorem cK:∀ (x:AV) (v:Value),E.V x v→E2.V (vV r' s x) v
 | .agg l,v,h=>by
  simp only [Env.V,VR] at h
  obtain ⟨a,rfl,h⟩:=h
  simp only [vV,Env.V,VR]
  exact ⟨a,rfl,rF l _ h⟩
 | .tup l,v,h=>by
  simp only [Env.V,VR] at h
  obtain ⟨a,rfl,h⟩:=h
  simp only [vV,Env.V,VR]
  exact ⟨a,rfl,rF l _ h⟩
 | .fn f l,v,h=>by
  simp only [Env.V,VR] at h
  obtain ⟨a,rfl,h⟩:=h
  simp only [vV,Env.V,VR]
  exact ⟨a,rfl,rF l _ h⟩
 | .ifc t x,v,h=>by
  simp only [Env.V,VR] at h
  obtain ⟨y,rfl,h⟩:=h
  simp only [vV,Env.V,VR]
  exact ⟨y,rfl,cK x y h⟩
 | .sl q n,v,h=>by
  simp only [vV]
  cases hb:Nat.beq q r' with
  | true=>rw [Nat.eq_of_beq_eq_true hb] at h;exact hs n v h
  | false=>exact hx.V (by simp [rf,hb]) h
 | .ptr q i j,v,h=>by
  simp only [vV]
  cases hb:Nat.beq q r' with
  | true=>simp [Env.V,VR]
  | false=>exact hx.V (by simp [rf,hb]) h
 | .sp q n,v,h=>by
  simp only [vV]
  cases hb:Nat.beq q r' with
  | true=>simp [Env.V,VR]
  | false=>exact hx.V (by simp [rf,hb]) h
 | .mp q,v,h=>by
  simp only [vV]
  cases hb:Nat.beq q r' with
  | true=>simp [Env.V,VR]
  | false=>exact hx.V (by simp [rf,hb]) h
 | .b u,v,h=>by simp only [vV];exact hx.V (by simp [rf]) h
 | .snap τ n e,v,h=>by simp only [vV];exact hx.V (by simp [rf]) h
 | .sptr l,v,h=>by simp only [vV];exact hx.V (by simp [rf]) h
 | .top,v,h=>by simp [vV,Env.V,VR]
theorem rF:∀ (l:List AV) (vs:List Value),E.L l vs→E2.L (uV r' s l) vs
 | [],[],_=>by simp [uV,Env.L,LR]
 | [],_::_,h=>by simp [Env.L,LR] at h
 | _::_,[],h=>by simp [Env.L,LR] at h
 | x::xs,v::vs,h=>by
  simp only [Env.L,LR] at h
  simp only [uV,Env.L,LR]
  exact ⟨cK x v h.1,rF xs vs h.2⟩
end
end
end
open Go Go.RowKit
structure Info.Same (a b:Info):Prop where
 al:a.al=b.al
 blk:a.blk=b.blk
 cap:a.cap=b.cap
theorem Info.Same.rfl' (a:Info):a.Same a:=⟨rfl,rfl,rfl⟩
section
variable {w w':World} {I I':Nat→Prop} {m m':Nat→Info} {ν:Nat→Option Nat}
mutual
theorem eF (hI:∀ b,I b→I' b∧w'.heap[b]?=w.heap[b]?):∀ (x:AV) (T T':XU) (v:Value),(∀ r p q,T r=some p→ν r=some q→T' q=some p∧(m' q).Same (m r))→VR w I m T x v→VR w' I' m' T' (ren ν x) v
 | .agg l,T,T',v,hT,h=>by simp only [ren,VR] at h ⊢;obtain ⟨a,rfl,h⟩:=h;exact ⟨a,rfl,Ut hI l T T' _ hT h⟩
 | .tup l,T,T',v,hT,h=>by simp only [ren,VR] at h ⊢;obtain ⟨a,rfl,h⟩:=h;exact ⟨a,rfl,Ut hI l T T' _ hT h⟩
 | .fn f l,T,T',v,hT,h=>by simp only [ren,VR] at h ⊢;obtain ⟨a,rfl,h⟩:=h;exact ⟨a,rfl,Ut hI l T T' _ hT h⟩
 | .ifc t x,T,T',v,hT,h=>by simp only [ren,VR] at h ⊢;obtain ⟨a,rfl,h⟩:=h;exact ⟨a,rfl,eF hI x T T' _ hT h⟩
 | .sl r n,T,T',v,hT,h=>by
  simp only [ren]
  split
  · rename_i q hq
    simp only [VR] at h ⊢
    obtain ⟨⟨k,hk⟩,h⟩:=h
    obtain ⟨h1,h2⟩:=hT r _ q hk hq
    exact ⟨⟨k,h1⟩,by rw [h2.al,h2.blk,h2.cap];exact h⟩
  · simp [VR]
 | .ptr r i j,T,T',v,hT,h=>by
  simp only [ren]
  split
  · rename_i q hq
    simp only [VR] at h ⊢
    obtain ⟨k,n,hk,hi,hj,ha,hv⟩:=h
    obtain ⟨h1,h2⟩:=hT r _ q hk hq
    exact ⟨k,n,h1,hi,hj,by rw [h2.al];exact ha,by rw [h2.blk];exact hv⟩
  · simp [VR]
 | .sp r n,T,T',v,hT,h=>by
  simp only [ren]
  split
  · rename_i q hq
    simp only [VR] at h ⊢
    obtain ⟨⟨k,hk⟩,h⟩:=h
    obtain ⟨h1,h2⟩:=hT r _ q hk hq
    exact ⟨⟨k,h1⟩,by rw [h2.al,h2.blk];exact h⟩
  · obtain ⟨_,p,hp,_⟩:_∧∃ p,v=.pointer p∧_:=by simpa only [VR] using h
    simp [VR]
 | .mp r,T,T',v,hT,h=>by
  simp only [ren]
  split
  · rename_i q hq
    simp only [VR] at h ⊢
    obtain ⟨⟨k,hk⟩,h⟩:=h
    obtain ⟨h1,h2⟩:=hT r _ q hk hq
    exact ⟨⟨_,h1⟩,by rw [h2.blk];exact h⟩
  · simp [VR]
 | .b u,T,T',v,hT,h=>by simpa only [ren,VR] using h
 | .top,T,T',v,hT,h=>by simp [ren,VR]
 | .snap τ n xs,T,T',v,hT,h=>by
  simp only [ren]
  exact VR.mono (fun _=>false) hI (.snap τ n xs) T T' v (fun _ _ _ hd=>by cases hd) (.inr (by simp [rf])) h
 | .sptr l,T,T',v,hT,h=>by
  simp only [ren]
  exact VR.mono (fun _=>false) hI (.sptr l) T T' v (fun _ _ _ hd=>by cases hd) (.inr (by simp [rf])) h
theorem Ut (hI:∀ b,I b→I' b∧w'.heap[b]?=w.heap[b]?):∀ (l:List AV) (T T':XU) (vs:List Value),(∀ r p q,T r=some p→ν r=some q→T' q=some p∧(m' q).Same (m r))→LR w I m T l vs→LR w' I' m' T' (wy ν l) vs
 | [],T,T',[],_,_=>by simp [wy,LR]
 | [],T,T',_::_,_,h=>by simp [LR] at h
 | _::_,T,T',[],_,h=>by simp [LR] at h
 | x::xs,T,T',v::vs,hT,h=>by
  simp only [wy,LR] at h ⊢
  exact ⟨eF hI x T T' v hT h.1,Ut hI xs T T' vs hT h.2⟩
end
theorem yK (ν:Nat→Option Nat):∀ (l:List AV) (j:Nat),(wy ν l)[j]?=(l[j]?).map (ren ν)
 | [],j=>by simp [wy]
 | x::xs,0=>by simp [wy]
 | x::xs,j+1=>by simp [wy,yK ν xs j]
theorem zK (ν:Nat→Option Nat):∀ l:List AV,(wy ν l).length=l.length
 | []=>by simp [wy]
 | x::xs=>by simp [wy,zK ν xs]
end
theorem Bz (ν:Nat→Option Nat) (W:Row):(Td ν W).els=jV W.pf W.els (fun i=>wy ν (W.els i)):=by
 unfold Td Row.els
 cases W.pf with
 | true=>rfl
 | false=>
  simp only [cnd_false]
  unfold kN
  split
  · rename_i l he;rw [he];rfl
  · rfl
theorem uL {ν:Nat→Option Nat} {W:Row} {l:List AV} (hp:W.pf=false) (h:(Td ν W).ex=.box l):∃ l0,W.ex=.box l0∧l=wy ν l0:=by
 unfold Td at h
 simp only [hp,cnd_false] at h
 unfold kN at h
 split at h
 · rename_i l0 he
   cases h
   exact ⟨l0,he,rfl⟩
 · cases h
theorem RowOk.ren {B B':Nat→Prop} {E E':Env} {r q:Nat} {W:Row} {ν:Nat→Option Nat} (h:RowOk B E r W) (hm:(E'.m q).Same (E.m r)) (hgv:W.k=0→(E'.m q).gv=(E.m r).gv)
  (hcap:(E.m r).al=true→∃ arr fz,E'.w.heap[(E.m r).blk]?=some (.cells arr W.t fz)∧E.w.heap[(E.m r).blk]?=some (.cells arr W.t fz)) (hB:(E.m r).al=true→¬B' (E.m r).blk) (hnI:(E.m r).al=true→¬E'.I (E.m r).blk)
  (hI:∀ b,E.I b→E'.I b∧E'.w.heap[b]?=E.w.heap[b]?) (hν:∀ r p q,VV E.H r=some p→ν r=some q→VV E'.H q=some p∧(E'.m q).Same (E.m r)):RowOk B' E' q (Td ν W):=by
 have hT:∀ {x:AV} {v:Value},VR E.w E.I E.m (Fl W (VV E.H)) x v→VR E'.w E'.I E'.m (Fl W (VV E'.H)) (jV W.pf x (AM.ren ν x)) v:=fun {x v} hv=>by
  unfold Fl at*
  cases hp:W.pf with
  | true=>
   simp only [hp,if_true,cnd_true] at hv ⊢
   exact VR.mono (fun _=>true) hI x Ya Ya v (fun r p hp=>by simp [Ya] at hp) (.inl rfl) hv
  | false=>
   simp only [hp,Bool.false_eq_true,if_false,cnd_false] at hv ⊢
   exact eF hI x _ _ v hν hv
 have hpf:(Td ν W).pf=W.pf:=rfl
 refine ⟨fun h1=>by rw [hm.al];exact h.al h1,fun i hi=>?_,h.bx,fun l h0 hp hl=>?_,fun ha=>?_,fun h1 h2=>by rw [hm.al] at h2;rw [hm.cap];exact h.nn h1 h2⟩
 · have:=h.len i hi
   rw [Bz]
   show _=W.k
   cases W.pf with
   | true=>exact this
   | false=>simpa [zK] using this
 · obtain ⟨l0,hl0,rfl⟩:=uL (W:=W) hp hl
   rw [hgv h0]
   exact Ut hI l0 _ _ _ hν (h.gh l0 h0 hp hl0)
 · rw [hm.al] at ha
   rw [hm.blk,hm.cap]
   obtain ⟨k1,k2,k3,arr,fz,k4,k5,k6,k6',k7⟩:=h.mem ha
   obtain ⟨arr',fz',e1,e2⟩:=hcap ha
   rw [k4] at e2
   cases e2
   refine ⟨hB ha,hnI ha,k3,arr,fz,e1,k5,k6,k6',fun i hi j x hx=>?_⟩
   show ∃ v,arr[i*W.k+j]?=some v∧VR E'.w E'.I E'.m (Fl W (VV E'.H)) x v∧_
   cases hp:W.pf with
   | true=>
    have hx'':(W.els i)[j]?=some x:=by simpa [Bz,hp] using hx
    obtain ⟨v,hv,hvr,h1⟩:=k7 i hi j x hx''
    have:=hT hvr
    rw [hp,cnd_true] at this
    exact ⟨v,hv,this,h1⟩
   | false=>
    have hx'':(wy ν (W.els i))[j]?=some x:=by simpa [Bz,hp] using hx
    rw [yK] at hx''
    cases hy:(W.els i)[j]? with
    | none=>rw [hy] at hx'';simp at hx''
    | some y=>
     rw [hy] at hx''
     simp at hx''
     obtain ⟨v,hv,hvr,h1⟩:=k7 i hi j y hy
     have:=hT hvr
     rw [hp,cnd_false,hx''] at this
     exact ⟨v,hv,this,h1⟩
theorem vK:∀ {o:List Nat} {r q:Nat},yF o r=some q→o[q]?=some r
 | [],r,q,h=>by simp [yF] at h
 | x::xs,r,q,h=>by
  simp only [yF] at h
  cases hb:Nat.beq x r with
  | true=>
   rw [hb,cnd_true] at h
   cases h
   simp [Nat.eq_of_beq_eq_true hb]
  | false=>
   rw [hb,cnd_false] at h
   split at h
   · rename_i q' hq'
     cases h
     simpa using vK hq'
   · cases h
theorem memN_iff {r:Nat}:∀ {o:List Nat},EL r o=true↔r∈o
 | []=>by simp [EL]
 | x::xs=>by
  simp only [EL]
  cases hb:Nat.beq x r with
  | true=>simp [Nat.eq_of_beq_eq_true hb]
  | false=>
   have:x≠r:=Nat.ne_of_beq_eq_false hb
   simp only [cnd_false,List.mem_cons,memN_iff (o:=xs)]
   exact ⟨.inr,fun h=>h.resolve_left (Ne.symm this)⟩
theorem Vh:∀ {rs o:List Nat},o.Nodup→(yC o rs).Nodup
 | [],o,h=>h
 | r::rs,o,h=>by
  simp only [yC]
  cases hb:EL r o with
  | true=>exact Vh h
  | false=>
   refine Vh ?_
   rw [List.nodup_append]
   refine ⟨h,by simp,fun a ha b hb'=>?_⟩
   simp at hb'
   subst hb'
   intro e
   subst e
   rw [memN_iff.2 ha] at hb
   cases hb
theorem xD {H:fa}:∀ {f p:Nat} {o:List Nat},o.Nodup→(iN H f p o).Nodup
 | 0,p,o,h=>h
 | f+1,p,o,h=>by
  simp only [iN]
  split
  · exact xD (Vh h)
  · exact h
theorem Yj (l:List AV) (H:fa):(order l H).Nodup:=xD (Vh (by simp))
theorem WC:∀ {o:List Nat} {r i j:Nat},o.Nodup→o[i]?=some r→o[j]?=some r→i=j
 | [],r,i,j,_,h,_=>by simp at h
 | x::xs,r,0,0,_,_,_=>rfl
 | x::xs,r,0,j+1,hn,h,k=>by
  simp at h k
  exact absurd (h▸List.mem_of_getElem? k) (List.nodup_cons.1 hn).1
 | x::xs,r,i+1,0,hn,h,k=>by
  simp at h k
  exact absurd (k▸List.mem_of_getElem? h) (List.nodup_cons.1 hn).1
 | x::xs,r,i+1,j+1,hn,h,k=>by
  simp at h k
  rw [WC (List.nodup_cons.1 hn).2 h k]
theorem GK (o:List Nat) (H:fa) (q:Nat):(FK o H)[q]?=(o[q]?).map fun r=>(Kd H r).map (Td (yF o)):=by simp [FK]
theorem rowAtH_some {H:fa} {r:Nat} {W:Row}:Kd H r=some W↔H[r]?=some (some W):=by
 unfold Kd
 split
 · rename_i o ho;rw [ho];simp
 · rename_i ho;rw [ho];simp
theorem uo {o:List Nat} {H:fa} {q:Nat} {W':Row} (h:(FK o H)[q]?=some (some W')):∃ r W,o[q]?=some r∧H[r]?=some (some W)∧W'=Td (yF o) W:=by
 rw [GK] at h
 cases ho:o[q]? with
 | none=>rw [ho] at h;simp at h
 | some r=>
  rw [ho] at h
  simp only [Option.map_some,Option.some.injEq] at h
  cases hr:Kd H r with
  | none=>rw [hr] at h;simp at h
  | some W=>
   rw [hr] at h
   simp only [Option.map_some,Option.some.injEq] at h
   exact ⟨r,W,rfl,rowAtH_some.1 hr,h.symm⟩
theorem ZG {H:fa} {r:Nat} {p:Nat×Nat} (h:VV H r=some p):∃ W:Row,H[r]?=some (some W)∧p=(W.k,W.n):=by
 unfold VV at h
 split at h
 · rename_i W hW;cases h;exact ⟨W,hW,rfl⟩
 · cases h
theorem BF {H:fa} {r:Nat} {W:Row} (h:H[r]?=some (some W)):VV H r=some (W.k,W.n):=by unfold VV;rw [h]
section
variable {P:Program} {g:Glob} {B:Nat→Prop} {w0:World} {I0:Nat→Prop} {E:Env}
def zM (E:Env) (o:List Nat):Nat→Prop:=fun b=>b<E.w.heap.size∧∀ r W,r∈o→E.H[r]?=some (some W)→((E.m r).al=true∨∃ τ n xs,W.ex=.set τ n xs)→b≠(E.m r).blk
def YB (E:Env) (o:List Nat):Env:={ w:=E.w,I:=E.I,m:=fun q=>E.m (o.getD q 0),H:=FK o E.H }
theorem MD {o:List Nat} {q r:Nat} (h:o[q]?=some r):(YB E o).m q=E.m r:=by
 simp only [YB,List.getD_eq_getElem?_getD,h,Option.getD_some]
theorem Pl {o:List Nat} {r q:Nat} {p:Nat×Nat} (hT:VV E.H r=some p) (h:yF o r=some q):VV (YB E o).H q=some p∧((YB E o).m q).Same (E.m r):=by
 obtain ⟨W,hW,rfl⟩:=ZG hT
 have hq:=vK h
 refine ⟨?_,by rw [MD hq];exact .rfl' _⟩
 have:(YB E o).H[q]?=some (some (Td (yF o) W)):=by
  show (FK o E.H)[q]?=_
  rw [GK,hq]
  simp [rowAtH_some.2 hW]
 rw [BF this];rfl
theorem BI (h:St g B w0 I0 E) {o:List Nat} {B':Nat→Prop} (hB:∀ r W,r∈o→E.H[r]?=some (some W)→(E.m r).al=true→¬B' (E.m r).blk):Rows B' (YB E o):=fun q W' hW'=>by
 obtain ⟨r,W,ho,hW,rfl⟩:=uo hW'
 have hm:(YB E o).m q=E.m r:=MD ho
 refine (h.rows r W hW).ren (by rw [hm];exact .rfl' _) (fun _=>by rw [hm]) (fun ha=>?_) (fun ha=>hB r W (List.mem_of_getElem? ho) hW ha) (fun ha=>((h.rows r W hW).mem ha).2.1) (fun b hb=>⟨hb,rfl⟩) (fun r p q hT hq=>Pl hT hq)
 obtain ⟨_,_,_,arr,fz,hh,_⟩:=(h.rows r W hW).mem ha
 exact ⟨arr,fz,hh,hh⟩
theorem EK (h:St g B w0 I0 E) {o:List Nat} (hn:o.Nodup):∀ q q' W W',(YB E o).H[q]?=some (some W)→(YB E o).H[q']?=some (some W')→((YB E o).m q).al=true→((YB E o).m q').al=true→((YB E o).m q).blk=((YB E o).m q').blk→q=q':=fun q q' W W' hW hW' ha ha' hb=>by
 obtain ⟨r,V,ho,hV,rfl⟩:=uo hW
 obtain ⟨r',V',ho',hV',rfl⟩:=uo hW'
 rw [MD ho] at ha hb
 rw [MD ho'] at ha' hb
 have:=h.inj r r' V V' hV hV' ha ha' hb
 subst this
 exact WC hn ho ho'
theorem DK (h:St g B w0 I0 E) {o:List Nat}:∀ q W,(YB E o).H[q]?=some (some W)→W.k=0→W.pf=false→((YB E o).m q).gv=g.gs:=fun q W' hW' hk hp=>by
 obtain ⟨r,V,ho,hV,rfl⟩:=uo hW'
 rw [MD ho]
 exact h.gse r V hV hk hp
theorem co {ν:Nat→Option Nat} {W:Row} {τ:CTy} {n:Nat} {xs:Nat→El τ} (h:(Td ν W).ex=.set τ n xs):W.ex=.set τ n xs:=by
 unfold Td at h
 cases hp:W.pf with
 | true=>simpa only [hp,cnd_true] using h
 | false=>
  simp only [hp,cnd_false] at h
  unfold kN at h
  split at h<;>cases h
theorem BM (h:St g B w0 I0 E) {o:List Nat} (hn:o.Nodup) {B':Nat→Prop} (hB:∀ b,¬B b→¬E.I b→∀ r W τ n xs,r∈o→E.H[r]?=some (some W)→W.ex=.set τ n xs→b=(E.m r).blk→¬B' b):Maps B' (YB E o):=fun q W' τ n xs hW' hex=>by
 obtain ⟨r,V,ho,hV,rfl⟩:=uo hW'
 have hex:=co hex
 obtain ⟨k1,k2,k3,k4,k5⟩:=h.mp r V τ n xs hV hex
 rw [MD ho]
 refine ⟨hB _ k1 k2 r V τ n xs (List.mem_of_getElem? ho) hV hex rfl,k2,k3,k4,fun q' V' τ' n' xs' hV' hex' hb=>?_⟩
 obtain ⟨r',U,ho',hU,rfl⟩:=uo hV'
 rw [MD ho'] at hb
 have:=k5 r' U τ' n' xs' hU (co hex') hb
 subst this
 exact WC hn ho' ho
theorem St.gc (h:St g B w0 I0 E) {o:List Nat} (hn:o.Nodup):St g B w0 I0 (YB E o):=
 ⟨h.below,h.hB,h.hn,h.gn,h.glob,h.isz,h.imono,h.ifresh,BI h fun r W _ hW ha=>((h.rows r W hW).mem ha).1,EK h hn,DK h,BM h hn fun b h1 _ _ _ _ _ _ _ _ _ _=>h1⟩
theorem St.sub (h:St g B w0 I0 E) {o:List Nat} (hn:o.Nodup):St g (zM E o) E.w E.I (YB E o):=by
 exact ⟨Kept.refl _ _,fun k hk=>hk.1,fun k hk=>⟨Nat.lt_of_lt_of_le hk h.gbase,fun r W hr hW ha e=>ha.elim (fun ha=>((h.rows r W hW).mem ha).1 (e▸h.hn k hk)) (fun ⟨τ,n,xs,hx⟩=>(h.mp r W τ n xs hW hx).1 (e▸h.hn k hk))⟩,h.gbase,h.glob,h.isz,fun b hb=>hb,fun b hb=>.inl hb,
  BI h fun r W hr hW ha hs=>hs.2 r W hr hW (.inl ha) rfl,EK h hn,DK h,BM h hn fun b _ _ r W τ n xs hr hW hx e hs=>hs.2 r W hr hW (.inr ⟨τ,n,xs,hx⟩) e⟩
theorem LO {o:List Nat} {l:List AV} {vs:List Value} (h:E.L l vs):(YB E o).L (wy (yF o) l) vs:=
 Ut (fun b hb=>⟨hb,rfl⟩) l _ _ vs (fun r p q hT hq=>Pl hT hq) h
end
open Go Go.RowKit
theorem oG {α β:Type} (f:Nat→α→β):∀ (l:List α) (i j:Nat),(ZM f i l)[j]?=(l[j]?).map (f (i+j))
 | [],i,j=>by simp [ZM]
 | x::xs,i,0=>by simp [ZM]
 | x::xs,i,j+1=>by
  simp only [ZM,List.getElem?_cons_succ,oG f xs (i+1) j]
  rw [show i+1+j=i+(j+1) by omega]
theorem RB {α β:Type} (f:Nat→α→β):∀ (l:List α) (i:Nat),(ZM f i l).length=l.length
 | [],i=>rfl
 | x::xs,i=>by simp only [ZM,List.length_cons,RB f xs]
theorem HJ:∀ {ps:List (Nat×Nat)} {r q:Nat},WV ps r=some q→(r,q)∈ps
 | [],r,q,h=>by cases h
 | (a,b)::ps,r,q,h=>by
  simp only [WV] at h
  cases hb:Nat.beq a r with
  | true=>rw [hb,cnd_true] at h;cases h;simp [Nat.eq_of_beq_eq_true hb]
  | false=>rw [hb,cnd_false] at h;exact List.mem_cons_of_mem _ (HJ h)
theorem DM:∀ {ps:List (Nat×Nat)} {r q:Nat},XV ps q=some r→(r,q)∈ps
 | [],r,q,h=>by cases h
 | (a,b)::ps,r,q,h=>by
  simp only [XV] at h
  cases hb:Nat.beq b q with
  | true=>rw [hb,cnd_true] at h;cases h;simp [Nat.eq_of_beq_eq_true hb]
  | false=>rw [hb,cnd_false] at h;exact List.mem_cons_of_mem _ (DM h)
def FU (ps:List (Nat×Nat)):Prop:=∀ r q r' q',(r,q)∈ps→(r',q')∈ps→(r=r'↔q=q')
theorem CF:∀ {ps:List (Nat×Nat)} {r q:Nat},FU ps→(r,q)∈ps→XV ps q=some r
 | [],r,q,_,h=>by cases h
 | (a,b)::ps,r,q,hi,h=>by
  simp only [XV]
  cases hb:Nat.beq b q with
  | true=>
   have:=Nat.eq_of_beq_eq_true hb
   subst this
   rw [cnd_true,(hi a b r b (by simp) h).2 rfl]
  | false=>
   have hne:=Nat.ne_of_beq_eq_false hb
   rw [cnd_false]
   refine CF (fun r q r' q' h h'=>hi r q r' q' (List.mem_cons_of_mem _ h) (List.mem_cons_of_mem _ h')) ?_
   rcases List.mem_cons.1 h with e | e
   · cases e;exact absurd rfl hne
   · exact e
theorem MO:∀ {ps:List (Nat×Nat)} {r q:Nat},FU ps→(r,q)∈ps→WV ps r=some q
 | [],r,q,_,h=>by cases h
 | (a,b)::ps,r,q,hi,h=>by
  simp only [WV]
  cases hb:Nat.beq a r with
  | true=>
   have:=Nat.eq_of_beq_eq_true hb
   subst this
   rw [cnd_true,(hi a b a q (by simp) h).1 rfl]
  | false=>
   have hne:=Nat.ne_of_beq_eq_false hb
   rw [cnd_false]
   refine MO (fun r q r' q' h h'=>hi r q r' q' (List.mem_cons_of_mem _ h) (List.mem_cons_of_mem _ h')) ?_
   rcases List.mem_cons.1 h with e | e
   · cases e;exact absurd rfl hne
   · exact e
theorem fG:∀ {ps:List (Nat×Nat)} {r q:Nat},dM ps r q=true→∀ a b,(a,b)∈ps→a≠r∧b≠q
 | [],r,q,_,a,b,h=>by cases h
 | (a0,b0)::ps,r,q,h,a,b,hm=>by
  simp only [dM,Bool.and_eq_true,Bool.not_eq_true'] at h
  rcases List.mem_cons.1 hm with e | e
  · cases e;exact ⟨Nat.ne_of_beq_eq_false h.1.1,Nat.ne_of_beq_eq_false h.1.2⟩
  · exact fG h.2 a b e
section
variable {P:Program} {g:Glob} {B:Nat→Prop} {w0:World} {I0:Nat→Prop} {E E':Env}
structure Pair (E E':Env) (r q:Nat):Prop where
 w:∃ W W',E.H[r]?=some (some W)∧E'.H[q]?=some (some W')∧W.box=true∧W'.box=true∧W.k=W'.k∧W.t=W'.t∧0<W.k
 al:(E.m r).al=true
 al':(E'.m q).al=true
 blk:(E'.m q).blk=(E.m r).blk
theorem SB:∀ (xs ys:List AV) (vs:List Value) (ps:List (Nat×Nat)),E.L xs vs→E'.L ys vs→FU ps→(∀ r q,(r,q)∈ps→Pair E E' r q)→FU (Zj E.H E'.H ps xs ys)∧∀ r q,(r,q)∈Zj E.H E'.H ps xs ys→Pair E E' r q
 | [],ys,vs,ps,_,_,hi,hp=>by cases ys<;>exact ⟨hi,hp⟩
 | a::xs,[],vs,ps,_,_,hi,hp=>by cases a<;>exact ⟨hi,hp⟩
 | a::xs,b::ys,[],ps,h,_,_,_=>by simp [Env.L,LR] at h
 | a::xs,b::ys,v::vs,ps,h,h',hi,hp=>by
  simp only [Env.L,LR] at h h'
  have rest:=SB xs ys vs ps h.2 h'.2 hi hp
  by_cases hc:∃ r i j q i' j',a=.ptr r i j∧b=.ptr q i' j'
  · obtain ⟨r,i,j,q,i',j',rfl,rfl⟩:=hc
    simp only [Zj]
    cases hb:Nat.beq i i'&&Nat.beq j j'&&tM E.H E'.H r q&&dM ps r q with
    | false=>exact rest
    | true=>
     rw [cnd_true]
     simp only [Bool.and_eq_true] at hb
     obtain ⟨⟨⟨h1,h2⟩,h3⟩,h4⟩:=hb
     have e1:=Nat.eq_of_beq_eq_true h1
     have e2:=Nat.eq_of_beq_eq_true h2
     subst e1 e2
     refine SB xs ys vs (ps++[(r,q)]) h.2 h'.2 (fun r1 q1 r2 q2 m1 m2=>?_) (fun r1 q1 m1=>?_)
     · rw [List.mem_append] at m1 m2
       rcases m1 with m1 | m1<;>rcases m2 with m2 | m2
       · exact hi _ _ _ _ m1 m2
       · simp at m2
         obtain ⟨rfl,rfl⟩:=m2
         have:=fG h4 _ _ m1
         exact ⟨fun e=>absurd e this.1,fun e=>absurd e this.2⟩
       · simp at m1
         obtain ⟨rfl,rfl⟩:=m1
         have:=fG h4 _ _ m2
         exact ⟨fun e=>absurd e.symm this.1,fun e=>absurd e.symm this.2⟩
       · simp at m1 m2
         obtain ⟨rfl,rfl⟩:=m1
         obtain ⟨rfl,rfl⟩:=m2
         simp
     · rw [List.mem_append] at m1
       rcases m1 with m1 | m1
       · exact hp _ _ m1
       · simp at m1
         obtain ⟨rfl,rfl⟩:=m1
         have hv:=h.1
         have hv':=h'.1
         simp only [VR] at hv hv'
         obtain ⟨k,n,hT,_,_,ha,hv⟩:=hv
         obtain ⟨k',n',hT',_,_,ha',hv'⟩:=hv'
         unfold tM at h3
         split at h3
         · rename_i W W' hW hW'
           simp only [Bool.and_eq_true] at h3
           refine ⟨⟨W,W',rowAtH_some.1 hW,rowAtH_some.1 hW',h3.1.1.1.1,h3.1.1.1.2,Nat.eq_of_beq_eq_true h3.1.1.2,Nat.eq_of_beq_eq_true h3.1.2,by have:=Nat.le_of_ble_eq_true h3.2;omega⟩,ha,ha',?_⟩
           rw [hv] at hv'
           simp only [Value.pointer.injEq,Option.some.injEq,Addr.mk.injEq] at hv'
           exact hv'.1.symm
         · cases h3
  · have:Zj E.H E'.H ps (a::xs) (b::ys)=Zj E.H E'.H ps xs ys:=by
     cases a<;>cases b<;>first
      | rfl
      | exact absurd ⟨_,_,_,_,_,_,rfl,rfl⟩ hc
    rw [this]
    exact rest
theorem AC {H H':fa} {o:List Nat} {ps:List (Nat×Nat)} {r:Nat} (hr:r<H.length):(Rw H H' o ps)[r]?=some (match WV ps r with
  | some q=>(Kd H' q).map (Td (Iy ps H.length))
  | none=>jV (EL r o) none ((Kd H r).map (Td (iJ o ps)))):=by
 unfold Rw
 rw [List.getElem?_append_left (by rw [RB];exact hr),oG,List.getElem?_eq_getElem hr,Nat.zero_add]
 simp only [Option.map_some,Option.some.injEq]
 have:Kd H r=H[r]:=by unfold Kd;rw [List.getElem?_eq_getElem hr]
 rw [this]
 cases WV ps r<;>rfl
theorem AH {H H':fa} {o:List Nat} {ps:List (Nat×Nat)} {q:Nat}:(Rw H H' o ps)[H.length+q]?=(H'[q]?).map fun W=>match XV ps q with
  | some _=>none
  | none=>W.map (Td (Iy ps H.length)):=by
 unfold Rw
 rw [List.getElem?_append_right (by rw [RB];omega),RB,oG,Nat.zero_add,Nat.add_sub_cancel_left]
 cases XV ps q<;>rfl
def BH (E E':Env):Nat→Info:=fun r=>if r<E.H.length then E.m r else E'.m (r - E.H.length)
theorem rG (h:St g B w0 I0 E) {r r':Nat} {W W':Row} (hW:E.H[r]?=some (some W)) (ha:(E.m r).al=true) (hW':E.H[r']?=some (some W')) {τ:CTy} {n:Nat} {xs:Nat→El τ} (hx:W'.ex=.set τ n xs) (e:(E.m r).blk=(E.m r').blk):False:=by
 obtain ⟨_,_,_,arr,fz,k4,_⟩:=(h.rows r W hW).mem ha
 obtain ⟨es,c,hc⟩:=(h.mp r' W' τ n xs hW' hx).2.2.1.map
 rw [←e,k4] at hc
 cases hc
theorem St.back (h:St g B w0 I0 E) {o:List Nat} {ps:List (Nat×Nat)} (h':St g (zM E o) E.w E.I E') (hi:FU ps) (hp:∀ r q,(r,q)∈ps→Pair E E' r q):
  let E2:Env:={ w:=E'.w,I:=E'.I,m:=BH E E',H:=Rw E.H E'.H o ps }
  St g B w0 I0 E2∧Ext (kG o ps) E E2∧(∀ x v,E'.V x v→E2.V (ren (Iy ps E.H.length) x) v):=by
 intro E2
 have hB:∀ b,B b→zM E o b:=fun b hb=>⟨h.base b hb,fun r W hr hW ha e=>ha.elim (fun ha=>((h.rows r W hW).mem ha).1 (e▸hb)) (fun ⟨τ,n,xs,hx⟩=>(h.mp r W τ n xs hW hx).1 (e▸hb))⟩
 have hold:∀ b,zM E o b→E'.w.heap[b]?=E.w.heap[b]?:=fun b hb=>h'.below.block b hb
 have hIB:∀ b,E.I b→zM E o b:=fun b hb=>⟨h.isz b hb,fun r W hr hW ha e=>ha.elim (fun ha=>((h.rows r W hW).mem ha).2.1 (e▸hb)) (fun ⟨τ,n,xs,hx⟩=>(h.mp r W τ n xs hW hx).2.1 (e▸hb))⟩
 have hkeepB:∀ r W,E.H[r]?=some (some W)→(E.m r).al=true→r ∉ o→zM E o (E.m r).blk:=fun r W hW ha hr=>⟨h.lt hW ha,fun r' W' hr' hW' ha' e=>ha'.elim (fun ha'=>hr (h.inj r r' W W' hW hW' ha ha' e▸hr')) (fun ⟨τ,n,xs,hx⟩=>rG h hW ha hW' hx e)⟩
 have hmold:∀ r,r<E.H.length→E2.m r=E.m r:=fun r hr=>by show BH E E' r=_;unfold BH;rw [if_pos hr]
 have hmnew:∀ q,E2.m (E.H.length+q)=E'.m q:=fun q=>by show BH E E' _=_;unfold BH;rw [if_neg (by omega),Nat.add_sub_cancel_left]
 have hlen:∀ r W,E.H[r]?=some (some W)→r<E.H.length:=fun r W hW=>(List.getElem?_eq_some_iff.1 hW).1
 have hpair:∀ r q,(r,q)∈ps→∃ W W',E.H[r]?=some (some W)∧E'.H[q]?=some (some W')∧W.k=W'.k∧W.n=W'.n∧0<W.k∧(E'.m q).Same (E.m r)∧E2.H[r]?=some (some (Td (Iy ps E.H.length) W')):=fun r q hm=>by
  obtain ⟨⟨W,W',hW,hW',b1,b2,hk,ht,hk0⟩,ha,ha',hb⟩:=hp r q hm
  have n1:=(h.rows r W hW).bx b1
  have n2:=(h'.rows q W' hW').bx b2
  obtain ⟨_,_,_,arr,fz,k4,k5,_⟩:=(h.rows r W hW).mem ha
  obtain ⟨_,_,_,arr',fz',l4,l5,_⟩:=(h'.rows q W' hW').mem ha'
  obtain ⟨arr2,fz2,e1,e2⟩:=h'.below.szs _ _ _ _ k4
  rw [hb,e1] at l4
  have l4:=(Obj.cells.inj (Option.some.inj l4)).1
  subst l4
  refine ⟨W,W',hW,hW',hk,by omega,hk0,⟨by rw [ha,ha'],hb,?_⟩,?_⟩
  · rw [e2,k5,←hk] at l5
    exact (Nat.eq_of_mul_eq_mul_right hk0 l5).symm
  · show (Rw E.H E'.H o ps)[r]?=_
    rw [AC (hlen r W hW),MO hi hm]
    simp [rowAtH_some.2 hW']
 have hνb:∀ q p r,VV E'.H q=some p→Iy ps E.H.length q=some r→VV E2.H r=some p∧(E2.m r).Same (E'.m q):=fun q p r hT hr=>by
  obtain ⟨W',hW',rfl⟩:=ZG hT
  unfold Iy at hr
  split at hr
  · rename_i r' hr'
    cases hr
    obtain ⟨W,W2,hW,hW2,hk,hn,_,hs,hH⟩:=hpair r q (DM hr')
    rw [hW2] at hW'
    cases hW'
    refine ⟨by rw [BF hH];rfl,?_⟩
    rw [hmold r (hlen r W hW)]
    exact ⟨hs.al.symm,hs.blk.symm,hs.cap.symm⟩
  · rename_i hr'
    cases hr
    refine ⟨?_,by rw [hmnew];exact .rfl' _⟩
    have:E2.H[E.H.length+q]?=some (some (Td (Iy ps E.H.length) W')):=by
     show (Rw E.H E'.H o ps)[E.H.length+q]?=_
     rw [AH,hW']
     simp [hr']
    rw [BF this];rfl
 have hνk:∀ r p r',VV E.H r=some p→iJ o ps r=some r'→VV E2.H r'=some p∧E2.m r'=E.m r:=fun r p r' hT hr=>by
  obtain ⟨W,hW,rfl⟩:=ZG hT
  unfold iJ at hr
  obtain ⟨hd,hr⟩:=ja hr
  cases hr
  refine ⟨?_,hmold r (hlen r W hW)⟩
  cases hq:WV ps r with
  | some q=>
   obtain ⟨W1,W',hW1,hW',hk,hn,_,_,hH⟩:=hpair r q (HJ hq)
   rw [hW] at hW1
   cases hW1
   rw [BF hH]
   show some (W'.k,W'.n)=_
   rw [hk,hn]
  | none=>
   have hno:EL r o=false:=by
    unfold kG at hd
    cases hm:EL r o with
    | false=>rfl
    | true=>rw [hm,hq] at hd;cases hd
   have:E2.H[r]?=some (some (Td (iJ o ps) W)):=by
    show (Rw E.H E'.H o ps)[r]?=_
    rw [AC (hlen r W hW),hq,hno]
    simp [rowAtH_some.2 hW]
   rw [BF this];rfl
 have cases_:∀ r V,E2.H[r]?=some (some V)→(∃ q W',(r,q)∈ps∧E'.H[q]?=some (some W')∧V=Td (Iy ps E.H.length) W')∨(∃ W,r ∉ o∧E.H[r]?=some (some W)∧V=Td (iJ o ps) W)∨
   (∃ q W',r=E.H.length+q∧XV ps q=none∧E'.H[q]?=some (some W')∧V=Td (Iy ps E.H.length) W'):=fun r V hV=>by
  have hV:(Rw E.H E'.H o ps)[r]?=some (some V):=hV
  rcases Nat.lt_or_ge r E.H.length with hr | hr
  · rw [AC hr] at hV
    split at hV
    · rename_i q hq
      cases hw:Kd E'.H q with
      | none=>rw [hw] at hV;simp at hV
      | some W'=>
       rw [hw] at hV
       simp only [Option.map_some,Option.some.injEq] at hV
       exact .inl ⟨q,W',HJ hq,rowAtH_some.1 hw,hV.symm⟩
    · cases hm:EL r o with
      | true=>rw [hm] at hV;simp at hV
      | false=>
       rw [hm,cnd_false] at hV
       cases hw:Kd E.H r with
       | none=>rw [hw] at hV;simp at hV
       | some W=>
        rw [hw] at hV
        simp only [Option.map_some,Option.some.injEq] at hV
        exact .inr (.inl ⟨W,fun hmem=>(by rw [memN_iff.2 hmem] at hm;cases hm),rowAtH_some.1 hw,hV.symm⟩)
  · obtain ⟨q,rfl⟩:∃ q,r=E.H.length+q:=⟨r - E.H.length,by omega⟩
    rw [AH] at hV
    cases hq:E'.H[q]? with
    | none=>rw [hq] at hV;simp at hV
    | some o'=>
     rw [hq] at hV
     simp only [Option.map_some,Option.some.injEq] at hV
     cases hr':XV ps q with
     | some r0=>rw [hr'] at hV;simp at hV
     | none=>
      rw [hr'] at hV
      cases o' with
      | none=>simp at hV
      | some W'=>
       simp only [Option.map_some,Option.some.injEq] at hV
       exact .inr (.inr ⟨q,W',rfl,hr',hq,hV.symm⟩)
 have hI2:∀ b,E.I b→E'.I b∧E'.w.heap[b]?=E.w.heap[b]?:=fun b hb=>⟨h'.imono b hb,hold b (hIB b hb)⟩
 have hx:Ext (kG o ps) E E2:=⟨hI2,fun r p hT hd=>by
  exact hνk r p r hT (by unfold iJ;rw [hd];rfl)⟩
 have hnB:∀ q W',E'.H[q]?=some (some W')→(E'.m q).al=true→¬B (E'.m q).blk:=fun q W' hW' ha hb=>((h'.rows q W' hW').mem ha).1 (hB _ hb)
 refine ⟨⟨h.below.trans (h'.below.weaken hB),h.hB,h.hn,h.gn,h'.glob,h'.isz,fun b hb=>h'.imono b (h.imono b hb),fun b hb=>?_,fun r V hV=>?_,fun r r' V V' hV hV' ha ha' hb=>?_,fun r V hV hk hpf=>?_,fun r V τ n xs hV hex=>?_⟩,hx,fun x v hv=>eF (fun b hb=>⟨hb,rfl⟩) x _ _ v hνb hv⟩
 · rcases h'.ifresh b hb with h1 | h1
   · exact h.ifresh b h1
   · exact .inr fun h2=>h1 (hB b h2)
 · rcases cases_ r V hV with ⟨q,W',hm,hW',rfl⟩ | ⟨W,hr,hW,rfl⟩ | ⟨q,W',rfl,hq,hW',rfl⟩
   · obtain ⟨W,W2,hW,hW2,hk,hn,hk0,hs,hH⟩:=hpair r q hm
     rw [hW'] at hW2
     cases hW2
     have hmr:E2.m r=E.m r:=hmold r (hlen r W hW)
     refine (h'.rows q W' hW').ren (by rw [hmr];exact ⟨hs.al.symm,hs.blk.symm,hs.cap.symm⟩) (fun h0=>absurd h0 (by omega)) (fun ha=>?_) (hnB q W' hW') (fun ha=>((h'.rows q W' hW').mem ha).2.1) (fun b hb=>⟨hb,rfl⟩) (fun q p r hT hr=>hνb q p r hT hr)
     obtain ⟨_,_,_,arr,fz,hh,_⟩:=(h'.rows q W' hW').mem ha
     exact ⟨arr,fz,hh,hh⟩
   · have hmr:E2.m r=E.m r:=hmold r (hlen r W hW)
     refine (h.rows r W hW).ren (by rw [hmr];exact .rfl' _) (fun _=>by rw [hmr]) (fun ha=>?_) (fun ha=>((h.rows r W hW).mem ha).1) (fun ha hI=>?_) hI2 (fun r p r' hT hr=>by
      obtain ⟨e1,e2⟩:=hνk r p r' hT hr
      exact ⟨e1,by rw [e2];exact .rfl' _⟩)
     · obtain ⟨_,_,_,arr,fz,hh,_⟩:=(h.rows r W hW).mem ha
       exact ⟨arr,fz,by show E'.w.heap[(E.m r).blk]?=_;rw [hold _ (hkeepB r W hW ha hr)];exact hh,hh⟩
     · rcases h'.ifresh _ hI with h1 | h1
       · exact ((h.rows r W hW).mem ha).2.1 h1
       · exact h1 (hkeepB r W hW ha hr)
   · refine (h'.rows q W' hW').ren (by rw [hmnew];exact .rfl' _) (fun _=>by rw [hmnew]) (fun ha=>?_) (hnB q W' hW') (fun ha=>((h'.rows q W' hW').mem ha).2.1) (fun b hb=>⟨hb,rfl⟩) (fun q p r hT hr=>hνb q p r hT hr)
     obtain ⟨_,_,_,arr,fz,hh,_⟩:=(h'.rows q W' hW').mem ha
     exact ⟨arr,fz,hh,hh⟩
 · -- two rows never lie in one block
   have old:∀ r V,E2.H[r]?=some (some V)→(E2.m r).al=true→(∃ W,E.H[r]?=some (some W)∧(E.m r).al=true∧E2.m r=E.m r∧(r ∉ o∨∃ q W',(r,q)∈ps∧E'.H[q]?=some (some W')∧(E'.m q).al=true∧(E'.m q).blk=(E.m r).blk))∨
     ∃ q W',r=E.H.length+q∧XV ps q=none∧E'.H[q]?=some (some W')∧(E'.m q).al=true∧(E2.m r).blk=(E'.m q).blk:=fun r V hV ha=>by
    rcases cases_ r V hV with ⟨q,W',hm,hW',rfl⟩ | ⟨W,hr,hW,rfl⟩ | ⟨q,W',rfl,hq,hW',rfl⟩
    · obtain ⟨W,W2,hW,hW2,hk,hn,hk0,hs,hH⟩:=hpair r q hm
      have hmr:=hmold r (hlen r W hW)
      rw [hmr] at ha
      exact .inl ⟨W,hW,ha,hmr,.inr ⟨q,W',hm,hW',by rw [hs.al];exact ha,hs.blk⟩⟩
    · have hmr:=hmold r (hlen r W hW)
      rw [hmr] at ha
      exact .inl ⟨W,hW,ha,hmr,.inl hr⟩
    · rw [hmnew] at ha
      exact .inr ⟨q,W',rfl,hq,hW',ha,by rw [hmnew]⟩
   have mix:∀ r W,E.H[r]?=some (some W)→(E.m r).al=true→(r ∉ o∨∃ q W',(r,q)∈ps∧E'.H[q]?=some (some W')∧(E'.m q).al=true∧(E'.m q).blk=(E.m r).blk)→∀ q W',XV ps q=none→E'.H[q]?=some (some W')→(E'.m q).al=true→(E.m r).blk≠(E'.m q).blk:=fun r W hW ha hor q W' hq hW' ha' e=>by
    rcases hor with hr | ⟨q2,W2,hm,hW2,ha2,hb2⟩
    · exact ((h'.rows q W' hW').mem ha').1 (e▸hkeepB r W hW ha hr)
    · have:=h'.inj q2 q W2 W' hW2 hW' ha2 ha' (hb2.trans e)
      subst this
      rw [CF hi hm] at hq
      cases hq
   rcases old r V hV ha with ⟨W,hW,a1,m1,o1⟩ | ⟨q,W',rfl,hq,hW',a1,b1⟩<;>rcases old r' V' hV' ha' with ⟨W2,hW2,a2,m2,o2⟩ | ⟨q2,W2',rfl,hq2,hW2',a2,b2⟩
   · rw [m1,m2] at hb
     exact h.inj r r' W W2 hW hW2 a1 a2 hb
   · rw [m1,b2] at hb
     exact absurd hb (mix r W hW a1 o1 q2 W2' hq2 hW2' a2)
   · rw [b1,m2] at hb
     exact absurd hb.symm (mix r' W2 hW2 a2 o2 q W' hq hW' a1)
   · rw [b1,b2] at hb
     rw [h'.inj q q2 W' W2' hW' hW2' a1 a2 hb]
 · rcases cases_ r V hV with ⟨q,W',hm,hW',rfl⟩ | ⟨W,hr,hW,rfl⟩ | ⟨q,W',rfl,hq,hW',rfl⟩
   · obtain ⟨W,W2,hW,hW2,hk',hn,hk0,hs,hH⟩:=hpair r q hm
     rw [hW'] at hW2
     cases hW2
     have hk2:W'.k=0:=hk
     omega
   · rw [hmold r (hlen r W hW)]
     exact h.gse r W hW hk hpf
   · rw [hmnew]
     exact h'.gse q W' hW' hk hpf
 · have orig:∀ r V τ n xs,E2.H[r]?=some (some V)→V.ex=.set τ n xs→(∃ W,r ∉ o∧E.H[r]?=some (some W)∧W.ex=.set τ n xs∧E2.m r=E.m r∧V.pf=W.pf∧zM E o (E.m r).blk)∨
     ∃ q W',E'.H[q]?=some (some W')∧W'.ex=.set τ n xs∧(E2.m r).blk=(E'.m q).blk∧V.pf=W'.pf∧((r,q)∈ps∨r=E.H.length+q∧XV ps q=none):=fun r V τ n xs hV hex=>by
    rcases cases_ r V hV with ⟨q,W',hm,hW',rfl⟩ | ⟨W,hr,hW,rfl⟩ | ⟨q,W',rfl,hq,hW',rfl⟩
    · obtain ⟨W,W2,hW,hW2,hk',hn,hk0,hs,hH⟩:=hpair r q hm
      exact .inr ⟨q,W',hW',co hex,by rw [hmold r (hlen r W hW),hs.blk],rfl,.inl hm⟩
    · have hex:=co hex
      obtain ⟨es,c,hc⟩:=(h.mp r W τ n xs hW hex).2.2.1.map
      exact .inl ⟨W,hr,hW,hex,hmold r (hlen r W hW),rfl,(Array.getElem?_eq_some_iff.1 hc).1,fun r' W' hr' hW' ha' e=>ha'.elim (fun ha'=>rG h hW' ha' hW hex e.symm) (fun ⟨τ',n',xs',hx'⟩=>hr ((h.mp r W τ n xs hW hex).2.2.2.2 r' W' τ' n' xs' hW' hx' e.symm▸hr'))⟩
    · exact .inr ⟨q,W',hW',co hex,by rw [hmnew],rfl,.inr ⟨rfl,hq⟩⟩
   have uniq:∀ r V r' V' τ n xs τ' n' xs',E2.H[r]?=some (some V)→V.ex=.set τ n xs→E2.H[r']?=some (some V')→V'.ex=.set τ' n' xs'→(E2.m r').blk=(E2.m r).blk→r'=r:=fun r V r' V' τ n xs τ' n' xs' hV hex hV' hex' hb=>by
    rcases orig r V τ n xs hV hex with ⟨W,hr,hW,hx1,hm,_,hs⟩ | ⟨q,W,hW,hx1,hm,_,ho⟩<;>rcases orig r' V' τ' n' xs' hV' hex' with ⟨W2,hr2,hW2,hx2,hm2,_,hs2⟩ | ⟨q2,W2,hW2,hx2,hm2,_,ho2⟩
    · rw [hm,hm2] at hb
      exact (h.mp r W τ n xs hW hx1).2.2.2.2 r' W2 τ' n' xs' hW2 hx2 hb
    · rw [hm,hm2] at hb
      exact absurd (hb▸hs) (h'.mp q2 W2 τ' n' xs' hW2 hx2).1
    · rw [hm,hm2] at hb
      exact absurd (hb▸hs2) (h'.mp q W τ n xs hW hx1).1
    · rw [hm,hm2] at hb
      have e:=(h'.mp q W τ n xs hW hx1).2.2.2.2 q2 W2 τ' n' xs' hW2 hx2 hb
      subst e
      rcases ho with ho | ⟨rfl,ho⟩<;>rcases ho2 with ho2 | ⟨rfl,ho2⟩
      · have e1:=CF hi ho
        have e2:=CF hi ho2
        rw [e1] at e2
        exact (Option.some.inj e2).symm
      · rw [CF hi ho] at ho2;cases ho2
      · rw [CF hi ho2] at ho;cases ho
      · rfl
   rcases orig r V τ n xs hV hex with ⟨W,hr,hW,hx1,hm,hp,hs⟩ | ⟨q,W,hW,hx1,hm,hp,ho⟩
   · obtain ⟨k1,k2,k3,k4,k5⟩:=h.mp r W τ n xs hW hx1
     rw [hm]
     refine ⟨k1,fun h1=>?_,by show SetAt (E'.w.heap[(E.m r).blk]?) τ n xs;rw [hold _ hs];exact k3,by rw [hp];exact k4,fun r' V' τ' n' xs' hV' hx' hb=>uniq r V r' V' τ n xs τ' n' xs' hV hex hV' hx' (by rw [hm];exact hb)⟩
     rcases h'.ifresh _ h1 with h2 | h2
     · exact k2 h2
     · exact h2 hs
   · obtain ⟨k1,k2,k3,k4,k5⟩:=h'.mp q W τ n xs hW hx1
     rw [hm]
     exact ⟨fun hb=>k1 (hB _ hb),k2,k3,by rw [hp];exact k4,fun r' V' τ' n' xs' hV' hx' hb=>uniq r V r' V' τ n xs τ' n' xs' hV hex hV' hx' (by rw [hm];exact hb)⟩
variable {R:Type} {r:R}
theorem TO (hS:St g B w0 I0 E) {f:FuncId} {args:List AV} {vs:List Value} {out:OutS} (hargs:E.L args vs) (ha:LM P g f (wy (yF (order args E.H)) args) (FK (order args E.H) E.H) out)
  {k pn:AV→fa→Option (Nat→Bool)→Option R} (h:kV E.H (order args E.H) out (Zj E.H out.H [] args out.ga) k pn=some r):
  Calls P f vs.toArray E.w fun e w'=>∃ v av E2 D,E2.w=w'∧St g B w0 I0 E2∧Ext (Option.getD D gj) E E2∧E2.V av v∧(e=.returned v∧k av E2.H D=some r∨e=.panicked [{ v,recovered:=false }]∧pn av E2.H D=some r):=by
 have hsub:=hS.sub (Yj args E.H)
 refine (ha g.gs (zM E (order args E.H)) (YB E (order args E.H)) vs hsub rfl (LO hargs)).mono ?_
 rintro e w' ⟨v,E',rfl,rfl,h',hH,hga,hv⟩
 obtain ⟨hi,hp⟩:=SB (E:=E) (E':=E') args out.ga vs [] hargs hga (fun _ _ _ _ hh=>by cases hh) (fun _ _ hh=>by cases hh)
 rw [hH] at hi hp
 obtain ⟨s1,s2,s3⟩:=hS.back (E':=E') (o:=order args E.H) h' hi hp
 refine ⟨v,_,{ w:=E'.w,I:=E'.I,m:=BH E E',H:=Rw E.H E'.H (order args E.H) (Zj E.H out.H [] args out.ga) },some (kG (order args E.H) (Zj E.H out.H [] args out.ga)),rfl,s1,s2,s3 _ _ hv,?_⟩
 unfold kV at h
 cases hpan:out.pan with
 | true=>
  rw [hpan,cnd_true] at h
  exact .inr ⟨rfl,by rw [hH];exact h⟩
 | false=>
  rw [hpan,cnd_false] at h
  exact .inl ⟨rfl,by rw [hH];exact h⟩
theorem SM (hS:St g B w0 I0 E) {f:FuncId} {args:List AV} {vs:List Value} {out:OutS} (hargs:E.L args vs) (ho:order args E.H=[]) (ha:LM P g f (wy (yF (order args E.H)) args) (FK (order args E.H) E.H) out)
  {k pn:AV→fa→Option (Nat→Bool)→Option R} (h:kV E.H (order args E.H) out (Zj E.H out.H [] args out.ga) k pn=some r):
  Calls P f vs.toArray E.w fun e w'=>∃ v av E2 D,E2.w=w'∧St g B w0 I0 E2∧Ext (Option.getD D gj) E E2∧E2.V av v∧Below E.w.heap.size E.w w'∧(e=.returned v∧k av E2.H D=some r∨e=.panicked [{ v,recovered:=false }]∧pn av E2.H D=some r):=by
 have hsub:=hS.sub (Yj args E.H)
 refine (ha g.gs (zM E (order args E.H)) (YB E (order args E.H)) vs hsub rfl (LO hargs)).mono ?_
 rintro e w' ⟨v,E',rfl,rfl,h',hH,hga,hv⟩
 obtain ⟨hi,hp⟩:=SB (E:=E) (E':=E') args out.ga vs [] hargs hga (fun _ _ _ _ hh=>by cases hh) (fun _ _ hh=>by cases hh)
 rw [hH] at hi hp
 obtain ⟨s1,s2,s3⟩:=hS.back (E':=E') (o:=order args E.H) h' hi hp
 refine ⟨v,_,{ w:=E'.w,I:=E'.I,m:=BH E E',H:=Rw E.H E'.H (order args E.H) (Zj E.H out.H [] args out.ga) },some (kG (order args E.H) (Zj E.H out.H [] args out.ga)),rfl,s1,s2,s3 _ _ hv,h'.below.below (fun k hk=>⟨hk,fun r W hr=>by rw [ho] at hr;cases hr⟩),?_⟩
 unfold kV at h
 cases hpan:out.pan with
 | true=>
  rw [hpan,cnd_true] at h
  exact .inr ⟨rfl,by rw [hH];exact h⟩
 | false=>
  rw [hpan,cnd_false] at h
  exact .inl ⟨rfl,by rw [hH];exact h⟩
mutual
theorem IL {w:World} {I I':Nat→Prop} {m:Nat→Info} {T:XU}:∀ (x:AV) (v:Value),FV x=true→VR w I m T x v→VR w I' m T x v
 | .agg l,v,hn,h=>by
  simp only [FV] at hn
  simp only [VR] at h ⊢
  obtain ⟨a,rfl,h⟩:=h
  exact ⟨a,rfl,GL l _ hn h⟩
 | .tup l,v,hn,h=>by
  simp only [FV] at hn
  simp only [VR] at h ⊢
  obtain ⟨a,rfl,h⟩:=h
  exact ⟨a,rfl,GL l _ hn h⟩
 | .b _,v,_,h=>by simpa only [VR] using h
 | .sl _ _,v,_,h=>by simpa only [VR] using h
 | .ptr _ _ _,v,_,h=>by simpa only [VR] using h
 | .sp _ _,v,_,h=>by simpa only [VR] using h
 | .mp _,v,_,h=>by simpa only [VR] using h
 | .top,v,_,_=>by simp [VR]
 | .ifc _ _,v,hn,_=>by simp [FV] at hn
 | .fn _ _,v,hn,_=>by simp [FV] at hn
 | .snap _ _ _,v,hn,_=>by simp [FV] at hn
 | .sptr _,v,hn,_=>by simp [FV] at hn
theorem GL {w:World} {I I':Nat→Prop} {m:Nat→Info} {T:XU}:∀ (l:List AV) (vs:List Value),mJ l=true→LR w I m T l vs→LR w I' m T l vs
 | [],[],_,_=>by simp [LR]
 | [],_::_,_,h=>by simp [LR] at h
 | _::_,[],_,h=>by simp [LR] at h
 | x::xs,v::vs,hn,h=>by
  simp only [mJ,Bool.and_eq_true] at hn
  simp only [LR] at h ⊢
  exact ⟨IL x v hn.1 h.1,GL xs vs hn.2 h.2⟩
end
theorem pK:∀ {l l':List AV},mJ l=true→mJ l'=true→mJ (l++l')=true
 | [],_,_,h=>h
 | x::xs,_,h,h'=>by
  simp only [mJ,Bool.and_eq_true] at h
  simp only [List.cons_append,mJ,h.1,Bool.true_and]
  exact pK h.2 h'
theorem qG:∀ {l:List AV} {j:Nat} {x:AV},mJ l=true→l[j]?=some x→FV x=true
 | [],_,_,_,h=>by simp at h
 | y::ys,0,x,hn,h=>by
  simp only [mJ,Bool.and_eq_true] at hn
  simp at h;exact h▸hn.1
 | y::ys,j+1,x,hn,h=>by
  simp only [mJ,Bool.and_eq_true] at hn
  simp at h;exact qG hn.2 h
theorem VI:∀ (τ:CTy) (y:El τ),eL τ=true→mJ (gV τ y)=true
 | .bool,_,_=>rfl
 | .int _,_,_=>rfl
 | .flt _,_,_=>rfl
 | .str,_,_=>rfl
 | .unit,_,_=>rfl
 | .pair a b,y,h=>by
  simp only [eL,Bool.and_eq_true] at h
  exact pK (VI a y.1 h.1) (VI b y.2 h.2)
 | .sl _,_,h=>by simp [eL] at h
theorem St.less {I1:Nat→Prop} (h:St g B w0 I0 E) (h1:∀ b,I1 b→I0 b) (hr:E.H.all AD=true):St g B w0 I1 { E with I:=I1 }:=by
 refine ⟨h.below,h.hB,h.hn,h.gn,h.glob,fun b hb=>h.isz b (h.imono b (h1 b hb)),fun b hb=>hb,fun b hb=>.inl hb,fun r W hW=>?_,h.inj,h.gse,h.mp.same rfl rfl fun b es c _ h3 h4=>⟨rfl,h3,fun h5=>h4 (h.imono b (h1 b h5))⟩⟩
 have hk:=h.rows r W hW
 have hf:AD (some W)=true:=List.all_eq_true.1 hr _ (List.mem_of_getElem? hW)
 have hels:∀ i j x,(W.els i)[j]?=some x→FV x=true:=fun i j x hx=>by
  simp only [AD] at hf
  unfold Row.els Els.at' at hx
  split at hf
  · rename_i τ xs he
    rw [he] at hx
    exact qG (VI τ (xs i) hf) hx
  · rename_i l he
    rw [he] at hx
    rw [Bool.and_eq_true] at hf
    exact qG hf.1 hx
  · cases hf
  · rename_i he
    rw [he] at hx
    simp at hx
 refine ⟨hk.al,hk.len,hk.bx,fun l h0 _ hl=>?_,fun ha=>?_,hk.nn⟩
 · simp only [AD,hl,Bool.and_eq_true,Bool.not_eq_true'] at hf
   exact absurd h0 (Nat.ne_of_beq_eq_false hf.2)
 · obtain ⟨k1,k2,k3,arr,fz,k4,k5,k6,k6',k7⟩:=hk.mem ha
   refine ⟨k1,fun hb=>k2 (h.imono _ (h1 _ hb)),k3,arr,fz,k4,k5,k6,k6',fun i hi j x hx=>?_⟩
   obtain ⟨v,hv,hx',h9⟩:=k7 i hi j x hx
   exact ⟨v,hv,IL x v (hels i j x hx) hx',h9⟩
theorem UO (hS:St g B w0 I0 E) {f:FuncId} {args:List AV} {vs:List Value} {out:OutS} (hargs:E.L args vs) (ha:LM P g f (args.map (Wk E.H)) [] out) (hp:dc (args.map (Wk E.H))=true) (hf:rJ out=true)
  {k pn:AV→fa→Option (Nat→Bool)→Option R} (h:kV E.H [] out [] k pn=some r):
  Calls P f vs.toArray E.w fun e w'=>∃ v av E2 D,E2.w=w'∧St g B w0 I0 E2∧Ext (Option.getD D gj) E E2∧E2.V av v∧(e=.returned v∧k av E2.H D=some r∨e=.panicked [{ v,recovered:=false }]∧pn av E2.H D=some r):=by
 have hB:(fun k=>k<E.w.heap.size)=zM E []:=funext fun b=>propext ⟨fun hb=>⟨hb,fun _ _ hr=>by cases hr⟩,fun hb=>hb.1⟩
 have hgn:g.n≤E.w.heap.size:=Nat.le_trans hS.gn hS.below.size
 have hS1:St { g with gs:=g.gs } (fun k=>k<E.w.heap.size) E.w (HQ E.w) { w:=E.w,I:=HQ E.w,m:=E.m,H:=[] }:=
  ⟨Kept.refl _ _,fun k hk=>hk,fun k hk=>Nat.lt_of_lt_of_le hk hgn,hgn,hS.glob,fun b hb=>hb,fun b hb=>hb,fun b hb=>.inl hb,fun r W hW=>by simp at hW,fun r r' W W' hW=>by simp at hW,fun r W hW=>by simp at hW,fun r W τ n xs hW=>by simp at hW⟩
 have hv:=sy hS hargs
 refine (ha g.gs _ { w:=E.w,I:=HQ E.w,m:=E.m,H:=[] } vs hS1 rfl (ES (HF hp hv))).mono ?_
 rintro e w' ⟨v,E',rfl,rfl,h',hH,hga,hv⟩
 unfold rJ at hf
 rw [Bool.and_eq_true] at hf
 have h2:St g (zM E []) E.w E.I { E' with I:=E.I }:=by
  rw [←hB]
  exact St.less h' (fun b hb=>hS.isz b hb) (by rw [hH];exact hf.2)
 obtain ⟨s1,s2,s3⟩:=hS.back (E':={ E' with I:=E.I }) (o:=[]) (ps:=[]) h2 (fun _ _ _ _ hm=>by cases hm) (fun _ _ hm=>by cases hm)
 have hH':({ E' with I:=E.I }:Env).H=out.H:=hH
 refine ⟨v,_,{ w:=E'.w,I:=E.I,m:=BH E { E' with I:=E.I },H:=Rw E.H out.H [] [] },some (kG [] []),rfl,by rw [←hH'];exact s1,by rw [←hH'];exact s2,by rw [←hH'];exact s3 out.v v (IL out.v v hf.1 hv),?_⟩
 unfold kV at h
 cases hpan:out.pan with
 | true=>
  rw [hpan,cnd_true] at h
  exact .inr ⟨rfl,h⟩
 | false=>
  rw [hpan,cnd_false] at h
  exact .inl ⟨rfl,h⟩
end
open Go Go.RowKit
theorem OL (x y:BA):(x.toList==y.toList)=true↔x=y:=by
 rw [Lib.toList_data,Lib.toList_data,beq_iff_eq]
 exact ⟨fun h=>ByteArray.ext (Array.toList_inj.1 h),fun h=>by rw [h]⟩
theorem PB:∀ (τ:CTy) (x y:El τ),Oj τ=true→(UQ τ x y=true↔x=y)
 | .bool,x,y,_=> @beq_iff_eq Bool _ _ x y
 | .int _,x,y,_=> @beq_iff_eq Int _ _ x y
 | .str,x,y,_=>OL x y
 | .unit,x,y,_=>⟨fun _=>rfl,fun _=>rfl⟩
 | .pair a b,x,y,h=>by
  simp only [Oj,Bool.and_eq_true] at h
  simp only [UQ,Bool.and_eq_true,PB a _ _ h.1,PB b _ _ h.2]
  constructor
  · rintro ⟨h1,h2⟩;exact Prod.ext h1 h2
  · rintro rfl;exact ⟨rfl,rfl⟩
 | .flt _,x,y,h=>by simp [Oj] at h
 | .sl _,x,y,h=>by simp [Oj] at h
theorem bH:∀ (τ:CTy) (x y:El τ),(KK τ x).length=(KK τ y).length
 | .bool,_,_=>rfl
 | .int _,_,_=>rfl
 | .flt _,_,_=>rfl
 | .str,_,_=>rfl
 | .unit,_,_=>rfl
 | .sl _,_,_=>rfl
 | .pair a b,x,y=>by simp only [KK,List.length_append,bH a x.1 y.1,bH b x.2 y.2]
theorem aH:∀ (τ:CTy) (x y:El τ),Oj τ=true→KK τ x=KK τ y→x=y
 | .bool,x,y,_,h=>Value.bool.inj (List.cons.inj h).1
 | .int _,x,y,_,h=>(Value.int.inj (List.cons.inj h).1).2
 | .str,x,y,_,h=>Value.string.inj (List.cons.inj h).1
 | .unit,x,y,_,_=>rfl
 | .pair a b,x,y,hk,h=>by
  simp only [Oj,Bool.and_eq_true] at hk
  simp only [KK] at h
  obtain ⟨h1,h2⟩:=List.append_inj h (bH a _ _)
  exact Prod.ext (aH a _ _ hk.1 h1) (aH b _ _ hk.2 h2)
 | .flt _,x,y,hk,_=>by simp [Oj] at hk
 | .sl _,x,y,hk,_=>by simp [Oj] at hk
theorem WM {τ:CTy} {x y:El τ} (hk:Oj τ=true) (h:RD τ x=RD τ y):x=y:=by
 cases τ with
 | pair a b=>
  simp only [RD] at h
  have h:=Value.agg.inj h
  exact aH _ x y hk (by have:=congrArg Array.toList h;simpa using this)
 | unit=>rfl
 | bool=>exact Value.bool.inj h
 | int k=>exact (Value.int.inj h).2
 | str=>exact Value.string.inj h
 | flt k=>simp [Oj] at hk
 | sl t=>simp [Oj] at hk
section
variable {w:World} {I:Nat→Prop} {m:Nat→Info} {T:XU}
theorem dF:∀ {l l':List AV} {vs:List Value},LR w I m T (l++l') vs→∃ u v,vs=u++v∧LR w I m T l u∧LR w I m T l' v
 | [],l',vs,h=>⟨[],vs,rfl,by simp [LR],h⟩
 | x::xs,l',[],h=>by simp [LR] at h
 | x::xs,l',v::vs,h=>by
  simp only [List.cons_append,LR] at h
  obtain ⟨u,v',rfl,h1,h2⟩:=dF h.2
  exact ⟨v::u,v',rfl,by simp only [LR];exact ⟨h.1,h1⟩,h2⟩
theorem HL {x:Value} {vs:List Value} (h:LR w I m T [.b x] vs):vs=[x]:=by
 cases vs with
 | nil=>simp [LR] at h
 | cons v vs=>cases vs with
  | nil=>simp only [LR,VR,and_true] at h;rw [h]
  | cons _ _=>simp [LR] at h
theorem PJ:∀ (τ:CTy) (x:El τ) (vs:List Value),Oj τ=true→LR w I m T (gV τ x) vs→vs=KK τ x
 | .bool,x,vs,_,h=>HL h
 | .int _,x,vs,_,h=>HL h
 | .str,x,vs,_,h=>HL h
 | .unit,x,vs,_,h=>by
  cases vs with
  | nil=>rfl
  | cons _ _=>simp [gV,LR] at h
 | .pair a b,x,vs,hk,h=>by
  simp only [Oj,Bool.and_eq_true] at hk
  obtain ⟨u,v,rfl,h1,h2⟩:=dF (l:=gV a x.1) (l':=gV b x.2) h
  rw [PJ a _ _ hk.1 h1,PJ b _ _ hk.2 h2];rfl
 | .flt _,x,vs,hk,_=>by simp [Oj] at hk
 | .sl _,x,vs,hk,_=>by simp [Oj] at hk
theorem AO {τ:CTy} {x:El τ} {v:Value} (hk:Oj τ=true) (h:VR w I m T (encV τ x) v):v=RD τ x:=by
 cases τ with
 | pair a b=>
  simp only [encV,VR] at h
  obtain ⟨l,rfl,h⟩:=h
  have:=PJ (.pair a b) x _ hk h
  simp only [RD]
  rw [←this]
 | unit=>
  simp only [encV,VR] at h
  obtain ⟨l,rfl,h⟩:=h
  have:=PJ .unit x _ hk h
  simp only [RD]
  congr 1
  exact Array.toList_inj.1 this
 | bool=>simpa [encV,VR,RD,KK] using h
 | int k=>simpa [encV,VR,RD,KK] using h
 | str=>simpa [encV,VR,RD,KK] using h
 | flt k=>simp [Oj] at hk
 | sl t=>simp [Oj] at hk
end
section
variable {P:Program} {L:YU} {g:Glob} {B:Nat→Prop} {w0:World} {I0:Nat→Prop} {E:Env} {R:Type} {r:R}
theorem jK (hL:Za P L) {t:TypeId} {τ:CTy} (h:iK L t τ=true):Oj τ=true∧WideMaps.KeyLaw P t∧∀ x:El τ,ib τ x=true→(keyOf P t (RD τ x)).isSome=true:=by
 unfold iK at h
 split at h
 · rename_i y hy;exact (hL t y hy).key τ (of_decide_eq_true h)
 · cases h
theorem fM (hL:Za P L) {t:TypeId} (h:iG L t=true) (w:World):(zeroValue t).run P w=.ok (.bool false) w:=by
 unfold iG at h
 split at h
 · rename_i y hy
   split at h
   · rename_i hz
     rw [Vc (hL t y hy),hz]
   · cases h
 · cases h
theorem mP {t:TypeId} (hu:P.underlying t=some .string):∀ x:El .str,ib .str x=true→(keyOf P t (RD .str x)).isSome=true:=by
 intro x hx
 have h:ByteArray.size x≤maxLen:=Nat.le_of_ble_eq_true hx
 show (keyOf P t (.string x)).isSome=true
 rw [WideMaps.keyOf_string_mk hu h];rfl
theorem XM {t:TypeId} {f1 f2:Field} (hu:P.underlying t=some (.struct #[f1,f2])) (hb:(P.keyType t&&P.cellsOf t==2&&P.cellsOf f1.type==1&&P.cellsOf f2.type==1&&f1.offset==0&&f2.offset==1&&f1.name != "_" &&f2.name != "_" &&Nat.blt 0 P.types.size)=true)
  (h1:P.underlying f1.type=some .string) (h2:P.underlying f2.type=some .string):∀ x:El (.pair .str (.pair .str .unit)),ib (.pair .str (.pair .str .unit)) x=true→(keyOf P t (RD (.pair .str (.pair .str .unit)) x)).isSome=true:=by
 rintro ⟨a,b,u⟩ hx
 simp only [Bool.and_eq_true,beq_iff_eq] at hb
 obtain ⟨⟨⟨⟨⟨⟨⟨⟨k1,k2⟩,k3⟩,k4⟩,k5⟩,k6⟩,k7⟩,k8⟩,k9⟩:=hb
 obtain ⟨d,hd⟩:∃ d,P.types.size=d+1:=⟨P.types.size - 1,by have:=Nat.le_of_ble_eq_true k9;omega⟩
 simp only [ib,Bool.and_eq_true] at hx
 have ha:ByteArray.size a≤maxLen:=Nat.le_of_ble_eq_true hx.1
 have hb:ByteArray.size b≤maxLen:=Nat.le_of_ble_eq_true hx.2.1
 have e:RD (.pair .str (.pair .str .unit)) (a,b,u)=.agg #[.string a,.string b]:=rfl
 rw [e]
 unfold keyOf
 rw [hu]
 have hf:Value.formed P t (.agg #[.string a,.string b])=true:=by unfold Value.formed;rw [hu,k2];rfl
 simp only [k1,hf,Bool.and_self,if_true]
 have hc:(Value.agg #[.string a,.string b]).cells.toList=[.string a,.string b]:=rfl
 rw [hc,hd]
 unfold Program.keyLits
 simp only [hu]
 rw [if_pos ⟨by rw [k2];rfl,by simp [k7,k8]⟩]
 have q1:P.keyLits (d+1) f1.type [.string a]=some [.string a.data.toList]:=by
  unfold Program.keyLits;simp only [h1];rw [if_pos ha]
 have q2:P.keyLits (d+1) f2.type [.string b]=some [.string b.data.toList]:=by
  unfold Program.keyLits;simp only [h2];rw [if_pos hb]
 simp only [List.mapM_cons,List.mapM_nil,k3,k4,k5,k6,List.drop_zero,List.take,List.drop,q1,q2]
 rfl
theorem XJ {t:TypeId} {τ:CTy} (hk:Oj τ=true) (K:WideMaps.KeyLaw P t) (hv:∀ x:El τ,ib τ x=true→(keyOf P t (RD τ x)).isSome=true) {o:Option Obj} {n:Nat} {xs:Nat→El τ} (h:SetAt o τ n xs) (y:El τ) (hy:ib τ y=true):
  ∃ es c,o=some (.map es c)∧∀ w,(tF τ ⟨n,xs⟩ y=false∧(Instr.findKey t (RD τ y) es.toList).run P w=.ok none w)∨
   (tF τ ⟨n,xs⟩ y=true∧∃ j b,(Instr.findKey t (RD τ y) es.toList).run P w=.ok (some (j,.bool true)) w∧es[j]?=some ⟨RD τ y,.bool true,b⟩):=by
 obtain ⟨es,c,ho,hn,he⟩:=h
 obtain ⟨ly,hly⟩:=Option.isSome_iff_exists.1 (hv y hy)
 have mem:∀ e∈es.toList,∃ i b,i<n∧e=⟨RD τ (xs i),.bool true,b⟩:=fun e hm=>by
  obtain ⟨i,hi⟩:=List.getElem?_of_mem hm
  have hi':es[i]?=some e:=by rw [←Array.getElem?_toList];exact hi
  have hlt:i<n:=by rw [←hn];exact (Array.getElem?_eq_some_iff.1 hi').1
  obtain ⟨_,b,hb⟩:=he i hlt
  rw [hi'] at hb
  exact ⟨i,b,hlt,Option.some.inj hb⟩
 refine ⟨es,c,ho,fun w=>?_⟩
 rcases K.find w hly es.toList (fun e hm=>by
  obtain ⟨i,b,hi,rfl⟩:=mem e hm
  exact Option.isSome_iff_exists.1 (hv (xs i) (he i hi).1)) with ⟨h1,h2⟩ | ⟨j,e,h1,h2,h3⟩
 · refine .inl ⟨?_,h1⟩
   unfold tF
   rw [List.any_eq_false]
   intro x hx
   obtain ⟨i,hi,rfl⟩:=List.mem_map.1 hx
   have hi:=List.mem_range.1 hi
   obtain ⟨_,b,hb⟩:=he i hi
   have:=h2 _ (List.mem_of_getElem? (by rw [Array.getElem?_toList];exact hb))
   intro e
   exact this (by rw [(PB τ y (xs i) hk).1 e])
 · obtain ⟨i,b,hi,rfl⟩:=mem e (List.mem_of_getElem? h2)
   have hxy:xs i=y:=WM hk h3
   refine .inr ⟨?_,j,b,h1,?_⟩
   · unfold tF
     rw [List.any_eq_true]
     exact ⟨xs i,List.mem_map.2 ⟨i,List.mem_range.2 hi,rfl⟩,(PB τ y (xs i) hk).2 hxy.symm⟩
   · rw [Array.getElem?_toList] at h2
     rw [h2,hxy]
theorem St.addSet (h:St g B w0 I0 E) {W:Row} {τ:CTy} {n:Nat} {xs:Nat→El τ} {blk:Nat} (hex:W.ex=.set τ n xs) (hcv:W.cv=true) (hn:W.n=0) (hm:W.mn=true) (hb:W.box=false) (hk:W.k≠0) (hp:W.pf=true)
  (h1:¬B blk) (h2:¬E.I blk) (h3:SetAt (E.w.heap[blk]?) τ n xs) (h4:∀ r' W' τ' n' xs',E.H[r']?=some (some W')→W'.ex=.set τ' n' xs'→(E.m r').blk≠blk):
  let E':Env:={ E with m:=iW E.m E.H.length ⟨blk,0,false,[]⟩,H:=E.H++[some W] }
  St g B w0 I0 E'∧Ext gj E E':=by
 intro E'
 have hx:Ext gj E E':=⟨fun b hb=>⟨hb,rfl⟩,fun r p hp _=>⟨Rz _ _ hp,Vi _ _ (by have:=CM hp;omega)⟩⟩
 have key:∀ q Q,E'.H[q]?=some (some Q)→q≠E.H.length→E.H[q]?=some (some Q)∧E'.m q=E.m q:=fun q Q hQ hq=>by
  have hlt:q<E.H.length:=by
   have:=(List.getElem?_eq_some_iff.1 hQ).1
   simp [E'] at this;omega
  exact ⟨by rw [←List.getElem?_append_left (l₂:=[some W]) hlt];exact hQ,Vi _ _ hq⟩
 have self:∀ V,E'.H[E.H.length]?=some (some V)→V=W:=fun V hV=>by
  have:(E.H++[some W])[E.H.length]?=some (some V):=hV
  rw [List.getElem?_append_right (Nat.le_refl _)] at this
  simpa using this.symm
 have hself:E'.m E.H.length=⟨blk,0,false,[]⟩:=eb _ _ _
 refine ⟨⟨h.below,h.hB,h.hn,h.gn,h.glob,h.isz,h.imono,h.ifresh,fun r V hV=>?_,fun r r' V V' hV hV' ha ha' hb=>?_,fun r V hV hk' hp'=>?_,fun r V σ n' xs' hV hV2=>?_⟩,hx⟩
 · by_cases hr:r=E.H.length
   · subst hr
     obtain rfl:=self V hV
     refine ⟨fun h1=>?_,fun i hi=>by omega,fun h1=>(by rw [hb] at h1;cases h1),fun l h0=>absurd h0 hk,fun ha=>(by rw [hself] at ha;cases ha),fun h1=>(by rw [hcv] at h1;cases h1)⟩
     rcases h1 with h1 | h1
     · omega
     · rw [hm] at h1;cases h1
   · obtain ⟨k1,k2⟩:=key r V hV hr
     exact (h.rows r V k1).ext hx k2 rfl (fun h1 _=>h1) (.inr fun _ _ _ _ _=>re _) (fun _ _ _=>Sa _)
 · have n1:r≠E.H.length:=fun e=>by rw [e,hself] at ha;cases ha
   have n2:r'≠E.H.length:=fun e=>by rw [e,hself] at ha';cases ha'
   obtain ⟨k1,k2⟩:=key r V hV n1
   obtain ⟨l1,l2⟩:=key r' V' hV' n2
   rw [k2] at ha hb;rw [l2] at ha' hb
   exact h.inj r r' V V' k1 l1 ha ha' hb
 · by_cases hr:r=E.H.length
   · subst hr
     obtain rfl:=self V hV
     exact absurd hk' hk
   · obtain ⟨k1,k2⟩:=key r V hV hr
     rw [k2];exact h.gse r V k1 hk' hp'
 · by_cases hr:r=E.H.length
   · subst hr
     obtain rfl:=self V hV
     rw [hex] at hV2
     cases hV2
     rw [hself]
     refine ⟨h1,h2,h3,hp,fun r' V' τ' n' xs' hV' hx' hb'=>?_⟩
     by_cases hr':r'=E.H.length
     · exact hr'
     · obtain ⟨k1,k2⟩:=key r' V' hV' hr'
       rw [k2] at hb'
       exact absurd hb' (h4 r' V' τ' n' xs' k1 hx')
   · obtain ⟨k1,k2⟩:=key r V hV hr
     obtain ⟨l1,l2,l3,l4,l5⟩:=h.mp r V σ n' xs' k1 hV2
     rw [k2]
     refine ⟨l1,l2,l3,l4,fun r' V' τ' n' xs' hV' hx' hb'=>?_⟩
     by_cases hr':r'=E.H.length
     · subst hr'
       rw [hself] at hb'
       exact absurd hb'.symm (h4 r V _ _ _ k1 hV2)
     · obtain ⟨j1,j2⟩:=key r' V' hV' hr'
       rw [j2] at hb'
       exact l5 r' V' τ' n' xs' j1 hx' hb'
theorem St.setSet (h:St g B w0 I0 E) {r:Nat} {W:Row} {τ:CTy} {n n':Nat} {xs xs':Nat→El τ} (hW:E.H[r]?=some (some W)) (hex:W.ex=.set τ n xs) {w':World} {o:Obj} (hw:w'.heap=E.w.heap.setIfInBounds (E.m r).blk o) (ho:SetAt (some o) τ n' xs') (hos:w'.os=E.w.os) (htp:w'.tape=E.w.tape) (hout:w'.output=E.w.output):
  St g B w0 I0 { E with w:=w',H:=E.H.set r (some { W with ex:=.set τ n' xs' }) }∧Ext gj E { E with w:=w',H:=E.H.set r (some { W with ex:=.set τ n' xs' }) }:=by
 obtain ⟨k1,k2,k3,k4,k5⟩:=h.mp r W τ n xs hW hex
 obtain ⟨es0,c0,hc0⟩:=k3.map
 have hlt:(E.m r).blk<E.w.heap.size:=(Array.getElem?_eq_some_iff.1 hc0).1
 have hrl:r<E.H.length:=(List.getElem?_eq_some_iff.1 hW).1
 have hother:∀ b,b≠(E.m r).blk→w'.heap[b]?=E.w.heap[b]?:=fun b hb=>by rw [hw,Array.getElem?_setIfInBounds,if_neg (by omega)]
 have hself:w'.heap[(E.m r).blk]?=some o:=by rw [hw,Array.getElem?_setIfInBounds,if_pos rfl,if_pos hlt]
 have hsize:w'.heap.size=E.w.heap.size:=by rw [hw];simp
 have hget:∀ q V,(E.H.set r (some { W with ex:=.set τ n' xs' }))[q]?=some (some V)→(q≠r∧E.H[q]?=some (some V))∨(q=r∧V={ W with ex:=.set τ n' xs' }):=fun q V hV=>by
  rw [List.getElem?_set] at hV
  by_cases hq:r=q
  · subst hq
    rw [if_pos rfl,if_pos hrl] at hV
    cases hV
    exact .inr ⟨rfl,rfl⟩
  · rw [if_neg hq] at hV
    exact .inl ⟨Ne.symm hq,hV⟩
 have ht:VV (E.H.set r (some { W with ex:=.set τ n' xs' }))=VV E.H:=by
  funext q
  unfold VV
  rw [List.getElem?_set]
  by_cases hq:r=q
  · subst hq
    rw [if_pos rfl,if_pos hrl,hW]
  · rw [if_neg hq]
 have hx:Ext gj E { E with w:=w',H:=E.H.set r (some { W with ex:=.set τ n' xs' }) }:=⟨fun b hb=>⟨hb,hother b (fun e=>k2 (e▸hb))⟩,fun q p hp _=>⟨by show VV (E.H.set r _) q=_;rw [ht];exact hp,rfl⟩⟩
 have hk0:=h.rows r W hW
 have hbl:Kept B w0 w':=h.below.trans ⟨hos,htp,hout,by omega,fun k hk=>hother k (fun e=>k1 (e▸hk)),fun k arr t fz hk=>⟨arr,fz,by
  rw [hother k (fun e=>by rw [e,hc0] at hk;cases hk)];exact hk,rfl⟩⟩
 have hnal:W.n=0→True:=fun _=>trivial
 refine ⟨⟨hbl,h.hB,h.hn,h.gn,g.stab E.w w' ⟨hos,htp,hout,by rw [hsize];exact Nat.le_refl _,fun k hk=>hother k (fun e=>k1 (e▸h.hn k hk))⟩ h.glob,fun b hb=>by show b<w'.heap.size;rw [hsize];exact h.isz b hb,h.imono,h.ifresh,fun q V hV=>?_,fun q q' V V' hV hV' a1 a2 hb=>?_,fun q V hV hkq hpq=>?_,fun q V σ n2 xs2 hV hV2=>?_⟩,hx⟩
 · rcases hget q V hV with ⟨hq,hV⟩ | ⟨hq,rfl⟩
   · by_cases ha:(E.m q).al=true
     · exact (h.rows q V hV).ext hx rfl (hother _ (fun e=>rG h hV ha hW hex e)) (fun h1 _=>h1) (.inr fun _ _ _ _ _=>re _) (fun _ _ _=>Sa _)
     · exact ⟨fun h1=>absurd ((h.rows q V hV).al h1) ha,(h.rows q V hV).len,(h.rows q V hV).bx,fun l h0 hp hl=>hx.L (Sa l) ((h.rows q V hV).gh l h0 hp hl),fun h1=>absurd h1 ha,(h.rows q V hV).nn⟩
   · rw [hq]
     have hal:(E.m r).al=false:=by
      cases ha:(E.m r).al with
      | false=>rfl
      | true=>exact (rG h hW ha hW hex rfl).elim
     refine ⟨hk0.al,fun i hi=>?_,hk0.bx,fun l _ _ hl=>(by cases hl),fun ha=>?_,hk0.nn⟩
     · have:0<W.n:=Nat.lt_of_le_of_lt (Nat.zero_le _) hi
       have:=hk0.al (.inl this)
       rw [hal] at this;cases this
     · have ha:(E.m r).al=true:=ha
       rw [hal] at ha;cases ha
 · have key:∀ q V,(E.H.set r (some { W with ex:=.set τ n' xs' }))[q]?=some (some V)→∃ V',E.H[q]?=some (some V'):=fun q V hV=>by
    rcases hget q V hV with ⟨_,hV⟩ | ⟨hq,_⟩
    · exact ⟨V,hV⟩
    · exact ⟨W,hq▸hW⟩
   obtain ⟨U,hU⟩:=key q V hV
   obtain ⟨U',hU'⟩:=key q' V' hV'
   exact h.inj q q' U U' hU hU' a1 a2 hb
 · rcases hget q V hV with ⟨hq,hV⟩ | ⟨hq,rfl⟩
   · exact h.gse q V hV hkq hpq
   · rw [hq];exact h.gse r W hW hkq hpq
 · have uniq:∀ (q':Nat) (V':Row) (τ':CTy) (m':Nat) (ys:Nat→El τ'),(E.H.set r (some { W with ex:=.set τ n' xs' }))[q']?=some (some V')→V'.ex=.set τ' m' ys→∃ (U:Row) (σ':CTy) (m2:Nat) (zs:Nat→El σ'),E.H[q']?=some (some U)∧U.ex=.set σ' m2 zs:=fun q' V' τ' m' ys hV' hx'=>by
    rcases hget q' V' hV' with ⟨_,hV⟩ | ⟨hq,rfl⟩
    · exact ⟨V',τ',m',ys,hV,hx'⟩
    · exact ⟨W,τ,n,xs,hq▸hW,hex⟩
   rcases hget q V hV with ⟨hq,hV⟩ | ⟨hq,rfl⟩
   · obtain ⟨l1,l2,l3,l4,l5⟩:=h.mp q V σ n2 xs2 hV hV2
     refine ⟨l1,l2,?_,l4,fun q' V' τ' m' ys hV' hx' hb=>?_⟩
     · show SetAt (w'.heap[(E.m q).blk]?) σ n2 xs2
       rw [hother _ (fun e=>hq (k5 q V σ n2 xs2 hV hV2 e))];exact l3
     · obtain ⟨U,σ',m2,zs,hU,hUx⟩:=uniq q' V' τ' m' ys hV' hx'
       exact l5 q' U σ' m2 zs hU hUx hb
   · cases hV2
     rw [hq]
     refine ⟨k1,k2,?_,k4,fun q' V' τ' m' ys hV' hx' hb=>?_⟩
     · show SetAt (w'.heap[(E.m r).blk]?) τ n' xs'
       rw [hself];exact ho
     · obtain ⟨U,σ',m2,zs,hU,hUx⟩:=uniq q' V' τ' m' ys hV' hx'
       exact k5 q' U σ' m2 zs hU hUx hb
theorem SetAt.congr {o:Option Obj} {τ:CTy} {n:Nat} {xs ys:Nat→El τ} (h:SetAt o τ n xs) (he:∀ i,i<n→ys i=xs i):SetAt o τ n ys:=by
 obtain ⟨es,c,h1,h2,h3⟩:=h
 exact ⟨es,c,h1,h2,fun i hi=>by rw [he i hi];exact h3 i hi⟩
theorem Xq (hS:St g B w0 I0 E) (hL:Za P L) {ev:Operand→AV} {ρ:Operand→Value} (hρ:∀ x,E.V (ev x) (ρ x)) {o:Oper} {k:AV→fa→Option (Nat→Bool)→Option R} (h:OV L E.H ev o.op k=some r):
  ∃ av v E',St g B w0 I0 E'∧Ext gj E E'∧E'.V av v∧k av E'.H none=some r∧((execOp ρ o).run P E.w=.ok (.value v) E'.w∨v=undef∧(execOp ρ o).run P E.w=.ok .skip E'.w)∧((match o.op with
   | .mapUpdate _ _ _ _=>false
   | _=>true)=true→Below E.w.heap.size E.w E'.w):=by
 obtain ⟨dst,op,type,pos,after,guard⟩:=o
 simp only at h ⊢
 unfold OV at h
 split at h
 · rename_i t
   split at h
   · rename_i y hy
     split at h
     · rename_i kt et hu
       split at h
       · rename_i yk hyk
         split at h
         · rename_i τ hkey
           obtain ⟨_,h⟩:=ja h
           have hbl:Below E.w.heap.size E.w (E.w.alloc (.map #[] 0)):=(Below.refl _ _).alloc (Nat.le_refl _) _
           have hheap:(E.w.alloc (.map #[] 0)).heap=E.w.heap.push (.map #[] 0):=rfl
           obtain ⟨s1,x1⟩:=hS.grow (I':=E.I) hbl (fun b h=>h) (fun b h=>.inl h) (fun b hb=>Nat.lt_of_lt_of_le (hS.isz b hb) hbl.size)
           obtain ⟨s2,x2⟩:=s1.addSet (W:=⟨t,1,0,.set τ 0 (fun _=>ra τ),true,true,false,true⟩) (blk:=E.w.heap.size) rfl rfl rfl rfl rfl (show (1:Nat)≠0 by decide) rfl (fun hb=>absurd (hS.base _ hb) (Nat.lt_irrefl _)) (fun hI=>absurd (hS.isz _ hI) (Nat.lt_irrefl _))
            (by
             refine ⟨#[],0,?_,rfl,fun i hi=>absurd hi (Nat.not_lt_zero i)⟩
             show (E.w.alloc (.map #[] 0)).heap[E.w.heap.size]?=_
             rw [hheap];simp) (fun r' W' τ' n' xs' hW' hx' e=>by
             obtain ⟨es,c,hc⟩:=(hS.mp r' W' τ' n' xs' hW' hx').2.2.1.map
             have:=(Array.getElem?_eq_some_iff.1 hc).1
             have e:(E.m r').blk=E.w.heap.size:=e
             omega)
           refine ⟨_,.map (some E.w.heap.size),_,s2,(x1.trans x2),?_,h,.inl ?_,fun _=>hbl⟩
           · simp only [Env.V,VR,eb,and_true]
             exact ⟨_,BF (W:=⟨t,1,0,.set τ 0 (fun _=>ra τ),true,true,false,true⟩) (by simp)⟩
           · simp only [execOp,Option.map_none]
             exact nd (show (Instr.makeMap t none).run P E.w=.ok (.map (some E.w.heap.size)) (E.w.alloc (.map #[] 0)) from rfl)
         · exact da h
       · exact da h
     · exact da h
   · exact da h
 · rename_i t x ix ok
   split at h
   · rename_i y r' hy he
     have hx:=hρ x
     rw [he] at hx
     simp only [Env.V,VR] at hx
     split at h
     · rename_i kt et W hu hW
       split at h
       · rename_i τ n xs hex
         obtain ⟨hc,h⟩:=ja h
         rw [Bool.and_eq_true] at hc
         obtain ⟨hk,K,hv⟩:=jK hL hc.1
         split at h
         · rename_i key hkey
           obtain ⟨hfit,h⟩:=Pd h
           have hix:=hρ ix
           rw [aG hkey] at hix
           have hix:=AO hk hix
           have hut:P.underlying t=some (.map kt et):=by rw [(hL t y hy).und,hu]
           obtain ⟨es,c,ho,hf⟩:=XJ hk K hv (hS.mp r' W τ n xs hW hex).2.2.1 key hfit
           obtain ⟨lk,hlk⟩:=Option.isSome_iff_exists.1 (hv key hfit)
           have hrun:(Instr.lookup t (ρ x) (ρ ix) ok).run P E.w=.ok (if ok then .tuple #[.bool (tF τ ⟨n,xs⟩ key),.bool (tF τ ⟨n,xs⟩ key)] else .bool (tF τ ⟨n,xs⟩ key)) E.w:=by
            rw [hx.2,hix]
            unfold Instr.lookup
            simp only [Sem.run_bind,run_underlying hut,Result.andThen_ok,MapKept.run_getObj_map ho,Sem.run_pure,K.check E.w es.isEmpty hlk]
            rcases hf E.w with ⟨h1,h2⟩ | ⟨h1,j,b,h2,_⟩
            · simp only [h2,Result.andThen_ok,Sem.run_bind,fM hL hc.2,Sem.run_pure,h1]
            · simp only [h2,Result.andThen_ok,Sem.run_bind,Sem.run_pure,h1]
           refine ⟨_,if ok then .tuple #[.bool (tF τ ⟨n,xs⟩ key),.bool (tF τ ⟨n,xs⟩ key)] else .bool (tF τ ⟨n,xs⟩ key),E,hS,Ext.refl _ _,?_,h,.inl ?_,fun _=>Below.refl _ _⟩
           rotate_left
           · simp only [execOp]
             exact nd hrun
           · cases ok with
             | true=>simp [Env.V,VR,LR]
             | false=>simp [Env.V,VR]
         · exact da h
       · exact da h
     · exact da h
   · exact da h
 · rename_i t m ky v
   split at h
   · rename_i y r' hy he hev
     have hx:=hρ m
     rw [he] at hx
     simp only [Env.V,VR] at hx
     have hvv:=hρ v
     rw [hev,V_b] at hvv
     split at h
     · rename_i kt et W hu hW
       split at h
       · rename_i τ n xs hex
         obtain ⟨hc,h⟩:=ja h
         obtain ⟨hk,K,hv⟩:=jK hL hc
         split at h
         · rename_i key hkey
           obtain ⟨hfit,h⟩:=Pd h
           have hix:=hρ ky
           rw [aG hkey] at hix
           have hix:=AO hk hix
           have hut:P.underlying t=some (.map kt et):=by rw [(hL t y hy).und,hu]
           have hset:=(hS.mp r' W τ n xs hW hex).2.2.1
           obtain ⟨es,c,ho,hf⟩:=XJ hk K hv hset key hfit
           obtain ⟨es',c',ho',hsz,hent⟩:=hset
           rw [ho] at ho'
           cases ho'
           obtain ⟨lk,hlk⟩:=Option.isSome_iff_exists.1 (hv key hfit)
           have hstep:∃ o',(Instr.mapUpdate t (ρ m) (ρ ky) (ρ v)).run P E.w=.ok () { E.w with heap:=E.w.heap.setIfInBounds (E.m r').blk o' }∧SetAt (some o') τ (UB τ ⟨n,xs⟩ key).n (UB τ ⟨n,xs⟩ key).at':=by
            rw [hx.2,hix,hvv]
            unfold Instr.mapUpdate
            simp only [Sem.run_bind,run_underlying hut,Result.andThen_ok,MapKept.run_getObj_map ho,K.check E.w false hlk]
            rcases hf E.w with ⟨h1,h2⟩ | ⟨h1,j,b,h2,h3⟩
            · simp only [h2,Result.andThen_ok,MapKept.run_setObj_map _ ho]
              refine ⟨_,rfl,_,_,rfl,?_,fun i hi=>?_⟩
              · simp only [UB,h1,cond_false,Array.size_push,hsz]
              · have hi:i<n+1:=by simpa only [UB,h1,cond_false] using hi
                rw [Array.getElem?_push]
                by_cases e:i=es.size
                · rw [if_pos e]
                  refine ⟨?_,c,?_⟩
                  · simp only [UB]
                    rw [if_neg (by omega)];exact hfit
                  simp only [UB]
                  rw [if_neg (by omega)]
                · rw [if_neg e]
                  obtain ⟨hfi,b,hb⟩:=hent i (by omega)
                  refine ⟨?_,b,?_⟩
                  · simp only [UB]
                    rw [if_pos (by omega)];exact hfi
                  rw [hb]
                  simp only [UB]
                  rw [if_pos (by omega)]
            · simp only [h2,Result.andThen_ok,Sem.run_bind,h3,Option.map_some,Option.getD_some,K.stays E.w hlk,MapKept.run_setObj_map _ ho]
              refine ⟨_,rfl,_,_,rfl,?_,fun i hi=>?_⟩
              · simp only [UB,h1,cond_true,Array.size_modify,hsz]
              · have hi:i<n:=by simpa only [UB,h1,cond_true] using hi
                obtain ⟨hfi,b',hb'⟩:=hent i hi
                simp only [UB]
                refine ⟨by rw [if_pos hi];exact hfi,?_⟩
                rw [if_pos hi,Array.getElem?_modify]
                by_cases e:j=i
                · subst e
                  rw [if_pos rfl,hb']
                  rw [h3] at hb'
                  have e1:RD τ key=RD τ (xs j):=congrArg MapEntry.key (Option.some.inj hb')
                  exact ⟨b',by rw [Option.map_some,e1]⟩
                · rw [if_neg e]
                  exact ⟨b',hb'⟩
           obtain ⟨o',hrun,hset'⟩:=hstep
           obtain ⟨s1,s2⟩:=hS.setSet hW hex (w':={ E.w with heap:=E.w.heap.setIfInBounds (E.m r').blk o' }) (o:=o') rfl hset' rfl rfl rfl
           refine ⟨_,undef,_,s1,s2,V_b.2 rfl,h,.inr ⟨rfl,?_⟩,fun hh=>by cases hh⟩
           simp only [execOp,Sem.run_bind,hrun,Result.andThen_ok]
           rfl
         · exact da h
       · exact da h
     · exact da h
   · exact da h
 · exact da h
end
open Go Go.RowKit
section
variable {P:Program} {L:YU} {g:Glob} {B:Nat→Prop} {w0:World} {I0:Nat→Prop} {E:Env} {R:Type} {r:R} {Γ:Callees R}
theorem xo {E:Env}:∀ {l l':List AV} {vs vs':List Value},E.L l vs→E.L l' vs'→E.L (l++l') (vs++vs')
 | [],_,[],_,_,h=>h
 | [],_,_::_,_,h,_=>by simp [Env.L,LR] at h
 | _::_,_,[],_,h,_=>by simp [Env.L,LR] at h
 | x::xs,_,v::vs,_,h,h'=>by
  simp only [Env.L,LR] at h
  simp only [List.cons_append,Env.L,LR]
  exact ⟨h.1,xo h.2 h'⟩
theorem wt {c:Call} {f:Operand} {ρ:Operand→Value} {fid:FuncId} {cap:Array Value} {o:Oper} (ho:o.op=.call c) (hc:c.callee=.value f) (hf:ρ f=.func (.func fid) #[] cap) (he:Enters P fid) (w:World):
  (execOp ρ o).run P w=.ok (.enter fid ((c.args.map ρ)++cap)) w:=by
 obtain ⟨dst,op,type,pos,after,guard⟩:=o
 simp only at ho
 subst ho
 obtain ⟨callee,args,ats⟩:=c
 simp only at hc
 subst hc
 simp only [execOp,resolve,Sem.run_bind,hf,Deferred.ofValue,Sem.run_pure,Result.andThen_ok,invoke]
 have:=he (#[]++Array.map ρ args++cap) w
 simpa using this
theorem KH {w:World} {I:Nat→Prop} {m:Nat→Info} {T:XU}:∀ {l:List AV} {vs us:List Value},qF l=some vs→LR w I m T l us→us=vs
 | [],vs,us,h,hl=>by
  simp only [qF] at h
  cases h
  cases us with
  | nil=>rfl
  | cons _ _=>simp [LR] at hl
 | x::xs,vs,[],h,hl=>by simp [LR] at hl
 | x::xs,vs,u::us,h,hl=>by
  simp only [LR] at hl
  cases x with
  | b v=>
   simp only [qF] at h
   split at h
   · rename_i vs' hv
     cases h
     have h1:u=v:=by simpa only [VR] using hl.1
     rw [h1,KH hv hl.2]
   · cases h
  | _=>simp [qF] at h
theorem CO {P:Program} {g:Glob} {Γ:Callees R} (hP:PureOk P g Γ) {E:Env} {f:FuncId} {args:List AV} {us:List Value} {k:AV→Option R} (hargs:E.L args us) (h:IS Γ f args k=some r):
  ∃ av v,k av=some r∧E.V av v∧∀ w,(callFunc f us.toArray).run P w=.ok (.value v) w:=by
 unfold IS at h
 split at h
 · rename_i g' hg
   split at h
   · rename_i vs hvs
     split at h
     · rename_i v hv
       have:=KH hvs hargs
       subst this
       exact ⟨_,v,h,V_b.2 rfl,hP.xok f g' _ v hg hv⟩
     · cases h
   · cases h
 · rename_i hg
   split at h
   · rename_i x
     cases us with
     | nil=>simp [Env.L,LR] at hargs
     | cons u us=>
      simp only [Env.L,LR] at hargs
      cases us with
      | nil=>exact ⟨_,u,h,hargs.1,hP.xid f hg u⟩
      | cons _ _=>simp [LR] at hargs
   · cases h
 · cases h
theorem qA {c:Call} {f:Operand} {ρ:Operand→Value} {fid:FuncId} {cap:Array Value} {o:Oper} {v:Value} {w:World} (ho:o.op=.call c) (hc:c.callee=.value f) (hf:ρ f=.func (.func fid) #[] cap)
  (he:(callFunc fid ((c.args.map ρ)++cap)).run P w=.ok (.value v) w):(execOp ρ o).run P w=.ok (.value v) w:=by
 obtain ⟨dst,op,type,pos,after,guard⟩:=o
 simp only at ho
 subst ho
 obtain ⟨callee,args,ats⟩:=c
 simp only at hc
 subst hc
 simp only [execOp,resolve,Sem.run_bind,hf,Deferred.ofValue,Sem.run_pure,Result.andThen_ok,invoke]
 simpa using he
theorem aL (hS:St g B w0 I0 E) (hP:PureOk P g Γ) (hG:CsOk P g Γ) {fr:List AV} {a:Act} (hfr:E.L fr a.tmps.toList) {o:Oper} {c:Call} {f:Operand} (ho:o.op=.call c) (hc:c.callee=.value f)
  {k:AV→fa→Option (Nat→Bool)→Option R} {pn:AV→fa→Option (Nat→Bool)→Option R} {next:Act→World→Prop} {Q:Exit→Act→World→Prop}
  (h:PL Γ E.H (qV fr f) (c.args.toList.map (qV fr)) k pn=some r)
  (hk:∀ av v E' D,St g B w0 I0 E'→Ext (Option.getD D gj) E E'→E'.V av v→k av E'.H D=some r→next (a.put o.dst v) E'.w)
  (hp:∀ av v E' D,St g B w0 I0 E'→Ext (Option.getD D gj) E E'→E'.V av v→pn av E'.H D=some r→Q (.panic [{ v,recovered:=false }]) a E'.w):o.wp P a E.w next Q:=by
 have hf:=Hq hfr f
 unfold PL at h
 split at h
 · rename_i fid cp he
   rw [he] at hf
   simp only [Env.V,VR] at hf
   obtain ⟨cap,hfv,hcap⟩:=hf
   have hargs:E.L (c.args.toList.map (qV fr)++cp) ((c.args.map a.eval)++cap).toList:=by
    rw [Array.toList_append,Array.toList_map]
    exact xo (JI (Hq hfr) _) hcap
   split at h
   · rename_i F hres
     obtain ⟨hen,hcall⟩:=hG.ans fid _ _ _ hres
     obtain ⟨out,h,hcall⟩:=hcall _ _ h
     unfold Oper.wp
     rw [wt ho hc hfv hen,Oper.upon_enter]
     have:=TO hS hargs hcall h
     rw [Array.toArray_toList] at this
     refine this.mono ?_
     rintro e w' ⟨v,av,E',D,rfl,h1,h2,h3,⟨rfl,h4⟩ | ⟨rfl,h4⟩⟩
     · exact hk av v E' D h1 h2 h3 h4
     · exact hp av v E' D h1 h2 h3 h4
   cases hvw:Γ.vw fid&&!(Γ.isP fid) with
   | true=>
    rw [hvw,cnd_true] at h
    split at h
    · rename_i F hres
      obtain ⟨hpv,h⟩:=ja h
      obtain ⟨hen,hcall⟩:=hG.ans fid _ _ _ hres
      obtain ⟨out,h,hcall⟩:=hcall _ _ h
      obtain ⟨hfl,h⟩:=ja h
      unfold Oper.wp
      rw [wt ho hc hfv hen,Oper.upon_enter]
      have:=UO hS hargs hcall hpv hfl h
      rw [Array.toArray_toList] at this
      refine this.mono ?_
      rintro e w' ⟨v,av,E',D,rfl,h1,h2,h3,⟨rfl,h4⟩ | ⟨rfl,h4⟩⟩
      · exact hk av v E' D h1 h2 h3 h4
      · exact hp av v E' D h1 h2 h3 h4
    · cases h
   | false=>
   rw [hvw,cnd_false] at h
   cases hfp:Γ.isP fid with
   | true=>
    rw [hfp] at h
    simp only [cnd_true] at h
    obtain ⟨hpv,h⟩:=ja h
    have hcall:=CH hS hP hfp hargs hpv h
    unfold Oper.wp
    rw [wt ho hc hfv (hP.enters fid hfp),Oper.upon_enter]
    refine hcall.mono ?_
    rintro e w' ⟨v,av,E',rfl,h1,h2,h3,h4,_,⟨rfl,h5⟩ | ⟨rfl,h5⟩⟩
    · exact hk av v E' none h1 h2 h3 (by rw [h4];exact h5)
    · exact hp av v E' none h1 h2 h3 (by rw [h4];exact h5)
   | false=>
    rw [hfp] at h
    simp only [cnd_false] at h
    cases hxs:(Γ.xc fid).isSome with
    | true=>
     rw [hxs,cnd_true] at h
     obtain ⟨av,v,h1,hV,h2⟩:=CO hP hargs h
     unfold Oper.wp
     rw [qA ho hc hfv (by have:=h2 E.w;rwa [Array.toArray_toList] at this)]
     exact hk _ v E none hS (Ext.refl _ _) hV h1
    | false=>
     rw [hxs,cnd_false] at h
     exact da h
 · exact da h
theorem zH {k:AV→fa→Option (Nat→Bool)→Option R} (hS:St g B w0 I0 E) (hL:Za P L) {t t' e ty:TypeId} {ye:Ty} (hu:P.underlying t=some (.slice e)) (hye:TyOk P e ye) {s x:AV} {vs vx:Value} (hs:E.V s vs) (hx:E.V x vx)
  (h:yH L E.H e ye t' s x k=some r):Nxt P g B w0 I0 E (do pure (Next.value (←Builtin.append_ #[t,t'] ty #[vs,vx]))) k r:=by
 unfold yH at h
 split at h
 · rename_i q
   have hx':vx=.string q:=by rw [V_b] at hx;exact hx
   subst hx'
   split at h
   · rename_i y2 hy2
     split at h
     · rename_i hstr
       have hus:P.underlying t'=some .string:=by rw [(hL t' y2 hy2).und,hstr]
       obtain ⟨hc,h⟩:=ja h
       rw [Bool.and_eq_true] at hc
       have hz:(zeroCells ye).length=ye.size:=Nat.eq_of_beq_eq_true hc.1
       have h1:ye.size=1:=Nat.eq_of_beq_eq_true hc.2
       have hzs:ye.zero.cells.size=ye.size:=by rw [←hz];exact (Lu (xh (E:=E) (y:=ye))).symm
       split at h
       · rename_i r1 n
         split at h
         · rename_i W hW
           obtain ⟨hc2,h⟩:=ja h
           rw [Bool.and_eq_true] at hc2
           exact GH hS hu hus hye hW hs (Nat.eq_of_beq_eq_true hc2.1) (Nat.eq_of_beq_eq_true hc2.2) hzs h
         · exact da h
       · rw [V_b] at hs
         obtain ⟨s1,s2⟩:=hS.ghost (W:=Jc L e ye) Tk [] rfl rfl rfl (fun l _ hp=>(by cases hp)) (fun _ hp=>(by cases hp))
         have hW1:(E.H++[some (Jc L e ye)])[E.H.length]?=some (some (Jc L e ye)):=by simp
         have hs1:({ E with m:=iW E.m E.H.length ⟨0,0,false,[]⟩,H:=E.H++[some (Jc L e ye)] }:Env).V (.sl E.H.length 0) vs:=by
          rw [hs]
          simp only [Env.V,VR]
          refine ⟨⟨ye.size,by simp [VV,Jc]⟩,?_⟩
          rw [eb]
          simp
         have hn:=GH s1 hu hus hye (q:=q) (ty:=ty) hW1 hs1 h1 rfl hzs h
         obtain ⟨av,v,E',D,h1,h2,h3,h4,h5⟩:=hn.out
         exact ⟨av,v,E',D,h1,(s2.weaken (D':=Option.getD D gj) (fun _ _=>rfl)).trans h2,h3,h4,h5⟩
       · exact da h
     · exact da h
   · exact da h
 · exact da h
theorem LL (hS:St g B w0 I0 E) (hL:Za P L) {ev:Operand→AV} {ρ:Operand→Value} (hρ:∀ x,E.V (ev x) (ρ x)) {c:Call} {ty:TypeId} {k:AV→fa→Option (Nat→Bool)→Option R}
  (h:(match c.args.toList.map ev,c.argTypes.toList with
   | [s,x],[t,t']=>match ec L t with
    | some y=>match y.u with
     | .slice e=>match ec L e with
      | some ye=>jV (Nat.beq t t'&&Nat.beq (zeroCells ye).length ye.size) (match s,x with
       | .sl r n,.sl r2 n2=>match E.H[r]?,E.H[r2]? with
        | some (some W),some (some W2)=>jV (Nat.beq W2.k W.k&&Nat.beq W.t e) (Je E.H r W ye n n2 W2.ex W2.pf k) none
        | _,_=>none
       | .sl r n,.snap σ n2 ys=>match E.H[r]? with
        | some (some W)=>jV (Nat.beq σ.size W.k&&Nat.beq W.t e) (Je E.H r W ye n n2 (.typ σ ys) true k) none
        | _=>none
       | .b (.slice none 0 0),.sl r2 n2=>match E.H[r2]? with
        | some (some W2)=>jV (Nat.beq W2.k ye.size) (Je (E.H++[some (Jc L e ye)]) E.H.length (Jc L e ye) ye 0 n2 W2.ex W2.pf k) none
        | _=>none
       | .b (.slice none 0 0),.snap σ n2 ys=>jV (Nat.beq σ.size ye.size) (Je (E.H++[some (Jc L e ye)]) E.H.length (Jc L e ye) ye 0 n2 (.typ σ ys) true k) none
       | _,_=>none) (yH L E.H e ye t' s x k)
      | none=>none
     | _=>none
    | none=>none
   | _,_=>none)=some r):Nxt P g B w0 I0 E (do pure (Next.value (←Builtin.append_ c.argTypes ty (c.args.map ρ)))) k r:=by
 split at h
 · rename_i s x t t' hargs htys
   obtain ⟨a1,a2,hax⟩:∃ a1 a2,c.args.toList=[a1,a2]:=by
    rcases hl:c.args.toList with _ | ⟨x1,_ | ⟨y1,_ | ⟨z,zs⟩⟩⟩<;>rw [hl] at hargs<;>simp at hargs
    exact ⟨x1,y1,rfl⟩
   rw [hax] at hargs
   simp at hargs
   have hca:c.args= #[a1,a2]:=by rw [←Array.toArray_toList (xs:=c.args),hax]
   have hct:c.argTypes= #[t,t']:=by rw [←Array.toArray_toList (xs:=c.argTypes),htys]
   have hs:=hρ a1
   have hx:=hρ a2
   rw [hargs.1] at hs
   rw [hargs.2] at hx
   split at h
   · rename_i y hy
     split at h
     · rename_i e hu
       have hu':P.underlying t=some (.slice e):=by rw [(hL t y hy).und,hu]
       split at h
       · rename_i ye hye
         cases hcc:(Nat.beq t t'&&Nat.beq (zeroCells ye).length ye.size) with
         | false=>
          rw [hcc] at h
          replace h:yH L E.H e ye t' s x k=some r:=h
          rw [hct,show c.args.map ρ= #[ρ a1,ρ a2] by rw [hca];simp]
          exact zH hS hL hu' (hL _ ye hye) hs hx h
         | true=>
         rw [hcc,cnd_true] at h
         have hc:=hcc
         rw [Bool.and_eq_true] at hc
         have ht:t=t':=Nat.eq_of_beq_eq_true hc.1
         have hz:(zeroCells ye).length=ye.size:=Nat.eq_of_beq_eq_true hc.2
         have hzs:ye.zero.cells.size=ye.size:=by rw [←hz];exact (Lu (xh (E:=E) (y:=ye))).symm
         subst ht
         have hmap:c.args.map ρ= #[ρ a1,ρ a2]:=by rw [hca];simp
         rw [hmap,hct]
         cases s with
         | sl r1 n=>cases x with
          | sl r2 n2=>
           dsimp only at h
           split at h
           · rename_i W W2 hW hW2
             obtain ⟨hc2,h⟩:=ja h
             rw [Bool.and_eq_true] at hc2
             have hkk:W2.k=W.k:=Nat.eq_of_beq_eq_true hc2.1
             have hWt:W.t=e:=Nat.eq_of_beq_eq_true hc2.2
             have hk2:=hS.rows r2 W2 hW2
             simp only [Env.V,VR] at hx
             obtain ⟨⟨kk,hT⟩,hx⟩:=hx
             obtain ⟨rfl,rfl⟩:=si hW2 hT
             by_cases hal:(E.m r2).al=true
             · rw [if_pos hal] at hx
               obtain ⟨c2,hv,hnc,_⟩:=hx
               rw [hv]
               obtain ⟨k1,k2,k3,arr,fz,k4,k5,k6,k6',k7⟩:=hk2.mem hal
               refine mt hS hu' (hL _ ye hye) hW hs (fun h0=>⟨_,rfl,fun i hi=>(hk2.len i hi).trans hkk,fun i hi j x hx=>?_⟩) hWt hzs h
               obtain ⟨v,b1,b2,b3⟩:=k7 i hi j x hx
               refine ⟨v,?_,?_,b3⟩
               · rw [Gj,Nat.zero_add,←hkk]
                 simp [World.cell?,k4,b1]
               · unfold Fl at b2
                 cases hp:W2.pf with
                 | true=>rw [if_pos hp] at b2;exact b2
                 | false=>rw [if_neg (by rw [hp];simp)] at b2;exact b2
             · rw [if_neg hal] at hx
               obtain ⟨⟨A0,hv,_⟩,hn⟩:=hx
               rw [hv]
               rw [hn] at h
               exact mt (A:=A0) (c2:=0) hS hu' (hL _ ye hye) hW hs (fun h0=>absurd h0 (by omega)) hWt hzs h
           · exact da h
          | snap σ n2 ys=>
           dsimp only at h
           split at h
           · rename_i W hW
             obtain ⟨hc2,h⟩:=ja h
             rw [Bool.and_eq_true] at hc2
             have hkk:σ.size=W.k:=Nat.eq_of_beq_eq_true hc2.1
             have hWt:W.t=e:=Nat.eq_of_beq_eq_true hc2.2
             rw [Env.V,Cj] at hx
             obtain ⟨A,c2,hv,hnc,hx⟩:=hx
             rw [hv]
             refine mt hS hu' (hL _ ye hye) hW hs (fun h0=>?_) hWt hzs h
             obtain ⟨ad,rfl,hsp,hb,hall⟩:=hx h0
             refine ⟨ad,rfl,fun i hi=>(hall i hi).1.trans hkk,fun i hi j x hx=>?_⟩
             obtain ⟨v,b1,b2,b3⟩:=Sz (hall i hi).2 j x hx
             exact ⟨v,by rw [←hkk];exact b1,b2,b3⟩
           · exact da h
          | _=>dsimp only at h;exact da h
         | b bv=>
          have nil_:bv=.slice none 0 0→Nxt P g B w0 I0 E (do pure (Next.value (←Builtin.append_ #[t,t] ty #[ρ a1,ρ a2]))) k r:=fun hbv=>by
           subst hbv
           rw [V_b] at hs
           obtain ⟨s1,s2⟩:=hS.ghost (W:=Jc L e ye) Tk [] rfl rfl rfl (fun l _ hp=>(by cases hp)) (fun _ hp=>(by cases hp))
           have hW1:(E.H++[some (Jc L e ye)])[E.H.length]?=some (some (Jc L e ye)):=by simp
           have hs1:({ E with m:=iW E.m E.H.length ⟨0,0,false,[]⟩,H:=E.H++[some (Jc L e ye)] }:Env).V (.sl E.H.length 0) (ρ a1):=by
            rw [hs]
            simp only [Env.V,VR]
            refine ⟨⟨ye.size,by simp [VV,Jc]⟩,?_⟩
            rw [eb]
            simp
           have hx1:=s2.V (re _) hx
           have fin:∀ {vs:Value},Nxt P g B w0 I0 { E with m:=iW E.m E.H.length ⟨0,0,false,[]⟩,H:=E.H++[some (Jc L e ye)] } (do pure (Next.value (←Builtin.append_ #[t,t] ty #[ρ a1,vs]))) k r→Nxt P g B w0 I0 E (do pure (Next.value (←Builtin.append_ #[t,t] ty #[ρ a1,vs]))) k r:=fun {vs} hn=>by
            obtain ⟨av,v,E',D,h1,h2,h3,h4,h5⟩:=hn.out
            exact ⟨av,v,E',D,h1,(s2.weaken (D':=Option.getD D gj) (fun _ _=>rfl)).trans h2,h3,h4,h5⟩
           cases x with
           | sl r2 n2=>
            replace h:(match E.H[r2]? with
             | some (some W2)=>jV (Nat.beq W2.k ye.size) (Je (E.H++[some (Jc L e ye)]) E.H.length (Jc L e ye) ye 0 n2 W2.ex W2.pf k) none
             | _=>none)=some r:=h
            split at h
            · rename_i W2 hW2
              obtain ⟨hc2,h⟩:=ja h
              have hkk:W2.k=ye.size:=Nat.eq_of_beq_eq_true hc2
              have hk2:=hS.rows r2 W2 hW2
              have hx0:=hx
              simp only [Env.V,VR] at hx
              obtain ⟨⟨kk,hT⟩,hx⟩:=hx
              obtain ⟨rfl,rfl⟩:=si hW2 hT
              refine fin ?_
              by_cases hal:(E.m r2).al=true
              · rw [if_pos hal] at hx
                obtain ⟨c2,hv,hnc,_⟩:=hx
                rw [hv]
                obtain ⟨k1,k2,k3,arr,fz,k4,k5,k6,k6',k7⟩:=hk2.mem hal
                refine mt s1 hu' (hL _ ye hye) hW1 hs1 (fun h0=>⟨_,rfl,fun i hi=>(hk2.len i hi).trans hkk,fun i hi j x hx=>?_⟩) rfl hzs h
                obtain ⟨v,b1,b2,b3⟩:=k7 i hi j x hx
                refine ⟨v,?_,?_,b3⟩
                · rw [Gj,Nat.zero_add]
                  show E.w.cell? ⟨_,i*ye.size+j,none⟩=_
                  rw [←hkk]
                  simp [World.cell?,k4,b1]
                · unfold Fl at b2
                  cases hp:W2.pf with
                  | true=>rw [if_pos hp] at b2;exact VR.mono (fun _=>true) (fun b hb=>⟨hb,rfl⟩) x Ya Ya v (fun r p hp=>by simp [Ya] at hp) (.inl rfl) b2
                  | false=>rw [if_neg (by rw [hp];simp)] at b2;exact s2.V (re _) b2
              · rw [if_neg hal] at hx
                obtain ⟨⟨A0,hv,_⟩,hn⟩:=hx
                rw [hv]
                rw [hn] at h
                exact mt (A:=A0) (c2:=0) s1 hu' (hL _ ye hye) hW1 hs1 (fun h0=>absurd h0 (by omega)) rfl hzs h
            · exact da h
           | snap σ n2 ys=>
            replace h:jV (Nat.beq σ.size ye.size) (Je (E.H++[some (Jc L e ye)]) E.H.length (Jc L e ye) ye 0 n2 (.typ σ ys) true k) none=some r:=h
            obtain ⟨hc2,h⟩:=ja h
            have hkk:σ.size=ye.size:=Nat.eq_of_beq_eq_true hc2
            refine (show ∀ {vs:Value},ρ a2=vs→Nxt P g B w0 I0 E (do pure (Next.value (←Builtin.append_ #[t,t] ty #[ρ a1,vs]))) k r from fun {vs} hvs=>fin ?_) rfl
            rw [Env.V,Cj] at hx1
            obtain ⟨A,c2,hv,hnc,hx⟩:=hx1
            rw [←hvs,hv]
            refine mt s1 hu' (hL _ ye hye) hW1 hs1 (fun h0=>?_) rfl hzs h
            obtain ⟨ad,rfl,hsp,hb,hall⟩:=hx h0
            refine ⟨ad,rfl,fun i hi=>(hall i hi).1.trans hkk,fun i hi j x hx=>?_⟩
            obtain ⟨v,b1,b2,b3⟩:=Sz (hall i hi).2 j x hx
            exact ⟨v,by show E.w.cell? (ad.add (i*ye.size+j))=_;rw [←hkk];exact b1,b2,b3⟩
           | _=>exact da (show none=some r from h)
          cases bv with
          | slice A n c=>
           cases A with
           | some _=>cases x<;>exact da (show none=some r from h)
           | none=>
            cases n with
            | succ _=>cases x<;>exact da (show none=some r from h)
            | zero=>
             cases c with
             | succ _=>cases x<;>exact da (show none=some r from h)
             | zero=>exact nil_ rfl
          | _=>cases x<;>exact da (show none=some r from h)
         | _=>cases x<;>exact da (show none=some r from h)
       · exact da h
     · exact da h
   · exact da h
 · exact da h
theorem UJ (hS:St g B w0 I0 E) (hL:Za P L) {ev:Operand→AV} {ρ:Operand→Value} (hρ:∀ x,E.V (ev x) (ρ x)) {t:TypeId} {x hi mx:Operand} {lo:Option Operand} {k:AV→fa→Option (Nat→Bool)→Option R}
  (h:(match ec L t with
  | some y=>match y.u with
   | .slice e=>match ec L e with
    | some ye=>jV (YS (ev x)&&DS (lo.map ev)&&NJ (ev hi)&&NJ (ev mx)) (k (.sl E.H.length 0) (E.H++[some (Wq L e ye)]) none) none
    | none=>none
   | _=>none
  | none=>none)=some r):∃ av v E',St g B w0 I0 E'∧Ext gj E E'∧E'.V av v∧k av E'.H none=some r∧(Instr.sliceAt t (ρ x) (lo.map ρ) (some (ρ hi)) (some (ρ mx))).run P E.w=.ok v E'.w∧E'.w=E.w:=by
 have zA:∀ o,NJ (ev o)=true→∃ ki,ρ o=.int ki 0:=fun o ho=>by
  have:=hρ o
  unfold NJ at ho
  split at ho
  · rename_i ki he
    rw [he,V_b] at this
    exact ⟨ki,this⟩
  · cases ho
 split at h
 · rename_i y hy
   split at h
   · rename_i e hu
     have hu':P.underlying t=some (.slice e):=by rw [(hL t y hy).und,hu]
     split at h
     · rename_i ye hye
       obtain ⟨hc,h⟩:=ja h
       simp only [Bool.and_eq_true] at hc
       obtain ⟨⟨⟨h1,h2⟩,h3⟩,h4⟩:=hc
       obtain ⟨k3,e3⟩:=zA hi h3
       obtain ⟨k4,e4⟩:=zA mx h4
       have hsl:∃ A n c,ρ x=.slice A n c:=by
        have hx:=hρ x
        unfold YS at h1
        split at h1
        · rename_i he
          rw [he] at hx
          simp only [Env.V,VR] at hx
          obtain ⟨_,hx⟩:=hx
          split at hx
          · obtain ⟨c,hx,_⟩:=hx;exact ⟨_,_,_,hx⟩
          · obtain ⟨⟨A,hx,_⟩,_⟩:=hx;exact ⟨_,_,_,hx⟩
        · rename_i he
          rw [he,Env.V,Cj] at hx
          obtain ⟨A,c,hx,_⟩:=hx;exact ⟨_,_,_,hx⟩
        · rename_i he
          rw [he,V_b] at hx
          exact ⟨_,_,_,hx⟩
        · cases h1
       obtain ⟨A,n,c,e0⟩:=hsl
       obtain ⟨s1,s2⟩:=hS.ghostC (W:=Wq L e ye) Tk [] 1 (fun hc=>(by cases hc)) rfl rfl rfl (fun l _ hp=>(by cases hp)) (fun _ hp=>(by cases hp))
       refine ⟨_,.slice A 0 0,_,s1,s2,?_,h,?_,rfl⟩
       · simp only [Env.V,VR]
         refine ⟨⟨ye.size,by simp [VV,Wq,Jc]⟩,?_⟩
         rw [eb]
         simp
       · have sb:∀ (ki:IntKind) (y:Nat) (code:BoundsCode),(Instr.sliceBound (.int ki 0) y code).run P E.w=.ok 0 E.w:=fun ki y code=>by
          unfold Instr.sliceBound
          simp [asIntOf]
         have hb:(Instr.sliceBounds true n c (lo.map ρ) (some (.int k3 0)) (some (.int k4 0))).run P E.w=.ok (0,0,0) E.w:=by
          cases lo with
          | none=>simp [Instr.sliceBounds,sb]
          | some l=>
           obtain ⟨k2,e2⟩:=zA l h2
           simp [Instr.sliceBounds,sb,e2]
         rw [e0,e3,e4]
         unfold Instr.sliceAt
         simp only [Sem.run_bind,run_underlying hu',Result.andThen_ok,Instr.slice,hb]
         simp [gb (hL _ ye hye)]
     · exact da h
   · exact da h
 · exact da h
theorem nM {l:List Operand} {ev:Operand→AV} {x:AV} (h:l.map ev=[x]):∃ a,l=[a]∧ev a=x:=by
 rcases l with _ | ⟨a,_ | ⟨b,l⟩⟩<;>simp at h
 exact ⟨a,rfl,h⟩
theorem oM {l:List Operand} {ev:Operand→AV} {x y:AV} (h:l.map ev=[x,y]):∃ a b,l=[a,b]∧ev a=x∧ev b=y:=by
 rcases l with _ | ⟨a,_ | ⟨b,_ | ⟨c,l⟩⟩⟩<;>simp at h
 exact ⟨a,b,rfl,h⟩
theorem dA (hS:St g B w0 I0 E) (hL:Za P L) {ev:Operand→AV} {ρ:Operand→Value} (hρ:∀ x,E.V (ev x) (ρ x)) {c:Call} {ty:TypeId} {k:AV→fa→Option (Nat→Bool)→Option R}
  (h:(match c.args.toList.map ev with
   | [.sl r n]=>jV (Oq L ty&&bN E.H r) (k (.sp r n) E.H none) none
   | [.b (.slice none 0 0)]=>k (.b (.pointer none)) E.H none
   | _=>none)=some r):∃ av v E',St g B w0 I0 E'∧Ext gj E E'∧E'.V av v∧k av E'.H none=some r∧(Builtin.unsafeSliceData_ c.argTypes ty (c.args.map ρ)).run P E.w=.ok v E'.w∧Below E.w.heap.size E.w E'.w:=by
 split at h
 · rename_i r' n he
   obtain ⟨a,hl,ha⟩:=nM he
   have hca:c.args.map ρ= #[ρ a]:=by rw [←Array.toArray_toList (xs:=c.args),hl];simp
   rw [hca]
   obtain ⟨hc,h⟩:=ja h
   obtain ⟨hc,hnil⟩:=(Bool.and_eq_true _ _▸hc:_∧_)
   obtain ⟨e,i,hu,_⟩:=uD hL hc
   have hx:=hρ a
   rw [ha] at hx
   have hx0:=hx
   simp only [Env.V,VR] at hx
   obtain ⟨⟨kk,hT⟩,hx⟩:=hx
   obtain ⟨W,hW,hkn⟩:=ZG hT
   by_cases hal:(E.m r').al=true
   · rw [if_pos hal] at hx
     obtain ⟨c',hv,hnc,hcc⟩:=hx
     rw [hv]
     rcases Nat.eq_zero_or_pos c' with h0 | h0
     · subst h0
       obtain ⟨_,_,_,arr,fz,hh,_⟩:=(hS.rows r' W hW).mem hal
       have hrun:=Lib.run_unsafeSliceData_zero (P:=P) E.w c.argTypes ty e hu ⟨(E.m r').blk,0,none⟩ n (W.t,arr.size) (by simp [World.shape?,hh])
       have hbl:Below E.w.heap.size E.w (E.w.alloc (.view ⟨(E.m r').blk,0,none⟩ e)):=(Below.refl _ _).alloc (Nat.le_refl _) _
       obtain ⟨s1,s2⟩:=hS.grow (I':=E.I) hbl (fun b hb=>hb) (fun b hb=>.inl hb) (fun b hb=>Nat.lt_of_lt_of_le (hS.isz b hb) hbl.size)
       refine ⟨_,_,_,s1,s2,?_,h,hrun,hbl⟩
       simp only [Env.V,VR]
       exact ⟨⟨kk,hT⟩,_,rfl,fun hn=>by omega⟩
     · have hrun:=Lib.run_unsafeSliceData_row (P:=P) E.w c.argTypes ty ⟨(E.m r').blk,0,none⟩ n c' (by omega)
       refine ⟨_,_,E,hS,Ext.refl _ _,?_,h,hrun,Below.refl _ _⟩
       simp only [Env.V,VR]
       exact ⟨⟨kk,hT⟩,_,rfl,fun hn=>⟨hal,rfl⟩⟩
   · rw [if_neg hal] at hx
     obtain ⟨⟨A0,hv,hA0⟩,hn⟩:=hx
     have hcap:(E.m r').cap=0:=by
      unfold bN at hnil
      rw [hW] at hnil
      simp only [Bool.or_eq_true,Bool.not_eq_true'] at hnil
      rcases hnil with hnil | hnil
      · exact (hS.rows r' W hW).nn hnil (by simpa using hal)
      · exact absurd ((hS.rows r' W hW).al (.inr hnil)) hal
     rw [hv,hA0 hcap]
     refine ⟨_,_,E,hS,Ext.refl _ _,?_,h,Lib.run_unsafeSliceData_nil (P:=P) E.w c.argTypes ty 0 0,Below.refl _ _⟩
     simp only [Env.V,VR]
     exact ⟨⟨kk,hT⟩,_,rfl,fun h0=>by omega⟩
 · rename_i he
   obtain ⟨a,hl,ha⟩:=nM he
   have hca:c.args.map ρ= #[ρ a]:=by rw [←Array.toArray_toList (xs:=c.args),hl];simp
   rw [hca]
   have hx:=hρ a
   rw [ha,V_b] at hx
   rw [hx]
   exact ⟨_,_,E,hS,Ext.refl _ _,V_b.2 rfl,h,Lib.run_unsafeSliceData_nil (P:=P) E.w c.argTypes ty 0 0,Below.refl _ _⟩
 · exact da h
theorem bJ (hS:St g B w0 I0 E) (hL:Za P L) {ev:Operand→AV} {ρ:Operand→Value} (hρ:∀ x,E.V (ev x) (ρ x)) {c:Call} {ty:TypeId} {k:AV→fa→Option (Nat→Bool)→Option R}
  (h:(match c.args.toList.map ev with
   | [.sl r n]=>jV (Oq L ty&&bN E.H r) (k (.sp r n) E.H none) none
   | [.b (.slice none 0 0)]=>k (.b (.pointer none)) E.H none
   | _=>none)=some r):Nxt P g B w0 I0 E (do pure (Next.value (←Builtin.unsafeSliceData_ c.argTypes ty (c.args.map ρ)))) k r:=by
 obtain ⟨av,v,E',h1,h2,h3,h4,h5,_⟩:=dA hS hL hρ h
 exact ⟨av,v,E',none,h1,h2,h3,h4,.inl (nd h5)⟩
theorem qI (w:World):∀ (xs:List Int) (a:Addr) (acc:BA),(∀ (j:Nat) x,xs[j]?=some x→w.cell? (a.add j)=some (.int .u8 x))→
  (loadBytes a acc xs.length).run P w=.ok (xs.foldl (fun r c=>r.push (UInt8.ofNat c.toNat)) acc) w
 | [],a,acc,_=>by simp [loadBytes]
 | x::l,a,acc,h=>by
  have h0:w.cell? a=some (.int .u8 x):=by
   have:=h 0 x rfl
   simpa [Addr.add] using this
  have ih:=qI w l (a.add 1) (acc.push x.toNat.toUInt8) (fun j y hy=>by
   have:=h (j+1) y (by simpa using hy)
   have e:(a.add 1).add j=a.add (j+1):=by
    unfold Addr.add
    by_cases hj:j=0
    · subst hj;simp
    · simp [hj];omega
   rw [e];exact this)
  simp only [List.length_cons,loadBytes,Sem.run_bind,run_load,h0,Result.andThen,List.foldl_cons]
  exact ih
theorem RG (w:World) (pt it ty e:TypeId) (hp:P.underlying pt=some (.pointer e)) (hc:P.cellsOf e=1) (g cells:Nat) (hsh:w.shape? g=some (e,cells)) (xs:List Int) (h0:xs≠[]) (hn:xs.length≤cells) (h63:xs.length≤9223372036854775807)
  (hcell:∀ (j:Nat) x,xs[j]?=some x→w.cell? ((⟨g,0,none⟩:Addr).add j)=some (.int .u8 x)):
  (Builtin.unsafeString_ #[pt,it] ty #[.pointer (some ⟨g,0,none⟩),.int .i64 xs.length]).run P w=.ok (.string (xs.foldl (fun r c=>r.push (UInt8.ofNat c.toNat)) ByteArray.empty)) (w.freeze ⟨g,0,none⟩ xs.length):=by
 have hl:xs.length≠0:=by simpa using h0
 have hlb:=qI (P:=P) w xs ⟨g,0,none⟩ .empty hcell
 have hlies:=Lib.liesAt_bytes (P:=P) hc (cells / P.cellsOf e) xs.length (by rw [hc];simpa using hn)
 have h63':¬(9223372036854775807:Int)<(xs.length:Int):=by omega
 have hdef:Builtin.unsafeString_ #[pt,it] ty #[.pointer (some ⟨g,0,none⟩),.int .i64 xs.length]=
   (do
    let n ←asInt (.int .i64 xs.length)
    if n<0 then runtimePanic (.error "unsafe.String: len out of range")
    if n>IntKind.i64.max then unsupported (.unsafePointer "String: a length above the largest int")
    if n=0 then pure (.string .empty)
    else if ←variablesAt ⟨g,0,none⟩ (←elemOf pt) n.toNat then do
     let s ←loadBytes ⟨g,0,none⟩ .empty n.toNat
     freeze ⟨g,0,none⟩ n.toNat
     pure (.string s)
    else unsupported (.unsafePointer "String: not so many bytes at ptr")):=rfl
 rw [hdef]
 have hmax:IntKind.i64.max=9223372036854775807:=rfl
 have hneg:¬(xs.length:Int)<0:=by omega
 simp [asInt,asIntOf,hmax,h63',hneg,hl,variablesAt,hsh,elemOf,run_underlying hp,hlies,hlb]
theorem St.frz (h:St g B w0 I0 E) {r':Nat} {W:Row} (hW:E.H[r']?=some (some W)) (hal:(E.m r').al=true) (n:Nat):
  St g B w0 I0 { E with w:=E.w.freeze ⟨(E.m r').blk,0,none⟩ n,H:=wo E.H r' }∧Ext (fun q=>!(Nat.beq q r')) E { E with w:=E.w.freeze ⟨(E.m r').blk,0,none⟩ n,H:=wo E.H r' }:=by
 have hrl:r'<E.H.length:=(List.getElem?_eq_some_iff.1 hW).1
 have hget:∀ q,(wo E.H r')[q]?=if q=r' then some none else (Li (fun q=>!(Nat.beq q r')) E.H)[q]?:=fun q=>by
  unfold wo
  rw [List.getElem?_set]
  by_cases hq:q=r'
  · subst hq;rw [if_pos rfl,if_pos (by simpa [Li] using hrl),if_pos rfl]
  · rw [if_neg (Ne.symm hq),if_neg hq]
 have hback:∀ q V,(wo E.H r')[q]?=some (some V)→q≠r'∧∃ V0,E.H[q]?=some (some V0)∧V=jm (fun q=>!(Nat.beq q r')) V0:=fun q V' hV=>by
  rw [hget] at hV
  by_cases hq:q=r'
  · rw [if_pos hq] at hV;cases hV
  · rw [if_neg hq,Ec] at hV
    cases ho:E.H[q]? with
    | none=>rw [ho] at hV;cases hV
    | some o=>cases o with
     | none=>rw [ho] at hV;cases hV
     | some V=>rw [ho] at hV;exact ⟨hq,V,rfl,by simpa using hV.symm⟩
 obtain ⟨s1,s2⟩:=h.cut (D:=fun q=>!(Nat.beq q r')) (H':=wo E.H r') (fun q V' hV=>by
  obtain ⟨h1,V,h2,h3⟩:=hback q V' hV
  exact ⟨ne_iff.2 h1,V,h2,h3⟩) (fun q V hV hd=>by
  have hq:=ne_iff.1 hd
  rw [hget,if_neg hq,Ec,hV];rfl)
 obtain ⟨k1,k2,k3,arr,fz,k4,k5,_⟩:=(h.rows r' W hW).mem hal
 have hother:∀ b,b≠(E.m r').blk→(E.w.freeze ⟨(E.m r').blk,0,none⟩ n).heap[b]?=E.w.heap[b]?:=fun b hb=>by
  unfold World.freeze
  split
  · rfl
  · simp only [Array.getElem?_modify]
    rw [if_neg (Ne.symm hb)]
 have hsize:(E.w.freeze ⟨(E.m r').blk,0,none⟩ n).heap.size=E.w.heap.size:=by
  unfold World.freeze
  split
  · rfl
  · simp
 have hself:∃ fz',(E.w.freeze ⟨(E.m r').blk,0,none⟩ n).heap[(E.m r').blk]?=some (.cells arr W.t fz'):=by
  unfold World.freeze
  split
  · exact ⟨fz,k4⟩
  · simp only [Array.getElem?_modify,if_true,k4,Option.map_some]
    exact ⟨_,rfl⟩
 have hos:(E.w.freeze ⟨(E.m r').blk,0,none⟩ n).os=E.w.os∧(E.w.freeze ⟨(E.m r').blk,0,none⟩ n).tape=E.w.tape∧(E.w.freeze ⟨(E.m r').blk,0,none⟩ n).output=E.w.output:=by
  unfold World.freeze
  split<;>exact ⟨rfl,rfl,rfl⟩
 have hkept:Kept B w0 (E.w.freeze ⟨(E.m r').blk,0,none⟩ n):=h.below.trans ⟨hos.1,hos.2.1,hos.2.2,by omega,fun k hk=>hother k (fun e=>k1 (e▸hk)),fun k arr0 t0 fz0 hk=>by
  by_cases hb:k=(E.m r').blk
  · subst hb
    rw [k4] at hk
    cases hk
    obtain ⟨fz',hf⟩:=hself
    exact ⟨arr,fz',hf,rfl⟩
  · exact ⟨arr0,fz0,by rw [hother k hb];exact hk,rfl⟩⟩
 have hx:Ext gj { E with H:=wo E.H r' } { E with w:=E.w.freeze ⟨(E.m r').blk,0,none⟩ n,H:=wo E.H r' }:=⟨fun b hb=>⟨hb,hother b (fun e=>k2 (e▸hb))⟩,fun q p hp _=>⟨hp,rfl⟩⟩
 refine ⟨⟨hkept,h.hB,h.hn,h.gn,g.stab E.w _ ⟨hos.1,hos.2.1,hos.2.2,by rw [hsize];exact Nat.le_refl _,fun k hk=>hother k (fun e=>k1 (e▸h.hn k hk))⟩ h.glob,fun b hb=>by show b<_;rw [hsize];exact h.isz b hb,h.imono,h.ifresh,fun q V hV=>?_,s1.inj,s1.gse,s1.mp.same rfl rfl fun b es c hb h1 h2=>⟨hother b (fun e=>by
  have hb:E.w.heap[b]?=some (.map es c):=hb
  rw [e,k4] at hb;cases hb),h1,h2⟩⟩,s2.trans (hx.weaken (fun _ _=>rfl))⟩
 by_cases ha:(E.m q).al=true
 · obtain ⟨hq,V0,hV0,_⟩:=hback q V hV
   exact (s1.rows q V hV).ext hx rfl (hother _ (fun e=>hq (h.inj q r' V0 W hV0 hW ha hal e))) (fun h1 _=>h1) (.inr fun _ _ _ _ _=>re _) (fun _ _ _=>Sa _)
 · exact ⟨fun h1=>absurd ((s1.rows q V hV).al h1) ha,(s1.rows q V hV).len,(s1.rows q V hV).bx,fun l h0 hp hl=>hx.L (Sa l) ((s1.rows q V hV).gh l h0 hp hl),fun h1=>absurd h1 ha,(s1.rows q V hV).nn⟩
theorem oN {H:fa} {r:Nat} {W W':Row} (hW:H[r]?=some (some W)) (hk:W'.k=W.k) (hn:W'.n=W.n):VV (H.set r (some W'))=VV H:=by
 funext q
 unfold VV
 rw [List.getElem?_set]
 by_cases hq:r=q
 · subst hq
   rw [if_pos rfl,if_pos (List.getElem?_eq_some_iff.1 hW).1,hW]
   show some (W'.k,W'.n)=some (W.k,W.n)
   rw [hk,hn]
 · rw [if_neg hq]
theorem St.mark (h:St g B w0 I0 E) {r':Nat} {W:Row} (hW:E.H[r']?=some (some W)) (hal:(E.m r').al=true) (hcv:W.cv=false) (hmn:W.mn=false) {arr:Array Value} {t0:TypeId} {fz0:Nat×Nat} (harr:E.w.heap[(E.m r').blk]?=some (.cells arr t0 fz0)):
  St g B w0 I0 { E with w:=E.w.freeze ⟨(E.m r').blk,arr.size,none⟩ 1,H:=E.H.set r' (some { W with cv:=true }) }∧Ext gj E { E with w:=E.w.freeze ⟨(E.m r').blk,arr.size,none⟩ 1,H:=E.H.set r' (some { W with cv:=true }) }:=by
 obtain ⟨k1,k2,k3,arr1,fz,k4,k5,k6,k6',k7⟩:=(h.rows r' W hW).mem hal
 rw [harr] at k4
 have e4:=Obj.cells.inj (Option.some.inj k4)
 obtain ⟨e41,e42,e43⟩:=e4
 subst e41 e42 e43
 have hfz:fz0=(0,0):=k6' (by unfold Row.fzn;rw [hcv];rfl)
 subst hfz
 have hother:∀ b,b≠(E.m r').blk→(E.w.freeze ⟨(E.m r').blk,arr.size,none⟩ 1).heap[b]?=E.w.heap[b]?:=fun b hb=>by
  unfold World.freeze
  rw [if_neg (by decide)]
  simp only [Array.getElem?_modify]
  rw [if_neg (Ne.symm hb)]
 have hsize:(E.w.freeze ⟨(E.m r').blk,arr.size,none⟩ 1).heap.size=E.w.heap.size:=by
  unfold World.freeze
  rw [if_neg (by decide)]
  simp
 have hself:(E.w.freeze ⟨(E.m r').blk,arr.size,none⟩ 1).heap[(E.m r').blk]?=some (.cells arr W.t (arr.size,arr.size+1)):=by
  unfold World.freeze
  rw [if_neg (by decide)]
  simp only [Array.getElem?_modify,if_true,harr,Option.map_some]
  rfl
 have hos:(E.w.freeze ⟨(E.m r').blk,arr.size,none⟩ 1).os=E.w.os∧(E.w.freeze ⟨(E.m r').blk,arr.size,none⟩ 1).tape=E.w.tape∧(E.w.freeze ⟨(E.m r').blk,arr.size,none⟩ 1).output=E.w.output:=by
  unfold World.freeze
  rw [if_neg (by decide)]
  exact ⟨rfl,rfl,rfl⟩
 have hkept:Kept B w0 (E.w.freeze ⟨(E.m r').blk,arr.size,none⟩ 1):=h.below.trans ⟨hos.1,hos.2.1,hos.2.2,by omega,fun k hk=>hother k (fun e=>k1 (e▸hk)),fun k arr0 t0 fz0 hk=>by
  by_cases hb:k=(E.m r').blk
  · subst hb
    rw [harr] at hk
    cases hk
    exact ⟨arr,_,hself,rfl⟩
  · exact ⟨arr0,fz0,by rw [hother k hb];exact hk,rfl⟩⟩
 have ht:VV (E.H.set r' (some { W with cv:=true }))=VV E.H:=oN hW rfl rfl
 have hx:Ext gj E { E with w:=E.w.freeze ⟨(E.m r').blk,arr.size,none⟩ 1,H:=E.H.set r' (some { W with cv:=true }) }:=⟨fun b hb=>⟨hb,hother b (fun e=>k2 (e▸hb))⟩,fun q p hp _=>⟨by show VV (E.H.set r' (some { W with cv:=true })) q=_;rw [ht];exact hp,rfl⟩⟩
 have hget:∀ q V,(E.H.set r' (some { W with cv:=true }))[q]?=some (some V)→(q≠r'∧E.H[q]?=some (some V))∨(q=r'∧V={ W with cv:=true }):=fun q V hV=>by
  rw [List.getElem?_set] at hV
  by_cases hq:r'=q
  · subst hq
    rw [if_pos rfl,if_pos (List.getElem?_eq_some_iff.1 hW).1] at hV
    cases hV
    exact .inr ⟨rfl,rfl⟩
  · rw [if_neg hq] at hV
    exact .inl ⟨Ne.symm hq,hV⟩
 have old:∀ q V,(E.H.set r' (some { W with cv:=true }))[q]?=some (some V)→∃ V0,E.H[q]?=some (some V0):=fun q V hV=>by
  rcases hget q V hV with ⟨_,hV⟩ | ⟨hqr,_⟩
  · exact ⟨V,hV⟩
  · rw [hqr];exact ⟨W,hW⟩
 refine ⟨⟨hkept,h.hB,h.hn,h.gn,g.stab E.w _ ⟨hos.1,hos.2.1,hos.2.2,by rw [hsize];exact Nat.le_refl _,fun k hk=>hother k (fun e=>k1 (e▸h.hn k hk))⟩ h.glob,fun b hb=>by show b<_;rw [hsize];exact h.isz b hb,h.imono,h.ifresh,fun q V hV=>?_,fun q q' V V' hV hV' ha ha' hb=>?_,fun q V hV hz hp=>?_,h.mp.of (fun q V τ n xs hV hex=>?_) fun b es c hb h1 h2=>⟨hother b (fun e=>by rw [e,harr] at hb;cases hb),h1,h2⟩⟩,hx⟩
 rotate_left
 rotate_left
 rotate_left
 · rcases hget q V hV with ⟨_,hV⟩ | ⟨hqr,hV2⟩
   · exact ⟨(h.mp q V τ n xs hV hex).2.2.2.1,⟨V,hV,hex⟩,rfl⟩
   · subst hV2
     rw [hqr]
     exact ⟨(h.mp r' W τ n xs hW hex).2.2.2.1,⟨W,hW,hex⟩,rfl⟩
 · rcases hget q V hV with ⟨hq,hV⟩ | ⟨hqr,hV2⟩
   · by_cases ha:(E.m q).al=true
     · exact (h.rows q V hV).ext hx rfl (hother _ (fun e=>hq (h.inj q r' V W hV hW ha hal e))) (fun h1 _=>h1) (.inr fun _ _ _ _ _=>re _) (fun _ _ _=>Sa _)
     · exact ⟨fun h1=>absurd ((h.rows q V hV).al h1) ha,(h.rows q V hV).len,(h.rows q V hV).bx,fun l h0 hp hl=>hx.L (Sa l) ((h.rows q V hV).gh l h0 hp hl),fun h1=>absurd h1 ha,(h.rows q V hV).nn⟩
   · subst hV2
     rw [hqr]
     have hk0:=h.rows r' W hW
     refine ⟨hk0.al,hk0.len,hk0.bx,fun l h0 hp hl=>hx.L (Sa l) (hk0.gh l h0 hp hl),fun _=>⟨k1,k2,k3,arr,_,hself,k5,.inl (Nat.le_refl _),fun hf=>?_,fun i hi j x hxx=>?_⟩,fun h1=>by cases h1⟩
     · unfold Row.fzn at hf
       simp only [hmn] at hf
       cases hf
     · obtain ⟨v,h1,h2,h3⟩:=k7 i hi j x hxx
       exact ⟨v,h1,ow (W:=W) hx (.inr (re _)) h2,h3⟩
 · obtain ⟨V0,hV0⟩:=old q V hV
   obtain ⟨V1,hV1⟩:=old q' V' hV'
   exact h.inj q q' V0 V1 hV0 hV1 ha ha' hb
 · rcases hget q V hV with ⟨_,hV⟩ | ⟨hqr,hV2⟩
   · exact h.gse q V hV hz hp
   · subst hV2
     rw [hqr]
     exact h.gse r' W hW hz hp
theorem SQ (hS:St g B w0 I0 E) (hL:Za P L) {s e:TypeId} {ys ye:Ty} (hs:ec L s=some ys) (hu:ys.u=.slice e) (he:ec L e=some ye) (hue:ye.u=.int .u8) {r' n:Nat} {W:Row} (hW:E.H[r']?=some (some W)) {v:Value} (hv:E.V (.sl r' n) v)
  {k:AV→fa→Option (Nat→Bool)→Option R} (h:jV (Nat.blt 0 n&&!W.cv&&!W.mn) (k (.sl r' n) (E.H.set r' (some { W with cv:=true })) none) none=some r):
  Nxt P g B w0 I0 E (do pure (Next.value (←convert s s v))) k r:=by
 obtain ⟨hc,h⟩:=ja h
 simp only [Bool.and_eq_true,Bool.not_eq_true'] at hc
 obtain ⟨⟨hn,hcv⟩,hmn⟩:=hc
 have hn:0<n:=Nat.le_of_ble_eq_true hn
 have hv0:=hv
 simp only [Env.V,VR] at hv
 obtain ⟨⟨kk,hT⟩,hv⟩:=hv
 obtain ⟨rfl,rfl⟩:=si hW hT
 have hal:(E.m r').al=true:=(hS.rows r' W hW).al (.inl hn)
 rw [if_pos hal] at hv
 obtain ⟨c,rfl,_,_⟩:=hv
 obtain ⟨_,_,_,arr,fz,k4,_⟩:=(hS.rows r' W hW).mem hal
 obtain ⟨s1,s2⟩:=hS.mark hW hal hcv hmn k4
 have hsh:E.w.shape? (E.m r').blk=some (W.t,arr.size):=by unfold World.shape?;rw [k4]
 have hu':P.underlying s=some (.slice e):=by rw [(hL s ys hs).und,hu]
 have hue':P.underlying e=some (.int .u8):=by rw [(hL e ye he).und,hue]
 refine ⟨_,_,_,none,s1,s2,s2.V (re _) hv0,h,.inl ?_⟩
 simp [convert,run_underlying hu',run_underlying hue',markStringish,hsh]
theorem fN (hL:Za P L) {t e:TypeId} (h:jG L t e=true):P.underlying t=some (.pointer e)∧P.cellsOf e=1:=by
 unfold jG at h
 split at h
 · rename_i y hy
   split at h
   · rename_i e' hu
     rw [Bool.and_eq_true] at h
     have he:e'=e:=Nat.eq_of_beq_eq_true h.1
     subst he
     split at h
     · rename_i ye hye
       obtain ⟨i,hi,_,hs,_⟩:=(hL e' ye hye).info
       have h1:ye.size=1:=Nat.eq_of_beq_eq_true h.2
       exact ⟨by rw [(hL t y hy).und,hu],by simp [Program.cellsOf,hi,hs,h1]⟩
     · simp at h
   · cases h
 · cases h
theorem jE (hS:St g B w0 I0 E) (hL:Za P L) {ev:Operand→AV} {ρ:Operand→Value} (hρ:∀ x,E.V (ev x) (ρ x)) {c:Call} {ty:TypeId} {k:AV→fa→Option (Nat→Bool)→Option R}
  (h:(match c.args.toList.map ev,c.argTypes.toList with
   | [.sp r n,.b (.int .i64 m)],[t,_]=>jV (Oq L t) (match E.H[r]? with
    | some (some ⟨e,1,_,.typ (.int .u8) xs,_,true,_,_⟩)=>jV (jG L t e) (if m=(n:Int)∧m≤9223372036854775807 then k (.b (.string (IB n xs))) ((Li (fun q=>!(Nat.beq q r)) E.H).set r none) (some fun q=>!(Nat.beq q r)) else none) none
    | _=>none) none
   | [.b (.pointer none),.b (.int .i64 m)],[_,_]=>if m=0 then k (.b (.string ⟨#[]⟩)) E.H none else none
   | _,_=>none)=some r):Nxt P g B w0 I0 E (do pure (Next.value (←Builtin.unsafeString_ c.argTypes ty (c.args.map ρ)))) k r:=by
 split at h
 · rename_i r' n m t t2 he ht
   obtain ⟨a,b,hl,ha,hb⟩:=oM he
   have hca:c.args.map ρ= #[ρ a,ρ b]:=by rw [←Array.toArray_toList (xs:=c.args),hl];simp
   have hct:c.argTypes= #[t,t2]:=by rw [←Array.toArray_toList (xs:=c.argTypes),ht]
   rw [hca,hct]
   obtain ⟨_,h⟩:=ja h
   have hx:=hρ a
   have hy:=hρ b
   rw [ha] at hx
   rw [hb,V_b] at hy
   split at h
   · rename_i e nn xs mn bx cv hW
     obtain ⟨hc,h⟩:=ja h
     obtain ⟨hu,hc1⟩:=fN hL hc
     obtain ⟨⟨hm,hm63⟩,h'⟩:=Pd h
     clear h
     subst hm
     obtain ⟨zs,hzs⟩:∃ zs:Nat→Int,zs=xs:=⟨xs,rfl⟩
     simp only [Env.V,VR] at hx
     obtain ⟨⟨kk,hT⟩,p,hv,hp⟩:=hx
     have hkn:kk=1∧n=nn:=by simp only [VV,hW] at hT;cases hT;exact ⟨rfl,rfl⟩
     obtain ⟨rfl,rfl⟩:=hkn
     rw [hv,hy]
     rcases Nat.eq_zero_or_pos n with h0 | h0
     · subst h0
       obtain ⟨s1,s2⟩:=hS.freeze hW
       obtain ⟨s1,s2⟩:=hS.cut (D:=fun q=>!(Nat.beq q r')) (H':=wo E.H r') (fun q V' hV=>by
        have:(wo E.H r')[q]?=some (some V'):=hV
        unfold wo at this
        rw [List.getElem?_set] at this
        split at this
        · split at this<;>cases this
        · rename_i hq
          rw [Ec] at this
          cases ho:E.H[q]? with
          | none=>rw [ho] at this;cases this
          | some o=>cases o with
           | none=>rw [ho] at this;cases this
           | some V=>rw [ho] at this;exact ⟨ne_iff.2 (Ne.symm hq),V,rfl,by simpa using this.symm⟩) (fun q V hV hd=>by
        have hq:=ne_iff.1 hd
        show (wo E.H r')[q]?=_
        unfold wo
        rw [List.getElem?_set,if_neg (Ne.symm hq),Ec,hV];rfl)
       exact ⟨_,_,_,some fun q=>!(Nat.beq q r'),s1,s2,V_b.2 rfl,h',.inl (nd (Lib.run_unsafeString_none (P:=P) E.w t t2 ty p))⟩
     · obtain ⟨hal,rfl⟩:=hp h0
       have hk0:=hS.rows r' _ hW
       obtain ⟨k1,k2,k3,arr,fz,k4,k5,_,_,k7⟩:=hk0.mem hal
       obtain ⟨ys,hys⟩:∃ ys:List Int,ys=(List.range n).map zs:=⟨_,rfl⟩
       have hlen:ys.length=n:=by rw [hys];simp
       have hrun:=RG (P:=P) E.w t t2 ty e hu hc1 (E.m r').blk arr.size (by simp [World.shape?,k4]) ys (by intro e0;rw [e0] at hlen;simp at hlen;omega) (by rw [hlen,k5];simpa using k3) (by rw [hlen];omega) (fun j x hj=>by
        rw [hys,List.getElem?_map] at hj
        have hj':j<n:=by
         rcases Nat.lt_or_ge j n with h' | h'
         · exact h'
         · rw [List.getElem?_eq_none (by simpa using h')] at hj;cases hj
        rw [List.getElem?_range hj'] at hj
        have hj:zs j=x:=by simpa using hj
        rw [hzs] at hj
        subst hj
        obtain ⟨v,h1,h2,_⟩:=k7 j hj' 0 (.b (.int .u8 (xs j))) rfl
        simp only [Fl,VR] at h2
        subst h2
        rw [Gj,Nat.zero_add]
        simp only [Nat.mul_one,Nat.add_zero] at h1
        simp [World.cell?,k4,h1])
       rw [hlen,hys,hzs] at hrun
       obtain ⟨s1,s2⟩:=hS.frz hW hal n
       exact ⟨_,_,_,some fun q=>!(Nat.beq q r'),s1,s2,V_b.2 rfl,h',.inl (nd hrun)⟩
   · exact da h
 · rename_i m t t2 he ht
   obtain ⟨a,b,hl,ha,hb⟩:=oM he
   have hca:c.args.map ρ= #[ρ a,ρ b]:=by rw [←Array.toArray_toList (xs:=c.args),hl];simp
   have hct:c.argTypes= #[t,t2]:=by rw [←Array.toArray_toList (xs:=c.argTypes),ht]
   rw [hca,hct]
   have hx:=hρ a
   have hy:=hρ b
   rw [ha,V_b] at hx
   rw [hb,V_b] at hy
   rw [hx,hy]
   obtain ⟨rfl,h⟩:=Pd h
   exact ⟨_,_,E,none,hS,Ext.refl _ _,V_b.2 rfl,h,.inl (nd (Lib.run_unsafeString_none (P:=P) E.w t t2 ty none))⟩
 · exact da h
theorem eJ {R:Type} {r:R} {E0:Env} {ρ:Operand→Value} {ev:Operand→AV} {k:fa→(AV→AV)→(Nat→Bool)→Option R}:∀ (ps:List Operand) {E:Env} {f:AV→AV} {D:Nat→Bool},St g B w0 I0 E→(∀ o,E.V (f (ev o)) (ρ o))→Ext D E0 E→E.w=E0.w→
  JQ (ps.map ev) E.H f D k=some r→∃ E' f' D',St g B w0 I0 E'∧(∀ o,E'.V (f' (ev o)) (ρ o))∧Ext D' E0 E'∧E'.w=E0.w∧k E'.H f' D'=some r
 | [],E,f,D,hS,hρ,hx,hw,h=>⟨E,f,D,hS,hρ,hx,hw,h⟩
 | p::ps,E,f,D,hS,hρ,hx,hw,h=>by
  simp only [List.map_cons,JQ] at h
  split at h
  · rename_i q s hq
    unfold UV at hq
    split at hq
    · rename_i r' n he
      split at hq
      · rename_i W hW
        have hW:=rowAtH_some.1 hW
        split at hq
        · rename_i τ xs hex
          obtain ⟨hc,hq⟩:=ja hq
          rw [Bool.and_eq_true] at hc
          cases hq
          obtain ⟨s1,s2⟩:=hS.freeze hW
          have hs:∀ n v,E.V (.sl r' n) v→({ E with I:=fL E r',H:=wo E.H r' }:Env).V (.snap τ W.n xs) v:=fun n v hv=>by
           have hn:n=W.n:=by
            have:=hv
            simp only [Env.V,VR] at this
            obtain ⟨⟨kk,hT⟩,_⟩:=this
            exact (si hW hT).2
           subst hn
           exact Bj hS hW hex hc.1 (Nat.eq_of_beq_eq_true hc.2) hv
          exact eJ (f:=fun x=>vV r' (.snap τ W.n xs) (f x)) ps s1 (fun o=>cK s2 hs (f (ev o)) _ (hρ o)) ((hx.weaken (D':=fun q=>D q&&!(Nat.beq q r')) (fun q hq=>by rw [Bool.and_eq_true] at hq;exact hq.1)).trans (s2.weaken (fun q hq=>by rw [Bool.and_eq_true] at hq;exact hq.2))) hw h
        · cases hq
      · cases hq
    · cases hq
  · exact eJ ps hS hρ hx hw h
theorem eG {k:AV→fa→Option (Nat→Bool)→Option R} (hS:St g B w0 I0 E) (hL:Za P L) {ev:Operand→AV} {ρ:Operand→Value} (hρ:∀ x,E.V (ev x) (ρ x)) {t:TypeId} {len:Nat} {parts:Array (Nat×Operand)}
  (h:jV (parts.toList.any fun p=>ZS (ev p.2)) (JQ ((parts.toList.map Prod.snd).map ev) E.H (fun x=>x) (fun _=>true) fun H' f D=>fV L H' (fun o=>f (ev o)) t len parts fun v H'' D2=>match D2 with
   | none=>k v H'' (some D)
   | some _=>none) (fV L E.H ev t len parts k)=some r):Nxt P g B w0 I0 E (do pure (Next.value (←Instr.buildSlice t len (parts.map fun (i,x)=>(i,ρ x))))) k r:=by
 cases hc:(parts.toList.any fun p=>ZS (ev p.2)) with
 | false=>
  rw [hc,cnd_false] at h
  exact cA hS hL hρ h
 | true=>
  rw [hc,cnd_true] at h
  obtain ⟨E1,f,D,h1,h2,h3,h4,h5⟩:=eJ (E0:=E) (parts.toList.map Prod.snd) (f:=fun x=>x) (D:=fun _=>true) hS hρ (Ext.refl _ _) rfl h
  obtain ⟨av,v,E',D2,k1,k2,k3,k4,k5⟩:=(cA (P:=P) (k:=fun v H'' D2=>match D2 with
   | none=>k v H'' (some D)
   | some _=>none) h1 hL h2 (by unfold fV at h5;exact h5)).out
  cases D2 with
  | some _=>cases k4
  | none=>
   rw [h4] at k5
   exact ⟨av,v,E',some D,k1,h3.trans (k2.weaken fun _ _=>rfl),k3,k4,k5⟩
theorem XC (hS:St g B w0 I0 E) (hL:Za P L) (hP:PureOk P g Γ) (hG:CsOk P g Γ) {fr:List AV} {a:Act} (hfr:E.L fr a.tmps.toList) {o:Oper}
  {k:AV→fa→Option (Nat→Bool)→Option R} {pn:AV→fa→Option (Nat→Bool)→Option R} {next:Act→World→Prop} {Q:Exit→Act→World→Prop}
  (h:NV L Γ E.H (qV fr) o k pn=some r)
  (hk:∀ av v E' D,St g B w0 I0 E'→Ext (Option.getD D gj) E E'→E'.V av v→k av E'.H D=some r→next (a.put o.dst v) E'.w)
  (hp:∀ av v E' D,St g B w0 I0 E'→Ext (Option.getD D gj) E E'→E'.V av v→pn av E'.H D=some r→Q (.panic [{ v,recovered:=false }]) a E'.w):o.wp P a E.w next Q:=by
 have hρ:=Hq hfr
 have pure_:∀ {op:Op},o.op=op→PV L E.H (qV fr) op (fun v=>k v E.H none)=some r→o.wp P a E.w next Q:=fun {op} ho hh=>(eN (o:=o) hS hL hρ (by rw [ho];exact hh)).wp hk
 unfold NV at h
 split at h
 · rename_i ho
   split at h
   · rename_i y hy
     split at h
     · rename_i e hu
       split at h
       · rename_i ye hye
         refine Nxt.wp ?_ hk
         have:=dP (P:=P) (ye:=ye) (e:=e) hS h
         simpa [execOp,ho,Act.eval] using this
       · exact da h
     · exact da h
   · exact da h
 · rename_i t ho
   refine Nxt.wp ?_ hk
   have:=ZO (P:=P) hS hL h
   simpa [execOp,ho] using this
 · rename_i t x ho
   refine Nxt.wp ?_ hk
   have:=QS (P:=P) hS hL h (hρ x)
   simpa [execOp,ho] using this
 · rename_i t parts ho
   refine Nxt.wp ?_ hk
   have:=aP (P:=P) hS hL hρ h
   simpa [execOp,ho] using this
 · rename_i t len parts ho
   refine Nxt.wp ?_ hk
   refine (show Nxt P g B w0 I0 E (do pure (Next.value (←Instr.buildSlice t len (parts.map fun (i,x)=>(i,a.eval x))))) k r from ?_) |>fun this=>(by simpa [execOp,ho] using this)
   exact eG (P:=P) hS hL hρ h
 · rename_i t xa xb ho
   refine Nxt.wp ?_ hk
   have:=RQ (P:=P) hS hL h (hρ xa) (hρ xb)
   simpa [execOp,ho] using this
 · rename_i t ad x ho
   refine Nxt.wp ?_ hk
   have:=fP (P:=P) hS hL h (hρ ad) (rP (hρ x))
   simpa [execOp,ho] using this
 · rename_i s d x ho
   split at h
   · rename_i str he
     have hx:=hρ x
     rw [he,V_b] at hx
     split at h
     · rename_i us yd hs hd
       split at h
       · rename_i e hu
         have hu':P.underlying d=some (.slice e):=by rw [(hL d yd hd).und,hu]
         split at h
         · rename_i ye hye
           split at h
           · rename_i hue
             have hue':P.underlying e=some (.int .u8):=by rw [(hL e ye hye).und,hue]
             refine Nxt.wp ?_ hk
             have:=cP (P:=P) hS hL hs hu' hue' h
             simpa [execOp,ho,hx] using this
           · exact da h
         · exact da h
       · rename_i hu
         have hu':P.underlying d=some .string:=by rw [(hL d yd hd).und,hu]
         refine Nxt.wp ⟨_,_,E,none,hS,Ext.refl _ _,V_b.2 rfl,h,.inl ?_⟩ hk
         simp [execOp,ho,hx,convert,run_underlying (hL s us hs).und,run_underlying hu']
       · exact da h
     · exact da h
   · rename_i r' n he
     cases hsd:Nat.beq s d with
     | false=>rw [hsd,cnd_false,ho] at h;exact pure_ ho h
     | true=>
      rw [hsd,cnd_true] at h
      obtain rfl:=Nat.eq_of_beq_eq_true hsd
      have hx:=hρ x
      rw [he] at hx
      split at h
      · rename_i ys hys
        split at h
        · rename_i e hu
          split at h
          · rename_i ye W hye hW
            split at h
            · rename_i hue
              refine Nxt.wp ?_ hk
              have:=SQ (P:=P) hS hL hys hu hye hue hW hx h
              simpa [execOp,ho] using this
            · exact da h
          · exact da h
        · exact da h
      · exact da h
   · rw [ho] at h;exact pure_ ho h
 · rename_i c ho
   split at h
   · rename_i hc
     refine Nxt.wp ?_ hk
     have:=LL (P:=P) (ty:=o.type) hS hL hρ h
     obtain ⟨dst,op,type,pos,after,guard⟩:=o
     simp only at ho
     subst ho
     obtain ⟨callee,args,ats⟩:=c
     simp only at hc
     subst hc
     simpa [execOp,resolve,invoke,builtin] using this
   · rename_i f hc
     exact aL hS hP hG hfr ho hc h hk hp
   · rename_i hc
     refine Nxt.wp ?_ hk
     have:=bJ (P:=P) (ty:=o.type) hS hL hρ h
     obtain ⟨dst,op,type,pos,after,guard⟩:=o
     simp only at ho
     subst ho
     obtain ⟨callee,args,ats⟩:=c
     simp only at hc
     subst hc
     simpa [execOp,resolve,invoke,builtin] using this
   · rename_i hc
     refine Nxt.wp ?_ hk
     have:=jE (P:=P) (ty:=o.type) hS hL hρ h
     obtain ⟨dst,op,type,pos,after,guard⟩:=o
     simp only at ho
     subst ho
     obtain ⟨callee,args,ats⟩:=c
     simp only at hc
     subst hc
     simpa [execOp,resolve,invoke,builtin] using this
   · rw [ho] at h;exact pure_ ho h
 · rename_i t x lo hi ho
   split at h
   · rename_i r' n he
     refine Nxt.wp ?_ hk
     have:=eP (P:=P) hS hL hρ he h
     simpa [execOp,ho] using this
   · exact pure_ ho h
 · rename_i t x lo hi mx ho
   obtain ⟨av,v,E',h1,h2,h3,h4,h5,_⟩:=UJ (P:=P) hS hL hρ h
   have h6:Nxt P g B w0 I0 E (do pure (Next.value (←Instr.sliceAt t (a.eval x) (lo.map a.eval) (some (a.eval hi)) (some (a.eval mx))))) k r:=⟨av,v,E',none,h1,h2,h3,h4,.inl (nd h5)⟩
   refine Nxt.wp ?_ hk
   simpa [execOp,ho] using h6
 · rename_i x ho
   have hx:=hρ x
   split at h
   · rename_i t v he
     rw [he] at hx
     have hx0:=hx
     simp only [Env.V,VR] at hx
     obtain ⟨u,hv,_⟩:=hx
     unfold Oper.wp
     have:(execOp a.eval o).run P E.w=.halt (.panic (a.eval x)) E.w:=by simp [execOp,ho,hv,Instr.panic]
     rw [this,Oper.upon_panic]
     split at h
     · exact da h
     · exact hp _ _ E none hS (Ext.refl _ _) hx0 h
   · exact da h
 · rename_i ho
   rw [←ho] at h
   obtain ⟨av,v,E',h1,h2,h3,h4,h5,_⟩:=Xq (P:=P) (o:=o) hS hL hρ h
   exact (show Nxt P g B w0 I0 E (execOp a.eval o) k r from ⟨av,v,E',none,h1,h2,h3,h4,h5⟩).wp hk
 · rename_i ho
   rw [←ho] at h
   obtain ⟨av,v,E',h1,h2,h3,h4,h5,_⟩:=Xq (P:=P) (o:=o) hS hL hρ h
   exact (show Nxt P g B w0 I0 E (execOp a.eval o) k r from ⟨av,v,E',none,h1,h2,h3,h4,h5⟩).wp hk
 · rename_i ho
   rw [←ho] at h
   obtain ⟨av,v,E',h1,h2,h3,h4,h5,_⟩:=Xq (P:=P) (o:=o) hS hL hρ h
   exact (show Nxt P g B w0 I0 E (execOp a.eval o) k r from ⟨av,v,E',none,h1,h2,h3,h4,h5⟩).wp hk
 · exact pure_ rfl h
theorem TM (hS:St g B w0 I0 E) (hL:Za P L) {t:TypeId} {k:AV→fa→Option (Nat→Bool)→Option R} (h:(match ec L t with
  | some y=>jV (Nat.beq (zeroCells y).length y.size&&Nat.blt 0 y.size&&FA (zeroCells y)) (k (.ptr E.H.length 0 0) (E.H++[some (Pw L t y)]) none) none
  | none=>none)=some r):∃ av v E',St g B w0 I0 E'∧Ext gj E E'∧E'.V av v∧k av E'.H none=some r∧(Instr.alloc t true (.tuple #[])).run P E.w=.ok v E'.w∧Below E.w.heap.size E.w E'.w:=by
 split at h
 · rename_i y hy
   obtain ⟨hc,h⟩:=ja h
   simp only [Bool.and_eq_true] at hc
   have h1:(zeroCells y).length=y.size:=Nat.eq_of_beq_eq_true hc.1.1
   have h2:0<y.size:=by have:=Nat.le_of_ble_eq_true hc.1.2;omega
   obtain ⟨E',hS',hx,hH,hw,hv⟩:=CK hS (L:=L) (t:=t) h1 h2 hc.2
   refine ⟨_,_,E',hS',hx,hv,by rw [hH];exact h,?_,by rw [hw];exact (Below.refl _ _).alloc (Nat.le_refl _) _⟩
   unfold Instr.alloc
   rw [Sem.run_bind,Vc (hL t y hy)]
   simp only [Result.andThen_ok,Sem.run_bind,Cz,Sem.run_pure,hw]
 · exact da h
theorem xF (hS:St g B w0 I0 E) (hL:Za P L) (hP:PureOk P g Γ) (hG:CsOk P g Γ) {fr:List AV} {a:Act} (hfr:E.L fr a.tmps.toList) {o:Oper} (hg:TH Γ E.H (qV fr) o.op=true)
  {k:AV→fa→Option (Nat→Bool)→Option R} {pn:AV→fa→Option (Nat→Bool)→Option R} {next:Act→World→Prop} {Q:Exit→Act→World→Prop}
  (h:NV L Γ E.H (qV fr) o k pn=some r)
  (hk:∀ av v E' D,St g B w0 I0 E'→Ext (Option.getD D gj) E E'→E'.V av v→k av E'.H D=some r→Below E.w.heap.size E.w E'.w→next (a.put o.dst v) E'.w)
  (hp:∀ av v E' D,St g B w0 I0 E'→Ext (Option.getD D gj) E E'→E'.V av v→pn av E'.H D=some r→Q (.panic [{ v,recovered:=false }]) a E'.w):o.wp P a E.w next Q:=by
 have hρ:=Hq hfr
 obtain ⟨dst,op,type,pos,after,guard⟩:=o
 unfold TH at hg
 simp only at hg
 split at hg
 · rename_i c
   obtain ⟨callee,args,ats⟩:=c
   split at hg
   · rename_i hc
     simp only at hc
     subst hc
     obtain ⟨av,v,E',h1,h2,h3,h4,h5,h6⟩:=dA (P:=P) (L:=L) (c:=⟨.builtin .unsafeSliceData,args,ats⟩) (ty:=type) hS hL hρ h
     have h7:(execOp a.eval ⟨dst,.call ⟨.builtin .unsafeSliceData,args,ats⟩,type,pos,after,guard⟩).run P E.w=.ok (.value v) E'.w:=by
      have:=nd h5
      simpa [execOp,resolve,invoke,builtin] using this
     unfold Oper.wp
     rw [h7]
     exact hk av v E' none h1 h2 h3 h4 h6
   · rename_i f hc
     simp only at hc
     subst hc
     have h':PL Γ E.H (qV fr f) (args.toList.map (qV fr)) k pn=some r:=h
     have hf:=hρ f
     unfold PL at h'
     split at hg
     · rename_i fid cp he
       rw [he] at hf h'
       simp only at h'
       simp only [Env.V,VR] at hf
       obtain ⟨cap,hfv,hcap⟩:=hf
       have hargs:E.L (args.toList.map (qV fr)++cp) ((args.map a.eval)++cap).toList:=by
        rw [Array.toList_append,Array.toList_map]
        exact xo (JI (Hq hfr) _) hcap
       split at hg
       · rename_i F hres
         rw [hres] at h'
         simp only at h'
         obtain ⟨hen,hcall⟩:=hG.ans fid _ _ _ hres
         obtain ⟨out,h',hcall⟩:=hcall _ _ h'
         unfold Oper.wp
         rw [wt (c:=⟨.value f,args,ats⟩) rfl rfl hfv hen,Oper.upon_enter]
         have:=SM hS hargs (List.isEmpty_iff.1 hg) hcall h'
         rw [Array.toArray_toList] at this
         refine this.mono ?_
         rintro e w' ⟨v,av,E',D,rfl,h1,h2,h3,hb,⟨rfl,h4⟩ | ⟨rfl,h4⟩⟩
         · exact hk av v E' D h1 h2 h3 h4 hb
         · exact hp av v E' D h1 h2 h3 h4
       rename_i hg1
       have hfp:=hg
       rw [hg1] at h'
       simp only at h'
       rw [hfp] at h'
       simp only [Bool.not_true,Bool.and_false,cnd_false,cnd_true] at h'
       obtain ⟨hpv,h'⟩:=ja h'
       have hcall:=CH hS hP hfp hargs hpv h'
       unfold Oper.wp
       rw [wt (c:=⟨.value f,args,ats⟩) rfl rfl hfv (hP.enters fid hfp),Oper.upon_enter]
       refine hcall.mono ?_
       rintro e w' ⟨v,av,E',rfl,h1,h2,h3,h4,hb,⟨rfl,h5⟩ | ⟨rfl,h5⟩⟩
       · exact hk av v E' none h1 h2 h3 (by rw [h4];exact h5) hb
       · exact hp av v E' none h1 h2 h3 (by rw [h4];exact h5)
     · cases hg
   · cases hg
 · rename_i t ad
   have h':PV L E.H (qV fr) (.load t ad) (fun v=>k v E.H none)=some r:=h
   obtain ⟨av,v,hk',hv,hr⟩:=YC (P:=P) hL hS.rows hS.isz hρ (o:=⟨dst,.load t ad,type,pos,after,guard⟩) h'
   unfold Oper.wp
   rw [hr E.w (Below.refl _ _)]
   exact hk av v E none hS (Ext.refl _ _) hv hk' (Below.refl _ _)
 · rename_i t
   obtain ⟨av,v,E',h1,h2,h3,h4,h5,h6⟩:=TM (P:=P) (L:=L) (k:=k) hS hL h
   have h7:(execOp a.eval ⟨dst,.alloc t,type,pos,after,guard⟩).run P E.w=.ok (.value v) E'.w:=by
    have:=nd h5
    simpa [execOp] using this
   unfold Oper.wp
   rw [h7]
   exact hk av v E' none h1 h2 h3 h4 h6
 · rename_i t x lo hi mx
   obtain ⟨av,v,E',h1,h2,h3,h4,h5,hw⟩:=UJ (P:=P) (L:=L) (k:=k) hS hL hρ h
   have h7:(execOp a.eval ⟨dst,.slice t x lo (some hi) (some mx),type,pos,after,guard⟩).run P E.w=.ok (.value v) E'.w:=by
    have:=nd h5
    simpa [execOp] using this
   unfold Oper.wp
   rw [h7]
   exact hk av v E' none h1 h2 h3 h4 (by rw [hw];exact Below.refl _ _)
 · rename_i t
   obtain ⟨av,v,E',h1,h2,h3,h4,h5,h6⟩:=Xq (P:=P) (L:=L) (o:=⟨dst,.makeMap t none,type,pos,after,guard⟩) (k:=k) hS hL hρ h
   have h7:=hk av v E' none h1 h2 h3 h4 (h6 rfl)
   unfold Oper.wp
   rcases h5 with h5 | ⟨rfl,h5⟩
   · rw [h5];exact h7
   · rw [h5];exact h7
 · rename_i t x ix ok
   obtain ⟨av,v,E',h1,h2,h3,h4,h5,h6⟩:=Xq (P:=P) (L:=L) (o:=⟨dst,.lookup t x ix ok,type,pos,after,guard⟩) (k:=k) hS hL hρ h
   have h7:=hk av v E' none h1 h2 h3 h4 (h6 rfl)
   unfold Oper.wp
   rcases h5 with h5 | ⟨rfl,h5⟩
   · rw [h5];exact h7
   · rw [h5];exact h7
 · cases hg
end
open Go Go.RowKit
section
variable {P:Program} {L:YU} {g:Glob} {B:Nat→Prop} {w0:World} {I0:Nat→Prop} {R:Type} {r:R} {Γ:Callees R}
theorem tn {E:Env} {fr:List AV} {a:Act} (h:E.L fr a.tmps.toList) {av:AV} {v:Value} (hv:E.V av v) (d:Option Tmp):E.L (HI fr d av) (a.put d v).tmps.toList:=by
 cases d with
 | none=>exact h
 | some d=>
  simp only [HI,Act.put,Array.toList_setIfInBounds]
  refine gH (by simp only [List.length_set];exact Xd h) fun j x u hx hu=>?_
  rw [List.getElem?_set] at hx hu
  by_cases hj:d=j
  · subst hj
    have hl:=Xd h
    by_cases hd:d<fr.length
    · simp only [if_true,hd] at hx
      simp only [if_true,hl▸hd] at hu
      cases hx;cases hu;exact hv
    · simp only [if_true,hd,if_false] at hx
      cases hx
  · rw [if_neg hj] at hx hu
    obtain ⟨u',hu',hr⟩:=qd h j x hx
    rw [hu] at hu';cases hu';exact hr
theorem iH {E:Env} {fr:List AV} {vs:List Value} (h:E.L fr vs) {d:Nat} {v:Value} (hv:vs[d]?=some v) {x:AV} (hx:E.V x v):E.L (fr.set d x) vs:=by
 refine gH (by rw [List.length_set];exact Xd h) fun j y u hy hu=>?_
 rw [List.getElem?_set] at hy
 by_cases hj:d=j
 · subst hj
   rw [hv] at hu
   cases hu
   split at hy
   · split at hy
     · cases hy;exact hx
     · cases hy
   · rename_i hn;exact absurd rfl hn
 · rw [if_neg hj] at hy
   obtain ⟨u',hu',hr⟩:=qd h j y hy
   rw [hu] at hu';cases hu';exact hr
theorem de {E:Env} {ops:Array Oper} {fr:List AV} {o:Oper} {y n:List AV→Option R} {a:Act} (hfr:E.L fr a.tmps.toList) (h:jx ops fr o y n=some r):
  ∃ fr',E.L fr' a.tmps.toList∧((Region.wanted o (yielded ops a.tmps)=true∧y fr'=some r)∨(Region.wanted o (yielded ops a.tmps)=false∧n fr'=some r)):=by
 unfold jx at h
 unfold Region.wanted
 split at h
 · rename_i hg
   rw [hg]
   exact ⟨fr,hfr,.inl ⟨rfl,h⟩⟩
 · rename_i j b hg
   rw [hg]
   simp only
   split at h
   · rename_i d hd
     split at h
     · rename_i c hc
       obtain ⟨v,hv,hx⟩:=qd hfr d _ hc
       simp only [VR] at hx
       subst hx
       have hv0:=hv
       have hy:yielded ops a.tmps j=some c:=by
        rw [Array.getElem?_toList] at hv
        unfold yielded
        rw [hd]
        simp only [Option.bind_some]
        rw [hv]
       rw [hy]
       split at h
       · rename_i hcb
         subst hcb
         exact ⟨_,iH hfr hv0 (V_b.2 rfl),.inl ⟨by simp,h⟩⟩
       · rename_i hcb
         exact ⟨_,iH hfr hv0 (V_b.2 (by cases c<;>cases b<;>simp_all)),.inr ⟨by simpa using hcb,h⟩⟩
     · rename_i u hnb hc
       obtain ⟨v,hv,hx⟩:=qd hfr d _ hc
       simp only [VR] at hx
       subst hx
       have hy:yielded ops a.tmps j=none:=by
        rw [Array.getElem?_toList] at hv
        unfold yielded
        rw [hd]
        simp only [Option.bind_some]
        rw [hv]
        cases v with
        | bool c=>exact absurd rfl (hnb c)
        | _=>rfl
       rw [hy]
       exact ⟨fr,hfr,.inr ⟨rfl,h⟩⟩
     · exact da h
   · exact da h
theorem Wa (a:Act) (d:Option Tmp) (v:Value):(a.put d v).defers=a.defers:=by cases d<;>rfl
theorem Ko (hL:Za P L) (hP:PureOk P g Γ) (hG:CsOk P g Γ) {ops:Array Oper} {Q:Exit→Act→World→Prop} {ds:List Deferred} {k:List AV→fa→Option R} {pn:AV→List AV→fa→Option R}
  (hk:∀ fr (E:Env) (a:Act),St g B w0 I0 E→E.L fr a.tmps.toList→a.defers=ds→k fr E.H=some r→Q .normal a E.w)
  (hp:∀ av v fr (E:Env) (a:Act),St g B w0 I0 E→E.L fr a.tmps.toList→E.V av v→a.defers=ds→pn av fr E.H=some r→Q (.panic [{ v,recovered:=false }]) a E.w):
  ∀ (l:List Oper) (fr:List AV) (E:Env) (a:Act),St g B w0 I0 E→E.L fr a.tmps.toList→a.defers=ds→GC L Γ ops k pn l fr E.H=some r→wpList P ops Q l a E.w
 | [],fr,E,a,hS,hfr,hd,h=>hk fr E a hS hfr hd h
 | o::rest,fr,E,a,hS,hfr,hd,h=>by
  simp only [GC] at h
  unfold wpList
  obtain ⟨fr,hfr,⟨hw,h⟩ | ⟨hw,h⟩⟩:=de (a:=a) hfr h
  · rw [if_pos hw]
    refine .inl (XC hS hL hP hG hfr h (fun av v E' D hS' hx hv hh=>?_) (fun av v E' D hS' hx hv hh=>hp av v _ E' a hS' (by
     cases D with
     | none=>exact hx.L (Sa fr) hfr
     | some D=>exact hx.L (Df fr) (sn fr _ _ hfr)) hv hd hh))
    refine Ko hL hP hG hk hp rest _ E' _ hS' (tn ?_ hv o.dst) (by rw [Wa];exact hd) hh
    cases D with
    | none=>exact hx.L (Sa fr) hfr
    | some D=>exact hx.L (Df fr) (sn fr _ _ hfr)
  · rw [if_neg (by rw [hw];simp)]
    exact Ko hL hP hG hk hp rest _ E _ hS (tn hfr (V_b.2 rfl) o.dst) (by rw [Wa];exact hd) h
def YV:AV→Value
 | .b v=>v
 | .ifc t (.agg l)=>.iface t (.agg (l.map fun x=>match x with
  | .b v=>v
  | _=>undef).toArray)
 | .agg l=>.agg (l.map fun x=>match x with
  | .b v=>v
  | _=>undef).toArray
 | .tup l=>.tuple (l.map fun x=>match x with
  | .b v=>v
  | _=>undef).toArray
 | _=>undef
theorem ZJ {w:World} {I:Nat→Prop} {m:Nat→Info} {T:XU} {x:AV} {v:Value} (hf:gx x=true) (h:VR w I m T x v):v=YV x:=by
 have hl:∀ {l:List AV} {vs:List Value},(l.all fun x=>match x with
   | .b _=>true
   | _=>false)=true→LR w I m T l vs→vs=l.map fun x=>match x with
   | .b v=>v
   | _=>undef:=fun {l}=>by
  induction l with
  | nil=>intro vs _ h;cases vs<;>simp_all [LR]
  | cons y ys ih=>
   intro vs hall h
   cases vs with
   | nil=>simp [LR] at h
   | cons u us=>
    simp only [List.all_cons,Bool.and_eq_true] at hall
    simp only [LR] at h
    rw [ih hall.2 h.2]
    have h1:=hall.1
    have h2:=h.1
    cases y<;>simp at h1
    simp only [VR] at h2
    rw [h2];rfl
 cases x with
 | b u=>simp only [VR] at h;exact h
 | agg l=>simp only [VR] at h;obtain ⟨a,rfl,h⟩:=h;simp only [YV];rw [←hl hf h]
 | tup l=>simp only [VR] at h;obtain ⟨a,rfl,h⟩:=h;simp only [YV];rw [←hl hf h]
 | ifc t y=>
  cases y with
  | agg l=>simp only [VR] at h;obtain ⟨u,rfl,a,rfl,h⟩:=h;simp only [YV];rw [←hl hf h]
  | _=>simp [gx] at hf
 | _=>simp [gx] at hf
theorem St.at_ {E:Env} (h:St g B w0 I0 E) {w':World} (hw:Below E.w.heap.size E.w w'):St g B w0 I0 { E with w:=w' }∧Ext gj E { E with w:=w' }:=
 h.grow (I':=E.I) hw (fun b h=>h) (fun b h=>.inl h) (fun b hb=>Nat.lt_of_lt_of_le (h.isz b hb) hw.size)
theorem uM (hL:Za P L) (hP:PureOk P g Γ) {E:Env} (hS:St g B w0 I0 E) {fr:List AV} {a:Act} (hfr:E.L fr a.tmps.toList) {o:Oper} {k:AV→Option R} (h:QV L Γ E.H (qV fr) o k=some r):
  ∃ av v,k av=some r∧E.V av v∧∀ w',Below E.w.heap.size E.w w'→o.quietAt P a (fun w'=>Below E.w.heap.size E.w w') w' v:=by
 have pure_:PV L E.H (qV fr) o.op k=some r→∃ av v,k av=some r∧E.V av v∧∀ w',Below E.w.heap.size E.w w'→o.quietAt P a (fun w'=>Below E.w.heap.size E.w w') w' v:=fun h=>by
  obtain ⟨av,v,h1,h2,h3⟩:=YC hL hS.rows hS.isz (Hq hfr) h
  exact ⟨av,v,h1,h2,fun w' hw=>by unfold Oper.quietAt;rw [h3 w' hw];exact ⟨rfl,rfl⟩⟩
 unfold QV at h
 split at h
 · rename_i c ho
   split at h
   · rename_i f hc
     have hf:=Hq hfr f
     split at h
     · rename_i fid cp he
       rw [he] at hf
       simp only [Env.V,VR] at hf
       obtain ⟨cap,hfv,hcap⟩:=hf
       cases hxs:(Γ.xc fid).isSome with
       | true=>
        rw [hxs,cnd_true] at h
        have hargs:E.L (c.args.toList.map (qV fr)++cp) ((c.args.map a.eval)++cap).toList:=by
         rw [Array.toList_append,Array.toList_map]
         exact xo (JI (Hq hfr) _) hcap
        obtain ⟨av,v,h1,hV,h2⟩:=CO hP hargs h
        refine ⟨_,v,h1,hV,fun w' hw=>?_⟩
        unfold Oper.quietAt
        rw [qA ho hc hfv (by have:=h2 w';rwa [Array.toArray_toList] at this)]
        exact ⟨rfl,rfl⟩
       | false=>
       rw [hxs,cnd_false] at h
       obtain ⟨hcond,h⟩:=ja h
       rw [Bool.and_eq_true] at hcond
       have hargs:E.L (c.args.toList.map (qV fr)++cp) ((c.args.map a.eval)++cap).toList:=by
        rw [Array.toList_append,Array.toList_map]
        exact xo (JI (Hq hfr) _) hcap
       obtain ⟨av,hk,hpav,ha⟩:=(hP.ans fid _ _ _ r hcond.1 h).resolve_right (fun ⟨_,h,_⟩=>by cases h)
       obtain ⟨hfl,hk⟩:=ja hk
       have hflat:∀ {w:World} {I:Nat→Prop} {m:Nat→Info} {v:Value},VR w I m Ya av v→E.V av (YV av):=fun {w I m v} hv=>by
        have:=ZJ hfl hv
        subst this
        exact YJ hfl hv
       have hcalls:∀ w',Below E.w.heap.size E.w w'→Calls P fid ((c.args.map a.eval)++cap) w' (fun e w''=>e=.returned (YV av)∧Below E.w.heap.size E.w w''∧E.V av (YV av)):=fun w' hw=>by
        obtain ⟨s1,s2⟩:=hS.at_ hw
        have hv:=sy s1 (s2.L (Sa _) hargs)
        refine (ha w' (HQ w') _ (fun b h=>h) s1.glob s1.gbase (ES (HF hcond.2 hv))).mono ?_
        rintro e w'' ⟨v,I',rfl,hb,_,_,_,h4⟩
        exact ⟨by rw [ZJ (x:=av) hfl h4];rfl,hw.trans (hb.mono hw.size),hflat h4⟩
       have hVav:E.V av (YV av):=by
        cases av with
        | b v=>exact V_b.2 rfl
        | agg l=>
         simp only [Env.V,VR,YV]
         refine ⟨_,rfl,?_⟩
         simp only [List.toList_toArray]
         exact flat_list hfl
        | tup l=>
         simp only [Env.V,VR,YV]
         refine ⟨_,rfl,?_⟩
         simp only [List.toList_toArray]
         exact flat_list hfl
        | ifc t y=>
         cases y with
         | agg l=>
          simp only [Env.V,VR,YV]
          refine ⟨_,rfl,_,rfl,?_⟩
          simp only [List.toList_toArray]
          exact flat_list hfl
         | _=>simp [gx] at hfl
        | _=>simp [gx] at hfl
       refine ⟨av,YV av,hk,hVav,fun w' hw=>?_⟩
       unfold Oper.quietAt
       rw [wt ho hc hfv (hP.enters fid hcond.1)]
       exact ⟨rfl,(hcalls w' hw).mono fun e w'' hh=>⟨hh.1,hh.2.1⟩⟩
     · exact da h
   · exact pure_ h
 · exact pure_ h
where
 flat_list {w:World} {I:Nat→Prop} {m:Nat→Info} {T:XU}:∀ {l:List AV},(l.all fun x=>match x with
   | .b _=>true
   | _=>false)=true→LR w I m T l (l.map fun x=>match x with
   | .b v=>v
   | _=>undef)
  | [],_=>by simp [LR]
  | x::xs,h=>by
   simp only [List.all_cons,Bool.and_eq_true] at h
   simp only [List.map_cons,LR]
   refine ⟨?_,flat_list h.2⟩
   have h1:=h.1
   cases x<;>simp at h1
   simp [VR]
theorem ov (hL:Za P L) (hP:PureOk P g Γ) {ops:Array Oper} {Q:Act→Prop} {ds:List Deferred} {k:List AV→Option R} {E:Env} (hS:St g B w0 I0 E)
  (hk:∀ fr (a:Act),E.L fr a.tmps.toList→a.defers=ds→k fr=some r→Q a):
  ∀ (l:List Oper) (fr:List AV) (a:Act),E.L fr a.tmps.toList→a.defers=ds→XL L Γ E.H ops k l fr=some r→wpQuiet P ops (fun w'=>Below E.w.heap.size E.w w') Q l a
 | [],fr,a,hfr,hd,h=>hk fr a hfr hd h
 | o::rest,fr,a,hfr,hd,h=>by
  simp only [XL] at h
  unfold wpQuiet
  obtain ⟨fr,hfr,⟨hw,h⟩ | ⟨hw,h⟩⟩:=de (a:=a) hfr h
  · rw [if_pos hw]
    obtain ⟨av,v,h1,h2,h3⟩:=uM hL hP hS hfr h
    exact ⟨v,h3,ov hL hP hS hk rest _ _ (tn hfr h2 o.dst) (by rw [Wa];exact hd) h1⟩
  · rw [if_neg (by rw [hw];simp)]
    exact ov hL hP hS hk rest _ _ (tn hfr (V_b.2 rfl) o.dst) (by rw [Wa];exact hd) h
theorem Dg {pu:List Nat} (hL:Za P L) (hP:PureOk P g Γ) (hG:CsOk P g Γ) {ops:Array Oper} {dd:List Nat} {Q Q':Exit→Act→World→Prop} {ds:List Deferred} {k:List AV→fa→Option R} {pn:AV→List AV→fa→Option R} {W0:World}
  (hQ':∀ e a w,Q' e a w=match e with
   | .panic c=>∀ a':Act,a'.defers=a.defers→a'.tmps.size=a.tmps.size→Q (.panic c) a' w
   | e=>Q e a w)
  (hk:∀ fr (E:Env) (a:Act),St g B w0 I0 E→E.L fr a.tmps.toList→a.defers=ds→k fr E.H=some r→Q .normal a E.w)
  (hp:∀ av v fr (E:Env) (a:Act),St g B w0 I0 E→fr.length=a.tmps.size→E.V av v→a.defers=ds→pn av fr E.H=some r→Q (.panic [{ v,recovered:=false }]) a E.w):
  ∀ (m:Nat) (l:Array Bool) (fuel:Nat) (fr:List AV) (E:Env) (a:Act),m≤fuel→St g B w0 I0 E→E.L fr a.tmps.toList→a.defers=ds→HH L Γ ops dd pu k pn m l fr E.H=some r→
   PrintLast.wpAnyLast P .any ops Q' (fun w'=>Below W0.heap.size W0 w') dd fuel l a E.w
 | 0,l,fuel,fr,E,a,hfu,hS,hfr,hd,h=>by
  simp only [HH] at h
  obtain ⟨hr,h⟩:=ja h
  refine PrintLast.wpAnyLast_done (by simpa using hr) ?_ fuel
  rw [hQ']
  exact hk fr E a hS hfr hd h
 | m+1,l,0,fr,E,a,hfu,hS,hfr,hd,h=>by omega
 | m+1,l,fuel+1,fr,E,a,hfu,hS,hfr,hd,h=>by
  have hfu':m≤fuel:=by omega
  simp only [HH] at h
  cases hre:(Region.ready .any ops l==[]) with
  | true=>
   rw [hre,cnd_true] at h
   refine PrintLast.wpAnyLast_done (by simpa using hre) ?_ (fuel+1)
   rw [hQ']
   exact hk fr E a hS hfr hd h
  | false=>
  rw [hre,cnd_false] at h
  split at h
  · rename_i i hfi
    split at h
    · cases h
    · rename_i o ho
      obtain ⟨hc,h⟩:=ja h
      rw [Bool.and_eq_true] at hc
      have hQp:∀ (v:Value) c a w,Q' (.panic c) (a.put o.dst v) w→Q' (.panic c) a w:=fun v c a w hh=>by
       rw [hQ'] at hh ⊢
       exact fun a' ha' hs'=>hh a' (by rw [ha',Wa]) (by rw [hs'];cases o.dst<;>simp [Act.put])
      have hrd:aR o.op=false:=by simpa using hc.2
      obtain ⟨fr,hfr,⟨hw,h⟩ | ⟨hw,h⟩⟩:=de (a:=a) hfr h
      · obtain ⟨av,v,h1,h2,h3⟩:=rt hL hS.rows hS.isz (fun _=>True) (Hq hfr) (fun hh=>by rw [hrd] at hh;cases hh) h
        exact PrintLast.pure_ (l.setIfInBounds i true) ho rfl hc.1 (hQp v) (.inl ⟨hw,fun w=>h3 w trivial⟩) rfl (Dg hL hP hG hQ' hk hp m _ fuel _ E _ hfu' hS (tn hfr h2 o.dst) (by rw [Wa];exact hd) h1)
      · exact PrintLast.pure_ (l.setIfInBounds i true) ho rfl hc.1 (hQp undef) (.inr ⟨hw,rfl⟩) rfl (Dg hL hP hG hQ' hk hp m _ fuel _ E _ hfu' hS (tn hfr (V_b.2 rfl) o.dst) (by rw [Wa];exact hd) h)
  · refine ⟨fun hr=>?_,fun i hi=>?_⟩
    · rw [hr] at hre;cases hre
    · have h:=xH h _ (List.mem_map_of_mem hi)
      split at h
      · cases h
      · rename_i o ho
        unfold wpOp
        rw [ho]
        simp only
        obtain ⟨fr,hfr,⟨hw,h⟩ | ⟨hw,h⟩⟩:=de (a:=a) hfr h
        · rw [if_pos hw]
          obtain ⟨hc,h⟩:=ja h
          cases hin:dd.contains i with
          | true=>
           have hin':i∈dd:=by simpa using hin
           refine .inl (XC hS hL hP hG hfr h (fun av v E' D hS' hx hv hh=>⟨fun hn=>absurd hin' hn,?_⟩) (fun av v E' D hS' hx hv hh=>?_))
           · refine Dg hL hP hG hQ' hk hp m _ fuel _ E' _ hfu' hS' (tn ?_ hv o.dst) (by rw [Wa];exact hd) hh
             cases D with
             | none=>exact hx.L (Sa fr) hfr
             | some D=>exact hx.L (Df fr) (sn fr _ _ hfr)
           · rw [hQ']
             exact fun a' ha' hs'=>hp av v _ E' a' hS' (by rw [hs',←Array.length_toList,←Xd hfr];cases D<;>simp [CL,km]) hv (by rw [ha'];exact hd) hh
          | false=>
           have hg:TH Γ E.H (qV fr) o.op=true:=by rw [hin] at hc;simpa using hc
           refine .inl (xF hS hL hP hG hfr hg h (fun av v E' D hS' hx hv hh hb=>⟨fun _ hS0=>Below.trans hS0 (hb.mono (Below.size hS0)),?_⟩) (fun av v E' D hS' hx hv hh=>?_))
           · refine Dg hL hP hG hQ' hk hp m _ fuel _ E' _ hfu' hS' (tn ?_ hv o.dst) (by rw [Wa];exact hd) hh
             cases D with
             | none=>exact hx.L (Sa fr) hfr
             | some D=>exact hx.L (Df fr) (sn fr _ _ hfr)
           · rw [hQ']
             exact fun a' ha' hs'=>hp av v _ E' a' hS' (by rw [hs',←Array.length_toList,←Xd hfr];cases D<;>simp [CL,km]) hv (by rw [ha'];exact hd) hh
        · rw [if_neg (by rw [hw];simp)]
          exact ⟨fun _ h=>h,Dg hL hP hG hQ' hk hp m _ fuel _ E _ hfu' hS (tn hfr (V_b.2 rfl) o.dst) (by rw [Wa];exact hd) h⟩
theorem zd (hL:Za P L) (hP:PureOk P g Γ) (hG:CsOk P g Γ) {ops:Array Oper} {dd:List Nat} {Q Q':Exit→Act→World→Prop} {ds:List Deferred} {k:List AV→fa→Option R} {pn:AV→List AV→fa→Option R} {W0:World}
  (hQ':∀ e a w,Q' e a w=match e with
   | .panic c=>∀ a':Act,a'.defers=a.defers→a'.tmps.size=a.tmps.size→Q (.panic c) a' w
   | e=>Q e a w)
  (hk:∀ fr (E:Env) (a:Act),St g B w0 I0 E→E.L fr a.tmps.toList→a.defers=ds→k fr E.H=some r→Q .normal a E.w)
  (hp:∀ av v fr (E:Env) (a:Act),St g B w0 I0 E→fr.length=a.tmps.size→E.V av v→a.defers=ds→pn av fr E.H=some r→Q (.panic [{ v,recovered:=false }]) a E.w):
  ∀ (s:List (Nat×Nat)) (eff:Bool) (l:Array Bool) (fuel:Nat) (fr:List AV) (E:Env) (a:Act),s.length≤fuel→(eff=false→E.w=W0)→St g B w0 I0 E→E.L fr a.tmps.toList→a.defers=ds→kE L Γ ops dd k pn s eff l fr E.H=some r→
   PrintLast.wpAnyLast P .any ops Q' (fun w'=>Below W0.heap.size W0 w') dd fuel l a E.w
 | [],eff,l,fuel,fr,E,a,hfu,he,hS,hfr,hd,h=>by
  simp only [kE] at h
  obtain ⟨hr,h⟩:=ja h
  refine PrintLast.wpAnyLast_done (by simpa using hr) ?_ fuel
  rw [hQ']
  exact hk fr E a hS hfr hd h
 | (i,md)::rest,eff,l,0,fr,E,a,hfu,he,hS,hfr,hd,h=>by simp at hfu
 | (i,md)::rest,eff,l,fuel+1,fr,E,a,hfu,he,hS,hfr,hd,h=>by
  have hfu':rest.length≤fuel:=by simpa using hfu
  simp only [kE] at h
  cases hm5:(Nat.beq md 5 || Nat.beq md 8) with
  | true=>
   rw [hm5,cnd_true] at h
   exact Dg hL hP hG hQ' hk hp (rest.length+1) l (fuel+1) fr E a (by omega) hS hfr hd h
  | false=>
  rw [hm5,cnd_false] at h
  split at h
  · cases h
  · rename_i o ho
    cases hmd:Nat.beq md 2 with
    | true=>
     rw [hmd,cnd_true] at h
     obtain ⟨hc,h⟩:=ja h
     rw [Bool.and_eq_true] at hc
     refine PrintLast.last_ (l.setIfInBounds i true) ho rfl hc.1 (by simpa using hc.2) fun K hK=>?_
     obtain ⟨fr,hfr,⟨hw,h⟩ | ⟨hw,h⟩⟩:=de (a:=a) hfr h
     · rw [if_pos hw]
       refine XC hS hL hP hG hfr h (fun av v E' D hS' hx hv hh=>hK _ _ ?_) (fun av v E' D hS' hx hv hh=>?_)
       · refine zd hL hP hG hQ' hk hp rest true _ fuel _ E' _ hfu' (fun h=>by cases h) hS' (tn ?_ hv o.dst) (by rw [Wa];exact hd) hh
         cases D with
         | none=>exact hx.L (Sa fr) hfr
         | some D=>exact hx.L (Df fr) (sn fr _ _ hfr)
       · rw [hQ']
         exact fun a' ha' hs'=>hp av v _ E' a' hS' (by rw [hs',←Array.length_toList,←Xd hfr];cases D<;>simp [CL,km]) hv (by rw [ha'];exact hd) hh
     · rw [if_neg (by rw [hw];simp)]
       exact hK _ _ (zd hL hP hG hQ' hk hp rest true _ fuel _ E _ hfu' (fun h=>by cases h) hS (tn hfr (V_b.2 rfl) o.dst) (by rw [Wa];exact hd) h)
    | false=>
     rw [hmd,cnd_false] at h
     cases hm3:Nat.beq md 3 with
     | true=>
      rw [hm3,cnd_true] at h
      obtain ⟨hc,h⟩:=ja h
      rw [Bool.and_eq_true] at hc
      obtain ⟨c1,_⟩:=hc
      simp only [PrintLast.readyB,Bool.and_eq_true,beq_iff_eq] at c1
      refine PrintLast.wpAnyLast_all c1.1 (by simp) fun j hj=>?_
      have hj':j=i:=List.mem_singleton.mp hj
      subst hj'
      unfold wpOp
      rw [ho]
      simp only
      obtain ⟨fr,hfr,⟨hw,h⟩ | ⟨hw,h⟩⟩:=de (a:=a) hfr h
      · rw [if_pos hw]
        obtain ⟨hg,h⟩:=ja h
        refine .inl (xF hS hL hP hG hfr hg h (fun av v E' D hS' hx hv hh hb=>⟨fun _ hS0=>Below.trans hS0 (hb.mono (Below.size hS0)),?_⟩) (fun av v E' D hS' hx hv hh=>?_))
        · refine zd hL hP hG hQ' hk hp rest true _ fuel _ E' _ hfu' (fun h=>by cases h) hS' (tn ?_ hv o.dst) (by rw [Wa];exact hd) hh
          cases D with
          | none=>exact hx.L (Sa fr) hfr
          | some D=>exact hx.L (Df fr) (sn fr _ _ hfr)
        · rw [hQ']
          exact fun a' ha' hs'=>hp av v _ E' a' hS' (by rw [hs',←Array.length_toList,←Xd hfr];cases D<;>simp [CL,km]) hv (by rw [ha'];exact hd) hh
      · rw [if_neg (by rw [hw];simp)]
        exact ⟨fun _ h=>h,zd hL hP hG hQ' hk hp rest true _ fuel _ E _ hfu' (fun h=>by cases h) hS (tn hfr (V_b.2 rfl) o.dst) (by rw [Wa];exact hd) h⟩
     | false=>
     rw [hm3,cnd_false] at h
     obtain ⟨hc,h⟩:=ja h
     have hQp:∀ (v:Value) c a w,Q' (.panic c) (a.put o.dst v) w→Q' (.panic c) a w:=fun v c a w hh=>by
      rw [hQ'] at hh ⊢
      exact fun a' ha' hs'=>hh a' (by rw [ha',Wa]) (by rw [hs'];cases o.dst<;>simp [Act.put])
     cases hm0:Nat.beq md 0 with
     | true=>
      rw [hm0,cnd_true,Bool.and_eq_true] at hc
      have hrd:aR o.op=false:=by simpa using hc.2
      obtain ⟨fr,hfr,⟨hw,h⟩ | ⟨hw,h⟩⟩:=de (a:=a) hfr h
      · obtain ⟨av,v,h1,h2,h3⟩:=rt hL hS.rows hS.isz (fun _=>True) (Hq hfr) (fun hh=>by rw [hrd] at hh;cases hh) h
        exact PrintLast.pure_ (l.setIfInBounds i true) ho rfl hc.1 (hQp v) (.inl ⟨hw,fun w=>h3 w trivial⟩) rfl (zd hL hP hG hQ' hk hp rest eff _ fuel _ E _ hfu' he hS (tn hfr h2 o.dst) (by rw [Wa];exact hd) h1)
      · exact PrintLast.pure_ (l.setIfInBounds i true) ho rfl hc.1 (hQp undef) (.inr ⟨hw,rfl⟩) rfl (zd hL hP hG hQ' hk hp rest eff _ fuel _ E _ hfu' he hS (tn hfr (V_b.2 rfl) o.dst) (by rw [Wa];exact hd) h)
     | false=>
      rw [hm0,cnd_false,Bool.and_eq_true] at hc
      have hef:eff=false:=by simpa using hc.2
      have hW:=he hef
      have hS0:Below W0.heap.size W0 E.w:=by rw [hW];exact Below.refl _ _
      obtain ⟨fr,hfr,⟨hw,h⟩ | ⟨hw,h⟩⟩:=de (a:=a) hfr h
      · obtain ⟨av,v,h1,h2,h3⟩:=rt hL hS.rows hS.isz (fun w'=>Below W0.heap.size W0 w') (Hq hfr) (fun _ w hh=>by rw [hW];exact hh) h
        exact PrintLast.take_ (l.setIfInBounds i true) ho rfl hc.1 (hQp v) (.inl ⟨hw,h3⟩) hS0 rfl (zd hL hP hG hQ' hk hp rest eff _ fuel _ E _ hfu' he hS (tn hfr h2 o.dst) (by rw [Wa];exact hd) h1)
      · exact PrintLast.take_ (l.setIfInBounds i true) ho rfl hc.1 (hQp undef) (.inr ⟨hw,rfl⟩) hS0 rfl (zd hL hP hG hQ' hk hp rest eff _ fuel _ E _ hfu' he hS (tn hfr (V_b.2 rfl) o.dst) (by rw [Wa];exact hd) h)
structure KOK (P:Program) (g:Glob) (B:Nat→Prop) (w0:World) (I0:Nat→Prop) (ds:List Deferred) (Q:Exit→Act→World→Prop) (k:XE→List AV→fa→Option R) (r:R):Prop where
 nrm:∀ fr (E:Env) (a:Act),St g B w0 I0 E→E.L fr a.tmps.toList→a.defers=ds→k .normal fr E.H=some r→Q .normal a E.w
 ext:∀ id fr (E:Env) (a:Act),St g B w0 I0 E→E.L fr a.tmps.toList→a.defers=ds→k (.exit id) fr E.H=some r→Q (.exit id) a E.w
 ret:∀ fr (E:Env) (a:Act),St g B w0 I0 E→E.L fr a.tmps.toList→a.defers=ds→k .ret fr E.H=some r→Q .ret a E.w
 pan:∀ av v fr (E:Env) (a:Act),St g B w0 I0 E→E.L fr a.tmps.toList→E.V av v→a.defers=ds→k (.panic av) fr E.H=some r→Q (.panic [{ v,recovered:=false }]) a E.w
theorem kM {E:Env} (i:Nat) {x:AV} {v:Value} (h:E.V x v):∀ hs:List (Nat×Option CTy),E.V (lL hs i x) v
 | []=>by simp [lL,Env.V,VR]
 | (j,o)::hs=>by
  simp only [lL]
  cases Nat.beq j i with
  | true=>
   cases o with
   | none=>exact h
   | some τ=>exact tG h
  | false=>exact kM i h hs
theorem kJ {E:Env} (live:List (Nat×Option CTy)):∀ (i:Nat) (fr:List AV) (vs:List Value),E.L fr vs→E.L (xx live i fr) vs
 | _,[],vs,h=>by simpa only [xx] using h
 | _,_::_,[],h=>by simp [Env.L,LR] at h
 | i,x::xs,v::vs,h=>by
  simp only [Env.L,LR] at h
  simp only [xx,Env.L,LR]
  exact ⟨kM i h.1 live,kJ live (i+1) xs vs h.2⟩
theorem Mv {E:Env} (hS:St g B w0 I0 E) {fr:List AV} {vs:List Value} (hfr:E.L fr vs) {live:List (Nat×Option CTy)} {k:List AV→fa→Option R} (h:MM live fr E.H k=some r):
  ∃ fr' E',St g B w0 I0 E'∧E'.L fr' vs∧E'.w=E.w∧k fr' E'.H=some r∧∀ x v,ao x=true→E.V x v→E'.V x v:=by
 have hn:(xV (xx live 0 fr) E.H).Nodup:=Vh (Yj _ _)
 exact ⟨_,YB E (xV (xx live 0 fr) E.H),hS.gc hn,Ut (fun b hb=>⟨hb,rfl⟩) _ _ _ vs (fun r p q hT hq=>Pl hT hq) (kJ live 0 fr vs hfr),rfl,h,fun x v hp hv=>yo (NS (aC hp hv))⟩
theorem gN:∀ x:AV,ao (kd (fun _=>false) x)=true:=fun x=>QE x
theorem zP {H:fa} {r:Nat} {W W':Row} (hW:H[r]?=some (some W)) (hk:W'.k=W.k) (hn:W'.n=W.n):VV (H.set r (some W'))=VV H:=by
 funext q
 unfold VV
 rw [List.getElem?_set]
 by_cases hq:r=q
 · subst hq
   rw [if_pos rfl,if_pos (List.getElem?_eq_some_iff.1 hW).1,hW]
   show some (W'.k,W'.n)=some (W.k,W.n)
   rw [hk,hn]
 · rw [if_neg hq]
theorem St.red {E:Env} (h:St g B w0 I0 E) {r:Nat} {W:Row} (hW:E.H[r]?=some (some W)) (hk:0<W.k) (hbx:W.box=true) {l:List AV} (hl:W.ex=.box l) {j:Nat} {x:AV}
  (hx:∀ v,(∃ arr fz,E.w.heap[(E.m r).blk]?=some (.cells arr W.t fz)∧arr[j]?=some v)→E.V x v):
  St g B w0 I0 { E with H:=OE E.H r W l j x }∧Ext gj E { E with H:=OE E.H r W l j x }:=by
 have ht:VV (OE E.H r W l j x)=VV E.H:=zP hW rfl rfl
 have hx':Ext gj E { E with H:=OE E.H r W l j x }:=⟨fun b hb=>⟨hb,rfl⟩,fun q p hp _=>⟨by show VV (OE E.H r W l j x) q=_;rw [ht];exact hp,rfl⟩⟩
 have hget:∀ q V,(OE E.H r W l j x)[q]?=some (some V)→(q≠r∧E.H[q]?=some (some V))∨(q=r∧V={ W with ex:=.box (l.set j x),pf:=false }):=fun q V hV=>by
  unfold OE at hV
  rw [List.getElem?_set] at hV
  by_cases hq:r=q
  · subst hq
    rw [if_pos rfl,if_pos (List.getElem?_eq_some_iff.1 hW).1] at hV
    cases hV
    exact .inr ⟨rfl,rfl⟩
  · rw [if_neg hq] at hV
    exact .inl ⟨Ne.symm hq,hV⟩
 have hk0:=h.rows r W hW
 refine ⟨⟨h.below,h.hB,h.hn,h.gn,h.glob,h.isz,h.imono,h.ifresh,fun q V hV=>?_,fun q q' V V' hV hV' ha ha' hb=>?_,fun q V hV hz hp=>?_,h.mp.of (fun q V τ n xs hV hex=>?_) fun b es c hb h1 h2=>⟨rfl,h1,h2⟩⟩,hx'⟩
 rotate_left
 rotate_left
 rotate_left
 · rcases hget q V hV with ⟨_,hV⟩ | ⟨hqr,hV2⟩
   · exact ⟨(h.mp q V τ n xs hV hex).2.2.2.1,⟨V,hV,hex⟩,rfl⟩
   · subst hV2
     cases hex
 · rcases hget q V hV with ⟨_,hV⟩ | ⟨hqr,hV2⟩
   · exact (h.rows q V hV).ext hx' rfl rfl (fun h1 _=>h1) (.inr fun _ _ _ _ _=>re _) (fun _ _ _=>Sa _)
   · subst hV2
     rw [hqr]
     refine ⟨hk0.al,fun i hi=>?_,hk0.bx,fun l' h0 _ _=>absurd h0 (by show W.k≠0;omega),fun ha=>?_,hk0.nn⟩
     · have:=hk0.len i hi
       unfold Row.els at this ⊢
       rw [hl] at this
       simpa [Els.at'] using this
     · obtain ⟨k1,k2,k3,arr,fz,k4,k5,k6,k6',k7⟩:=hk0.mem ha
       refine ⟨k1,k2,k3,arr,fz,k4,k5,k6,k6',fun i hi j' y hy=>?_⟩
       have hy:(l.set j x)[j']?=some y:=hy
       have hv:∀ y',l[j']?=some y'→∃ v,arr[i*W.k+j']?=some v∧VR E.w E.I E.m (Fl W (VV E.H)) y' v∧v.oneCell'=true:=fun y' hy'=>k7 i hi j' y' (by unfold Row.els;rw [hl];exact hy')
       have hT:∀ y' v,E.V y' v→VR E.w E.I E.m (Fl { W with ex:=.box (l.set j x),pf:=false } (VV (OE E.H r W l j x))) y' v:=fun y' v hv=>by
        unfold Fl
        rw [if_neg (by simp),ht];exact hv
       rw [List.getElem?_set] at hy
       by_cases hj:j=j'
       · subst hj
         rw [if_pos rfl] at hy
         split at hy
         · rename_i hlt
           cases hy
           obtain ⟨v,h1,h2,h3⟩:=hv l[j] (List.getElem?_eq_getElem hlt)
           have hn:=hk0.bx hbx
           obtain rfl:i=0:=by have:i<W.n:=hi;omega
           exact ⟨v,h1,hT _ _ (hx v ⟨arr,fz,k4,by simpa using h1⟩),h3⟩
         · cases hy
       · rw [if_neg hj] at hy
         obtain ⟨v,h1,h2,h3⟩:=hv y hy
         exact ⟨v,h1,hT y v (LI h2),h3⟩
 · have old:∀ q V,(OE E.H r W l j x)[q]?=some (some V)→∃ V0,E.H[q]?=some (some V0):=fun q V hV=>by
    rcases hget q V hV with ⟨_,hV⟩ | ⟨hqr,_⟩
    · exact ⟨V,hV⟩
    · rw [hqr];exact ⟨W,hW⟩
   obtain ⟨V0,hV0⟩:=old q V hV
   obtain ⟨V1,hV1⟩:=old q' V' hV'
   exact h.inj q q' V0 V1 hV0 hV1 ha ha' hb
 · rcases hget q V hV with ⟨_,hV⟩ | ⟨hqr,hV2⟩
   · exact h.gse q V hV hz hp
   · subst hV2
     exact absurd hz (by show W.k≠0;omega)
theorem St.box_val {E:Env} (h:St g B w0 I0 E) {r:Nat} {W:Row} (hW:E.H[r]?=some (some W)) (hb:W.box=true) {l:List AV} (hl:W.ex=.box l) {j:Nat} {y:AV} (hy:l[j]?=some y) {v:Value}
  (hv:∃ arr fz,E.w.heap[(E.m r).blk]?=some (.cells arr W.t fz)∧arr[j]?=some v):E.V y v:=by
 have hk0:=h.rows r W hW
 have hn:=hk0.bx hb
 obtain ⟨k1,k2,k3,arr,fz,k4,k5,k6,k6',k7⟩:=hk0.mem (hk0.al (.inl (by omega)))
 obtain ⟨arr2,fz2,e1,e2⟩:=hv
 rw [k4] at e1
 have e1:=(Obj.cells.inj (Option.some.inj e1)).1
 subst e1
 obtain ⟨u,h1,h2,_⟩:=k7 0 (by omega) j y (by unfold Row.els;rw [hl];exact hy)
 rw [Nat.zero_mul,Nat.zero_add,e2] at h1
 cases h1
 exact LI h2
theorem eR {E:Env} (h:St g B w0 I0 E) {fr:List AV} {vs:List Value} (hfr:E.L fr vs) (L:YU) (t j:Nat) (how:How) (r:Nat):
  ∃ E2,E2.w=E.w∧St g B w0 I0 E2∧E2.L (HV L t j how r (fr,E.H)).1 vs∧E2.H=(HV L t j how r (fr,E.H)).2:=by
 have same:∃ E2,E2.w=E.w∧St g B w0 I0 E2∧E2.L fr vs∧E2.H=E.H:=⟨E,rfl,h,hfr,rfl⟩
 unfold HV
 split
 · rename_i W hW
   have hW:=rowAtH_some.1 hW
   cases hc:Nat.beq W.t t&&W.box&&Nat.blt 0 W.k with
   | false=>exact same
   | true=>
    rw [cnd_true]
    simp only [Bool.and_eq_true] at hc
    obtain ⟨⟨_,hb⟩,hk⟩:=hc
    have hk:0<W.k:=Nat.le_of_ble_eq_true hk
    split
    · rename_i l hl
      split
      · rename_i e hj
        split
        · rename_i ye hye
          obtain ⟨s1,s2⟩:=h.ghostC (W:=Wq L e ye) Tk [] 1 (fun hc=>(by cases hc)) rfl rfl rfl (fun l _ hp=>(by cases hp)) (fun _ hp=>(by cases hp))
          have hW1:(E.H++[some (Wq L e ye)])[r]?=some (some W):=by
           rw [List.getElem?_append_left (List.getElem?_eq_some_iff.1 hW).1];exact hW
          have hmr:iW E.m E.H.length ⟨0,1,false,[]⟩ r=E.m r:=Vi _ _ (by have h9:r<E.H.length:=(List.getElem?_eq_some_iff.1 hW).1;omega)
          obtain ⟨t1,t2⟩:=s1.red (r:=r) (W:=W) hW1 hk hb hl (j:=j) (x:=.sl E.H.length 0) (fun u hu=>by
           have hu':∃ arr fz,E.w.heap[(iW E.m E.H.length ⟨0,1,false,[]⟩ r).blk]?=some (.cells arr W.t fz)∧arr[j]?=some u:=hu
           rw [hmr] at hu'
           have hu:=h.box_val hW hb hl hj hu'
           simp only [Env.V,VR] at hu
           subst hu
           simp only [Env.V,VR]
           refine ⟨⟨ye.size,by simp [VV,Wq,Jc]⟩,?_⟩
           rw [eb]
           simp)
          exact ⟨{ w:=E.w,I:=E.I,m:=iW E.m E.H.length ⟨0,1,false,[]⟩,H:=OE (E.H++[some (Wq L e ye)]) r W l j (.sl E.H.length 0) },rfl,t1,t2.L (Sa _) (s2.L (Sa _) hfr),rfl⟩
        · exact same
      · rename_i τ hj
        obtain ⟨t1,t2⟩:=h.red hW hk hb hl (j:=j) (x:=.snap τ 0 (fun _=>ra τ)) (fun u hu=>by
         have hu:=h.box_val hW hb hl hj hu
         simp only [Env.V,VR] at hu
         subst hu
         simp only [Env.V,Cj]
         exact ⟨none,0,rfl,Nat.le_refl _,fun h0=>absurd h0 (Nat.lt_irrefl _)⟩)
        exact ⟨{ E with H:=OE E.H r W l j (.snap τ 0 (fun _=>ra τ)) },rfl,t1,t2.L (Sa _) hfr,rfl⟩
      · rename_i q n τ hj
        split
        · rename_i V hV
          have hV:=rowAtH_some.1 hV
          split
          · rename_i σ xs hex
            cases hc:V.pf&&Nat.beq V.k σ.size&&!W.pf with
            | false=>exact same
            | true=>
             rw [cnd_true]
             simp only [Bool.and_eq_true] at hc
             obtain ⟨⟨hp,hk2⟩,hwp⟩:=hc
             obtain ⟨s1,s2⟩:=h.freeze hV
             split
             · rename_i W2 hW2
               have hW2:=rowAtH_some.1 hW2
               split
               · rename_i l2 hl2
                 have hqr:q≠r:=fun e=>by
                  subst e
                  rw [hW] at hV
                  cases hV
                  rw [hl] at hex;cases hex
                 have e2:W2=jm (fun p=>!(Nat.beq p q)) W:=by
                  have h9:=hW2
                  unfold wo at h9
                  rw [List.getElem?_set,if_neg hqr,Ec,hW] at h9
                  simpa using h9.symm
                 have hs:∀ n v,E.V (.sl q n) v→({ E with I:=fL E q,H:=wo E.H q }:Env).V (.snap σ V.n xs) v:=fun n v hv=>by
                  have hn:n=V.n:=by
                   have:=hv
                   simp only [Env.V,VR] at this
                   obtain ⟨⟨kk,hT⟩,_⟩:=this
                   exact (si hV hT).2
                  subst hn
                  exact Bj h hV hex hp (Nat.eq_of_beq_eq_true hk2) hv
                 obtain ⟨t1,t2⟩:=s1.red (r:=r) (W:=W2) hW2 (by rw [e2];exact hk) (by rw [e2];exact hb) hl2 (j:=j) (x:=.snap σ V.n xs) (fun u hu=>by
                  have ht:W2.t=W.t:=by rw [e2];rfl
                  rw [ht] at hu
                  exact hs n u (h.box_val hW hb hl hj hu))
                 exact ⟨{ w:=E.w,I:=fL E q,m:=E.m,H:=OE (wo E.H q) r W2 l2 j (.snap σ V.n xs) },rfl,t1,t2.L (Sa _) (rF s2 hs fr vs hfr),rfl⟩
               · exact same
             · exact same
          · exact same
        · exact same
      · exact same
    · exact same
 · exact same
theorem JO (L:YU) (t j:Nat) (how:How) {vs:List Value}:∀ (n:Nat) {E:Env} {fr:List AV},St g B w0 I0 E→E.L fr vs→∃ E2,E2.w=E.w∧St g B w0 I0 E2∧E2.L (JV L t j how n (fr,E.H)).1 vs∧E2.H=(JV L t j how n (fr,E.H)).2
 | 0,E,fr,h,hv=>⟨E,rfl,h,hv,rfl⟩
 | r+1,E,fr,h,hv=>by
  obtain ⟨E1,e1,h1,v1,k1⟩:=eR h hv L t j how r
  obtain ⟨E2,e2,h2,v2,k2⟩:=JO L t j how r h1 v1
  have e:((HV L t j how r (fr,E.H)).1,E1.H)=HV L t j how r (fr,E.H):=by rw [k1]
  rw [e] at v2 k2
  exact ⟨E2,e2.trans e1,h2,v2,k2⟩
theorem GO (L:YU) {vs:List Value}:∀ (ns:List (TypeId×Nat×How)) {E:Env} {fr:List AV},St g B w0 I0 E→E.L fr vs→∃ E2,E2.w=E.w∧St g B w0 I0 E2∧E2.L (GV L ns (fr,E.H)).1 vs∧E2.H=(GV L ns (fr,E.H)).2
 | [],E,fr,h,hv=>⟨E,rfl,h,hv,rfl⟩
 | (t,j,how)::ns,E,fr,h,hv=>by
  obtain ⟨E1,e1,h1,v1,k1⟩:=JO L t j how E.H.length h hv
  obtain ⟨E2,e2,h2,v2,k2⟩:=GO L ns h1 v1
  have e:((JV L t j how E.H.length (fr,E.H)).1,E1.H)=JV L t j how E.H.length (fr,E.H):=by rw [k1]
  rw [e] at v2 k2
  exact ⟨E2,e2.trans e1,h2,v2,k2⟩
theorem HC {k:List AV→fa→Option R} {vs:List Value}:∀ (is:List Nat) {E:Env} {fr:List AV},St g B w0 I0 E→E.L fr vs→iP is fr E.H k=some r→∃ fr' E',St g B w0 I0 E'∧E'.L fr' vs∧E'.w=E.w∧k fr' E'.H=some r
 | [],E,fr,hS,hfr,h=>⟨fr,E,hS,hfr,rfl,h⟩
 | i::is,E,fr,hS,hfr,h=>by
  simp only [iP] at h
  split at h
  · rename_i r' n hi
    split at h
    · rename_i W hW
      have hW:=rowAtH_some.1 hW
      split at h
      · rename_i τ xs hex
        obtain ⟨hc,h⟩:=ja h
        rw [Bool.and_eq_true] at hc
        obtain ⟨s1,s2⟩:=hS.freeze hW
        have hs:∀ n v,E.V (.sl r' n) v→({ E with I:=fL E r',H:=wo E.H r' }:Env).V (.snap τ W.n xs) v:=fun n v hv=>by
         have hn:n=W.n:=by
          have:=hv
          simp only [Env.V,VR] at this
          obtain ⟨⟨kk,hT⟩,_⟩:=this
          exact (si hW hT).2
         subst hn
         exact Bj hS hW hex hc.1 (Nat.eq_of_beq_eq_true hc.2) hv
        obtain ⟨fr2,E2,h1,h2,h3,h4⟩:=HC is s1 (rF s2 hs fr vs hfr) h
        exact ⟨fr2,E2,h1,h2,h3,h4⟩
      · cases h
    · cases h
  · exact HC is hS hfr h
theorem HO {k:List AV→fa→Option R} {vs:List Value} {L:YU} {ns:List (TypeId×Nat×How)} {is:List Nat} {E:Env} {fr:List AV} (h:St g B w0 I0 E) (hfr:E.L fr vs) (hk:IV L ns is fr E.H k=some r):
  ∃ fr' E',St g B w0 I0 E'∧E'.L fr' vs∧E'.w=E.w∧k fr' E'.H=some r:=by
 cases ns with
 | nil=>exact HC is h hfr hk
 | cons n ns=>
  obtain ⟨E1,e1,h1,v1,k1⟩:=GO L (n::ns) h hfr
  simp only [IV] at hk
  rw [←k1] at hk
  obtain ⟨fr',E',i1,i2,i3,i4⟩:=HC is h1 v1 hk
  exact ⟨fr',E',i1,i2,i3.trans e1,i4⟩
theorem lK {hint:Hint R} {cur:Nat} {q:Option Nat} {k:List AV→fa→Option R} {fr:List AV} {E:Env} {vs:List Value} (hS:St g B w0 I0 E) (hfr:E.L fr vs) (h:YM hint cur q k fr E.H=some r):
  ∃ fr' E',St g B w0 I0 E'∧E'.L fr' vs∧E'.w=E.w∧k fr' E'.H=some r:=by
 unfold YM at h
 split at h
 · obtain ⟨fr',E',h1,h2,h3,h4,_⟩:=Mv hS hfr h
   obtain ⟨fr2,E2,i1,i2,i3,i4⟩:=HC _ h1 h2 h4
   exact ⟨fr2,E2,i1,i2,i3.trans h3,i4⟩
 · exact ⟨fr,E,hS,hfr,rfl,h⟩
theorem GJ {E:Env} {fr:List AV} {vs:List Value} (hS:St g B w0 I0 E) (h:E.L fr vs):FS fr E.H:=by
 have key:∀ {T:XU} {q n:Nat} {v:Value},(T=VV E.H∨T=Ya)→VR E.w E.I E.m T (.sl q n) v→∃ W,E.H[q]?=some (some W)∧W.n=n:=fun {T q n v} hT hv=>by
  simp only [VR] at hv
  obtain ⟨⟨k,hk⟩,_⟩:=hv
  rcases hT with rfl | rfl
  · unfold VV at hk
    split at hk
    · rename_i W hW
      cases hk
      exact ⟨W,hW,rfl⟩
    · cases hk
  · cases hk
 refine ⟨fun q n hm=>?_,fun q W l hW hb he q' n hm=>?_⟩
 · obtain ⟨j,hj⟩:=List.getElem?_of_mem hm
   obtain ⟨v,_,hv⟩:=qd h j _ hj
   exact key (.inl rfl) hv
 · have hk:=hS.rows q W hW
   rcases hb with hb | ⟨hb,hb2⟩
   rotate_left
   · obtain ⟨j,hj⟩:=List.getElem?_of_mem hm
     obtain ⟨v,_,hv⟩:=qd (hk.gh l hb hb2 he) j _ hj
     exact key (.inl rfl) hv
   have hn:W.n=1:=hk.bx hb
   obtain ⟨_,_,_,_,_,_,_,_,_,hx⟩:=hk.mem (hk.al (.inl (by omega)))
   obtain ⟨j,hj⟩:=List.getElem?_of_mem hm
   obtain ⟨v,_,hv,_⟩:=hx 0 (by omega) j (.sl q' n) (by unfold Row.els;rw [he];exact hj)
   refine key ?_ hv
   unfold Fl
   split
   · exact .inr rfl
   · exact .inl rfl
theorem IK {E:Env} {fr:List AV} {vs:List Value} (h:E.L fr vs):∀ q n,AV.sl q n∈fr→∃ W,E.H[q]?=some (some W)∧W.n=n:=fun q n hm=>by
 obtain ⟨j,hj⟩:=List.getElem?_of_mem hm
 obtain ⟨v,_,hv⟩:=qd h j _ hj
 simp only [VR] at hv
 obtain ⟨⟨k,hk⟩,_⟩:=hv
 unfold VV at hk
 split at hk
 · rename_i W hW
   cases hk
   exact ⟨W,hW,rfl⟩
 · cases hk
theorem oK (live:List (Nat×Option CTy)):∀ (i:Nat) (fr:List AV),(xx live i fr).length=fr.length
 | _,[]=>rfl
 | i,x::xs=>by simp only [xx,List.length_cons,oK live (i+1) xs]
theorem bI {D:Nat→Bool}:∀ (i:Nat) (fr:List AV),∀ x∈DV D (xx [] i fr),x=.top
 | _,[],x,h=>by simp [xx,DV] at h
 | i,y::ys,x,h=>by
  simp only [xx,DV,lL,kd,List.mem_cons] at h
  exact h.elim id (bI (i+1) ys x)
theorem EM {E:Env}:∀ {l:List AV} {vs:List Value},l.length=vs.length→(∀ x∈l,x=.top)→E.L l vs
 | [],[],_,_=>by simp [Env.L,LR]
 | [],_::_,h,_=>by simp at h
 | _::_,[],h,_=>by simp at h
 | x::xs,v::vs,h,hx=>by
  simp only [Env.L,LR]
  refine ⟨?_,EM (by simpa using h) fun y hy=>hx y (List.mem_cons_of_mem _ hy)⟩
  rw [hx x List.mem_cons_self]
  simp [VR]
theorem nt (hL:Za P L) (hP:PureOk P g Γ) (hG:CsOk P g Γ) (hm:P.follows .mixedOrders=true) {hint:Hint R} {n:Nat} {ds:List Deferred} (c:Code):
  ∀ (cur:Nat) (_:sa L Γ hint n c cur) (k:XE→List AV→fa→Option R) (Q:Exit→Act→World→Prop) (fr:List AV) (E:Env) (a:Act),gu L Γ hint n c cur k fr E.H=some r→St g B w0 I0 E→E.L fr a.tmps.toList→a.defers=ds→KOK P g B w0 I0 ds Q k r→c.wp P Q a E.w:=by
 induction c with
 | skip=>intro cur hR k Q fr E a h hS hfr hd hk;simp only [gu] at h;exact wp_skip (hk.nrm fr E a hS hfr hd h)
 | label l=>intro cur hR k Q fr E a h hS hfr hd hk;simp only [gu] at h;exact wp_label (hk.nrm fr E a hS hfr hd h)
 | region id ops draw=>
  intro cur hR k Q fr E a h hS hfr hd hk
  cases draw with
  | false=>
   simp only [gu] at h
   obtain ⟨fr,E,hS,hfr,hw,h⟩:=HO hS hfr h
   rw [←hw]
   exact wp_region_list (Ko hL hP hG (fun fr E a hS hfr hd h=>hk.nrm fr E a hS hfr hd h) (fun av v fr E a hS hfr hv hd h=>by
    unfold PS at h
    split at h
    · obtain ⟨fr',E',h1,h2,h3,h4,h5⟩:=Mv hS hfr h
      exact h3▸hk.pan _ v _ E' a h1 h2 (h5 _ _ (gN _) (IF _ _ _ hv)) hd h4
    · obtain ⟨s1,s2⟩:=hS.cut (D:=fun _=>false) (H':=[]) (fun r W h=>by simp at h) (fun r W _ h=>by cases h)
      exact hk.pan _ v _ { E with H:=[] } a s1 (s2.L (Df _) (sn _ _ _ (kJ [] 0 fr _ hfr))) (s2.V (QE _) (IF _ _ _ hv)) hd h) ops.toList fr E a hS hfr hd h)
  | true=>
   simp only [gu] at h
   obtain ⟨fr,E,hS,hfr,hw,h⟩:=HO hS hfr h
   rw [←hw]
   split at h
   · rename_i s hs
     obtain ⟨hlen,h⟩:=ja h
     obtain ⟨s1,s2⟩:=hS.at_ (w':={ E.w with drawn:=E.w.drawn+1 }) ⟨rfl,rfl,rfl,Nat.le_refl _,fun _ _=>rfl⟩
     refine wp_mono (Q:=fun e a w=>match e with
      | .panic c=>∀ a':Act,a'.defers=a.defers→a'.tmps.size=a.tmps.size→Q (.panic c) a' w
      | e=>Q e a w) (PrintLast.wp_region_last hm (S:=fun w'=>Below E.w.heap.size { E.w with drawn:=E.w.drawn+1 } w') (ds:=(s.filter fun p=>Nat.beq p.2 2 || Nat.beq p.2 5).map (·.1)) ?_) (fun e a w hh=>by
       cases e with
       | panic c=>exact hh a rfl rfl
       | _=>exact hh)
     exact zd (ds:=ds) (W0:={ E.w with drawn:=E.w.drawn+1 }) (Q:=Q) hL hP hG (fun e a w=>by cases e<;>rfl) (fun fr E a hS hfr hd h=>hk.nrm fr E a hS hfr hd h) (fun av v fr E a hS hl hv hd h=>by
      obtain ⟨s1,s2⟩:=hS.cut (D:=fun _=>false) (H':=[]) (fun r W h=>by simp at h) (fun r W _ h=>by cases h)
      exact hk.pan _ v _ { E with H:=[] } a s1 (EM (by rw [km,oK];rw [hl,Array.length_toList]) (bI 0 fr)) (s2.V (QE _) (IF _ _ _ hv)) hd h) s false _ _ fr { E with w:={ E.w with drawn:=E.w.drawn+1 } } a (Nat.le_of_ble_eq_true hlen) (fun _=>rfl) s1 (s2.L (Sa _) hfr) hd h
   obtain ⟨hB,h⟩:=ja h
   refine wp_region_quiet (C:=fun w'=>Below E.w.heap.size E.w w') hm hB ⟨rfl,rfl,rfl,Nat.le_refl _,fun _ _=>rfl⟩ ?_
   refine ov (ds:=ds) hL hP hS (fun fr' a' hfr' hd' h' w' hw'=>?_) ops.toList fr a hfr hd h
   obtain ⟨s1,s2⟩:=hS.at_ hw'
   exact hk.nrm fr' { E with w:=w' } a' s1 (s2.L (Sa _) hfr') hd' h'
 | seq x y ihx ihy=>
  intro cur hR k Q fr E a h hS hfr hd hk
  simp only [gu] at h
  simp only [sa] at hR
  cases hj:hint.jn (pF y) with
  | none=>
   rw [hj] at h hR
   refine wp_seq (ihx cur hR.1 _ _ fr E a h hS hfr hd ⟨fun fr' E' a' h1 h2 h3 h4=>?_,fun id fr' E' a' h1 h2 h3 h4=>hk.ext id fr' E' a' h1 h2 h3 h4,fun fr' E' a' h1 h2 h3 h4=>hk.ret fr' E' a' h1 h2 h3 h4,fun av v fr' E' a' h1 h2 h3 h4 h5=>hk.pan av v fr' E' a' h1 h2 h3 h4 h5⟩)
   exact ihy cur hR.2 k Q fr' E' a' h4 h1 h2 h3 hk
  | some f=>
   rw [hj] at h hR
   obtain ⟨⟨hRx,hRy⟩,hJ⟩:=hR
   simp only at h
   obtain ⟨fr2,E2,s1,s2,s3,s4,_⟩:=Mv hS hfr h
   have h':=hJ f hj _ _ _ _ (GJ s1 s2) s4
   rw [←s3]
   refine wp_seq (ihx cur hRx _ _ fr2 E2 a h' s1 s2 hd ⟨fun fr' E' a' h1 h2 h3 h4=>?_,fun id fr' E' a' h1 h2 h3 h4=>hk.ext id fr' E' a' h1 h2 h3 h4,fun fr' E' a' h1 h2 h3 h4=>hk.ret fr' E' a' h1 h2 h3 h4,fun av v fr' E' a' h1 h2 h3 h4 h5=>hk.pan av v fr' E' a' h1 h2 h3 h4 h5⟩)
   simp only [bR] at h4
   obtain ⟨fr3,E3,t1,t2,t3,t4,_⟩:=Mv h1 h2 h4
   rw [←t3]
   exact ihy cur hRy k Q fr3 E3 a' t4 t1 t2 h3 hk
 | cond c x y ihx ihy=>
  intro cur hR k Q fr E a h hS hfr hd hk
  simp only [gu] at h
  split at h
  · rename_i b he
    have hc:=Hq hfr c
    rw [he,V_b] at hc
    have hset:E.L (gT fr c b) a.tmps.toList:=by
     cases c with
     | tmp d=>
      refine iH hfr (v:=.bool b) ?_ (V_b.2 rfl)
      have hc':a.tmps.getD d undef=.bool b:=hc
      rw [Array.getElem?_toList]
      cases hg:a.tmps[d]? with
      | none=>rw [Array.getD_eq_getD_getElem?,hg] at hc';simp [undef] at hc'
      | some v=>rw [Array.getD_eq_getD_getElem?,hg] at hc';simpa using hc'
     | _=>exact hfr
    split at h
    · rename_i hb
      subst hb
      exact wp_cond_true hc (ihx cur hR.1 k Q _ E a h hS hset hd hk)
    · rename_i hb
      have:b=false:=by simpa using hb
      subst this
      exact wp_cond_false hc (ihy cur hR.2 k Q _ E a h hS hset hd hk)
  · exact da h
 | block id c ih=>
  intro cur hR k Q fr E a h hS hfr hd hk
  simp only [gu] at h
  refine wp_block (ih id hR _ _ fr E a h hS hfr hd ⟨fun fr' E' a' h1 h2 h3 h4=>hk.nrm fr' E' a' h1 h2 h3 h4,fun j fr' E' a' h1 h2 h3 h4=>?_,fun fr' E' a' h1 h2 h3 h4=>hk.ret fr' E' a' h1 h2 h3 h4,fun av v fr' E' a' h1 h2 h3 h4 h5=>hk.pan av v fr' E' a' h1 h2 h3 h4 h5⟩)
  simp only [Exit.inBlock]
  cases hj:Nat.beq j id with
  | true=>
   have:j=id:=Nat.eq_of_beq_eq_true hj
   rw [if_pos this]
   simp only [hj,cnd_true] at h4
   exact hk.nrm fr' E' a' h1 h2 h3 h4
  | false=>
   have:j≠id:=Nat.ne_of_beq_eq_false hj
   rw [if_neg this]
   simp only [hj,cnd_false] at h4
   exact hk.ext j fr' E' a' h1 h2 h3 h4
 | loop c ih=>
  intro cur hR k Q fr E a h hS hfr hd hk
  simp only [gu] at h
  have key:∀ (q:Nat) (fr:List AV) (E:Env) (a:Act),VH (hint.live cur) (fun k fr H=>gu L Γ hint n c cur k fr H) k q fr E.H=some r→St g B w0 I0 E→E.L fr a.tmps.toList→a.defers=ds→Code.rounds P c Q q a E.w:=by
   intro q
   induction q with
   | zero=>intro fr E a h;simp only [VH] at h;exact da h
   | succ q ihq=>
    intro fr E a h hS hfr hd
    simp only [VH] at h
    rw [rounds_succ]
    refine ih cur hR.2 _ _ fr E a h hS hfr hd ⟨fun fr' E' a' h1 h2 h3 h4=>?_,fun id fr' E' a' h1 h2 h3 h4=>hk.ext id fr' E' a' h1 h2 h3 h4,fun fr' E' a' h1 h2 h3 h4=>hk.ret fr' E' a' h1 h2 h3 h4,fun av v fr' E' a' h1 h2 h3 h4 h5=>hk.pan av v fr' E' a' h1 h2 h3 h4 h5⟩
    obtain ⟨fr2,E2,s1,s2,s3,s4,_⟩:=Mv h1 h2 h4
    exact s3▸ihq fr2 E2 a' s4 s1 s2 h3
  have run_:∀ (f:(XE→List AV→fa→Option R)→List AV→fa→Option R),hint.run cur=some f→∀ (fr:List AV) (E:Env) (a:Act),St g B w0 I0 E→E.L fr a.tmps.toList→a.defers=ds→
    MM (hint.live cur) fr E.H (f k)=some r→Code.rounds P c Q n a E.w:=fun f hf fr E a hS hfr hd h=>by
   obtain ⟨fr2,E2,s1,s2,s3,s4,_⟩:=Mv hS hfr h
   have:=hR.1 f hf _ _ _ _ (GJ s1 s2) s4
   exact s3▸key n _ E2 a this s1 s2 hd
  split at h
  · rename_i f hf
    cases hpl:hint.pl cur with
    | true=>
     rw [hpl,cnd_true] at h
     refine wp_loop_rounds (n+1) ?_
     rw [rounds_succ]
     refine ih cur hR.2 _ _ fr E a h hS hfr hd ⟨fun fr' E' a' h1 h2 h3 h4=>?_,fun id fr' E' a' h1 h2 h3 h4=>hk.ext id fr' E' a' h1 h2 h3 h4,fun fr' E' a' h1 h2 h3 h4=>hk.ret fr' E' a' h1 h2 h3 h4,fun av v fr' E' a' h1 h2 h3 h4 h5=>hk.pan av v fr' E' a' h1 h2 h3 h4 h5⟩
     exact run_ f hf fr' E' a' h1 h2 h3 h4
    | false=>
     rw [hpl,cnd_false] at h
     exact wp_loop_rounds n (run_ f hf fr E a hS hfr hd h)
  · obtain ⟨fr2,E2,s1,s2,s3,s4,_⟩:=Mv hS hfr h
    exact wp_loop_rounds n (s3▸key n _ E2 a s4 s1 s2 hd)
 | rangeFunc f ps x y _ _=>intro cur hR k Q fr E a h;simp only [gu] at h;exact da h
 | exit id=>
  intro cur hR k Q fr E a h hS hfr hd hk
  simp only [gu] at h
  obtain ⟨fr',E',h1,h2,h3,h4⟩:=lK hS hfr h
  exact wp_exit (h3▸hk.ext id fr' E' a h1 h2 hd h4)
 | scope c _=>intro cur hR k Q fr E a h;simp only [gu] at h;exact da h
 | goto l=>intro cur hR k Q fr E a h;simp only [gu] at h;exact da h
 | ret=>
  intro cur hR k Q fr E a h hS hfr hd hk
  simp only [gu] at h
  obtain ⟨fr',E',h1,h2,h3,h4⟩:=lK hS hfr h
  exact wp_ret (h3▸hk.ret fr' E' a h1 h2 hd h4)
 | refuse w=>intro cur hR k Q fr E a h;simp only [gu] at h;exact da h
end
open Go Go.RowKit
theorem TyOk.of_info {P:Program} {t:TypeId} {z:Value} {s b:Nat} (h:(P.info? t).map (fun i=>(i.zero,i.size,i.bytes))=some (some z,s,b)):∃ i,P.info? t=some i∧i.zero=some z∧i.size=s∧i.bytes=b:=by
 cases hi:P.info? t with
 | none=>rw [hi] at h;cases h
 | some i=>rw [hi] at h;simp at h;exact ⟨i,rfl,h.1,h.2.1,h.2.2⟩
def dI (P:Program):Nat→YU→Prop
 | _,[]=>True
 | t,none::ys=>dI P (t+1) ys
 | t,some y::ys=>TyOk P t y∧dI P (t+1) ys
theorem Wy {P:Program}:∀ {L:YU} {q:Nat},dI P q L→∀ t y,ec L t=some y→TyOk P (q+t) y
 | [],q,_,t,y,h=>by simp [ec] at h
 | none::ys,q,h,0,y,hy=>by simp [ec] at hy
 | some z::ys,q,h,0,y,hy=>by simp [ec] at hy;subst hy;exact h.1
 | none::ys,q,h,t+1,y,hy=>by
  have:=Wy (q:=q+1) h t y (by simpa [ec] using hy)
  rwa [show q+(t+1)=q+1+t by omega]
 | some z::ys,q,h,t+1,y,hy=>by
  have:=Wy (q:=q+1) h.2 t y (by simpa [ec] using hy)
  rwa [show q+(t+1)=q+1+t by omega]
theorem sM {P:Program} {L:YU} (h:dI P 0 L):Za P L:=fun t y hy=>by
 have:=Wy h t y hy
 rwa [Nat.zero_add] at this
structure Entry where
 f:FuncId
 pc:{R:Type}→List AV→(AV→Option R)→(AV→Option R)→Option R
 x:Option XFun
 c:Option ((R:Type)→List AV→fa→Option ((OutS→Option R)→Option R)):=none
structure EntryOk (P:Program) (g:Glob) (e:Entry):Prop where
 enters:e.x=none→Enters P e.f
 xok:∀ h vs v,e.x=some (.flat h)→h vs=some v→∀ w,(callFunc e.f vs.toArray).run P w=.ok (.value v) w
 xid:e.x=some .ident→∀ x w,(callFunc e.f #[x]).run P w=.ok (.value x) w
 cs:∀ run,e.c=some run→e.x=none∧∀ R args H F k r,run R args H=some F→F k=some r→∃ out,k out=some r∧LM P g e.f args H out
 ans:e.x=none→e.c=none→∀ (R:Type) (args:List AV) (kk pk:AV→Option R) (r:R),e.pc args kk pk=some r→(∃ av,kk av=some r∧ao av=true∧Ans P g e.f args (.ret av))∨(∃ av,pk av=some r∧ao av=true∧Ans P g e.f args (.pan av))
def kL:List Entry→FuncId→Option Entry
 | [],_=>none
 | e::es,f=>jV (Nat.beq e.f f&&e.c.isNone) (some e) (kL es f)
def NQ (R:Type):List Entry→FuncId→List AV→fa→Option ((OutS→Option R)→Option R)
 | [],_,_,_=>none
 | e::es,f,args,H=>jV (Nat.beq e.f f) (match e.c with
  | some c=>match c R args H with
   | some r=>some r
   | none=>NQ R es f args H
  | none=>NQ R es f args H) (NQ R es f args H)
def Callees.keep {R:Type} (Γ:Callees R):Callees R:={ Γ with kn:=true }
def Callees.view {R:Type} (Γ:Callees R) (fs:List Nat):Callees R:={ Γ with vw:=fun f=>fs.any (Nat.beq f) }
def ea (R:Type) (es:List Entry):Callees R where
 isP f:=match kL es f with
  | some e=>e.x.isNone
  | none=>false
 xc f:=match kL es f with
  | some e=>e.x
  | none=>none
 pc f args kk pk:=match kL es f with
  | some e=>e.pc args kk pk
  | none=>none
 cs:=NQ R es
inductive AllOk (P:Program) (g:Glob):List Entry→Prop
 | nil:AllOk P g []
 | cons {e:Entry} {es:List Entry} (h:EntryOk P g e) (hs:AllOk P g es):AllOk P g (e::es)
section
variable {P:Program} {g:Glob} {L:YU}
theorem px:∀ {es:List Entry} {f:FuncId} {e:Entry},AllOk P g es→kL es f=some e→e.f=f∧e.c=none∧EntryOk P g e
 | [],f,e,_,h=>by cases h
 | e0::es,f,e,hall,h=>by
  cases hall with
  | cons h0 hs=>
   simp only [kL] at h
   cases hb:Nat.beq e0.f f&&e0.c.isNone with
   | true=>rw [hb] at h;simp only [cnd_true] at h;cases h;rw [Bool.and_eq_true] at hb;exact ⟨Nat.eq_of_beq_eq_true hb.1,by simpa using hb.2,h0⟩
   | false=>rw [hb] at h;exact px hs h
theorem QG {R:Type}:∀ {es:List Entry} {f:FuncId} {args:List AV} {H:fa} {F:(OutS→Option R)→Option R},AllOk P g es→NQ R es f args H=some F→Enters P f∧∀ k r,F k=some r→∃ out,k out=some r∧LM P g f args H out
 | [],f,args,H,res,_,h=>by cases h
 | e0::es,f,args,H,res,hall,h=>by
  cases hall with
  | cons h0 hs=>
   simp only [NQ] at h
   cases hb:Nat.beq e0.f f with
   | false=>rw [hb] at h;exact QG hs h
   | true=>
    rw [hb,cnd_true] at h
    have hf:=Nat.eq_of_beq_eq_true hb
    subst hf
    split at h
    · rename_i c hc
      obtain ⟨hx,hcs⟩:=h0.cs c hc
      split at h
      · rename_i r0 hr0
        cases h
        exact ⟨h0.enters hx,fun k r hk=>hcs R args H _ k r hr0 hk⟩
      · exact QG hs h
    · exact QG hs h
theorem cl {R:Type} {es:List Entry} (h:AllOk P g es):PureOk P g (ea R es):=by
 refine ⟨fun f hf=>?_,fun f h' vs v hx hv=>?_,fun f hx=>?_,fun f args kk pk r hf hr=>?_⟩
 · simp only [ea] at hf
   split at hf
   · rename_i e he
     obtain ⟨rfl,_,hk⟩:=px h he
     exact hk.enters (by simpa using hf)
   · cases hf
 · simp only [ea] at hx
   split at hx
   · rename_i e he
     obtain ⟨rfl,_,hk⟩:=px h he
     exact hk.xok h' vs v hx hv
   · cases hx
 · simp only [ea] at hx
   split at hx
   · rename_i e he
     obtain ⟨rfl,_,hk⟩:=px h he
     exact hk.xid hx
   · cases hx
 · simp only [ea] at hf hr
   split at hf
   · rename_i e he
     obtain ⟨rfl,hc,hk⟩:=px h he
     rw [he] at hr
     exact hk.ans (by simpa using hf) hc R args kk pk r hr
   · cases hf
theorem jt {R:Type} {es:List Entry} (h:AllOk P g es):CsOk P g (ea R es):=⟨fun f args H res hr=>QG h hr⟩
def eA (ntmps:Nat) (args:List AV):List AV:=args++List.replicate (ntmps - args.length) (.b undef)
def eT (L:YU) (fr:List AV) (H:fa):ResultVar→Option AV
 | .tmp t=>some (fr.getD t (.b undef))
 | .cell a t=>match ec L t,fr.getD a (.b undef) with
  | some y,.ptr r i j=>match H[r]? with
   | some (some W)=>GA y (W.els i) j some
   | _=>none
  | _,_=>none
def PE (L:YU) (fr:List AV) (H:fa):List ResultVar→Option (List AV)
 | []=>some []
 | x::xs=>match eT L fr H x,PE L fr H xs with
  | some a,some l=>some (a::l)
  | _,_=>none
def SD:List AV→AV
 | [x]=>x
 | l=>.tup l
noncomputable def rV {R:Type} (L:YU) (Γ:Callees R) (hint:Hint R) (n:Nat) (fn:Func) (args:List AV) (H:fa) (k:AV→fa→Option R) (pn:AV→fa→Option R):Option R:=
 match fn.body with
 | some c=>gu L Γ hint n c 0 (fun e fr H=>match e with
  | .normal=>match PE L fr H fn.results.toList with
   | some l=>k (SD l) H
   | none=>none
  | .ret=>match PE L fr H fn.results.toList with
   | some l=>k (SD l) H
   | none=>none
  | .panic v=>pn v H
  | .exit _=>none) (eA fn.ntmps args) H
 | none=>none
variable {B:Nat→Prop} {w0:World} {I0:Nat→Prop} {R:Type} {r:R}
theorem AK (hL:Za P L) {E:Env} (hS:St g B w0 I0 E) {fr:List AV} {tmps:Array Value} (hfr:E.L fr tmps.toList):∀ {rs:List ResultVar} {l:List AV},PE L fr E.H rs=some l→∃ vs:List Value,(rs.mapM (m:=Sem) fun
   | .tmp t=>pure (tmps.getD t undef)
   | .cell a t=>do loadVar t (←asAddr (tmps.getD a undef))).run P E.w=.ok vs E.w∧E.L l vs
 | [],l,h=>by simp only [PE] at h;cases h;exact ⟨[],rfl,by simp [Env.L,LR]⟩
 | x::xs,l,h=>by
  simp only [PE] at h
  split at h
  · rename_i a l' ha hl
    cases h
    obtain ⟨vs,h1,h2⟩:=AK hL hS hfr hl
    have htmp:∀ t,E.V (fr.getD t (.b undef)) (tmps.getD t undef):=fun t=>Hq (a:={ tmps,defers:=[] }) hfr (.tmp t)
    have key:∃ v,(match x with
      | .tmp t=>(pure (tmps.getD t undef):Sem Value)
      | .cell a t=>do loadVar t (←asAddr (tmps.getD a undef))).run P E.w=.ok v E.w∧E.V a v:=by
     cases x with
     | tmp t=>simp only [eT] at ha;cases ha;exact ⟨_,rfl,htmp t⟩
     | cell q t=>
      simp only [eT] at ha
      split at ha
      · rename_i _ _ y r' i j hy he
        have hq:=htmp q
        rw [he] at hq
        have hload:=NO (P:=P) (k:=some) (r:=a) (ev:=fun _=>.ptr r' i j) (ρ:=fun _=>tmps.getD q undef) (t:=t) (a:=.tmp 0) hL hS.rows hS.isz (fun _=>hq) (by
         simp only [PV,hy]
         exact ha)
        obtain ⟨av,v,e1,e2,e3⟩:=hload
        cases e1
        refine ⟨v,?_,e2⟩
        have:=e3 E.w (Below.refl _ _)
        simp only [Env.V,VR] at hq
        obtain ⟨_,_,_,_,_,_,hv⟩:=hq
        unfold Instr.loadAt at this
        show (do loadVar t (←asAddr (tmps.getD q undef)):Sem Value).run P E.w=_
        rw [hv] at this ⊢
        simpa [Instr.sureAddr,asAddr] using this
      · cases ha
    obtain ⟨v,k1,k2⟩:=key
    refine ⟨v::vs,?_,by simp only [Env.L,LR];exact ⟨k2,h2⟩⟩
    simp only [List.mapM_cons,Sem.run_bind,Sem.run_pure]
    rw [k1]
    simp only [Result.andThen_ok,h1,Sem.run_pure]
  · cases h
theorem eo (hL:Za P L) {E:Env} (hS:St g B w0 I0 E) {fr:List AV} {tmps:Array Value} (hfr:E.L fr tmps.toList) {fn:Func} {l:List AV} (h:PE L fr E.H fn.results.toList=some l):
  ∃ v,(results fn tmps).run P E.w=.ok v E.w∧E.V (SD l) v:=by
 obtain ⟨vs,h1,h2⟩:=AK hL hS hfr h
 have hm:(fn.results.mapM (m:=Sem) fun
   | .tmp t=>pure (tmps.getD t undef)
   | .cell a t=>do loadVar t (←asAddr (tmps.getD a undef))).run P E.w=.ok vs.toArray E.w:=by
  rw [Array.mapM_eq_mapM_toList,Sem.run_map,h1];rfl
 have hr:(results fn tmps).run P E.w=.ok (if h:vs.toArray.size=1 then vs.toArray[0] else .tuple vs.toArray) E.w:=by
  unfold results
  rw [Sem.run_bind]
  exact Eq.trans (congrArg (fun x=>Result.andThen x _) hm) rfl
 refine ⟨_,hr,?_⟩
 rcases vs with _ | ⟨v,_ | ⟨v2,vs⟩⟩
 · cases l with
   | nil=>simp only [SD,Env.V,VR];exact ⟨#[],by simp,h2⟩
   | cons x xs=>simp [Env.L,LR] at h2
 · cases l with
   | nil=>simp [Env.L,LR] at h2
   | cons x xs=>
    cases xs with
    | nil=>simp only [Env.L,LR] at h2;exact h2.1
    | cons y ys=>simp [Env.L,LR] at h2
 · cases l with
   | nil=>simp [Env.L,LR] at h2
   | cons x xs=>
    cases xs with
    | nil=>simp [Env.L,LR] at h2
    | cons y ys=>simp only [SD,Env.V,VR];exact ⟨_,by simp,h2⟩
theorem aK (hL:Za P L) {Γ:Callees R} (hP:PureOk P g Γ) (hG:CsOk P g Γ) (hm:P.follows .mixedOrders=true) {hint:Hint R} {n:Nat} {f:FuncId} {fn:Func} (hf:P.funcs[f]?=some fn) (hR:∀ c,fn.body=some c→sa L Γ hint n c 0)
  {args:List AV} {vs:List Value} {E:Env} (hS:St g B w0 I0 E) (hargs:E.L args vs) {k:AV→fa→Option R} {pn:AV→fa→Option R} (h:rV L Γ hint n fn args E.H k pn=some r) {Q:Ending→World→Prop}
  (hk:∀ av v E',St g B w0 I0 E'→E'.V av v→k av E'.H=some r→Q (.returned v) E'.w)
  (hp:∀ av v E',St g B w0 I0 E'→E'.V av v→pn av E'.H=some r→Q (.panicked [{ v,recovered:=false }]) E'.w):Calls P f vs.toArray E.w Q:=by
 unfold rV at h
 split at h
 · rename_i c hc
   refine calls_of_wp hf hc ?_
   have hlen:args.length=vs.length:=Xd hargs
   refine nt (ds:=[]) hL hP hG hm c 0 (hR c hc) _ _ _ E _ h hS ?_ rfl ⟨fun fr E' a h1 h2 h3 h4=>?_,fun id fr E' a h1 h2 h3 h4=>?_,fun fr E' a h1 h2 h3 h4=>?_,fun av v fr E' a h1 _ h2 h3 h4=>?_⟩
   · unfold eA
     simp only [Array.toList_append,Array.toList_replicate,List.size_toArray,hlen]
     refine xo hargs ?_
     generalize fn.ntmps - vs.length=q
     induction q with
     | zero=>simp [Env.L,LR]
     | succ q ih=>simp only [List.replicate_succ,Env.L,LR];exact ⟨V_b.2 rfl,ih⟩
   · simp only at h4
     split at h4
     · rename_i l hl
       obtain ⟨v,hv,hV⟩:=eo hL h1 h2 hl
       exact ⟨h3,v,hv,hk _ v E' h1 hV h4⟩
     · cases h4
   · simp only at h4;cases h4
   · simp only at h4
     split at h4
     · rename_i l hl
       obtain ⟨v,hv,hV⟩:=eo hL h1 h2 hl
       exact ⟨h3,v,hv,hk _ v E' h1 hV h4⟩
     · cases h4
   · exact ⟨h3,hp av v E' h1 h2 h4⟩
 · cases h
def aa (fn:Func):Code:=fn.body.getD .skip
theorem Ra {R:Type} {L:YU} {Γ:Callees R} {hint:Hint R} {n:Nat} {fn:Func} (h:sa L Γ hint n (aa fn) 0):∀ c,fn.body=some c→sa L Γ hint n c 0:=fun c hc=>by
 have:aa fn=c:=by unfold aa;rw [hc];rfl
 exact this▸h
def Ba:List Nat→Code→Code
 | [],c=>c
 | q::p,c=>match c with
  | .seq a b=>Ba p (jV (Nat.beq q 0) a b)
  | .cond _ a b=>Ba p (jV (Nat.beq q 0) a b)
  | .block _ c=>Ba p c
  | .loop c=>Ba p c
  | _=>.skip
def rI {R:Type} (k:AV→Option R):AV→fa→Option R:=fun v H=>jV (ao (Wk H v)) (k (Wk H v)) none
theorem BJ {E:Env} {c:AV→Out} {out:Out} {av:AV} {v:Value} (hS:St g B w0 I0 E) (hV:E.V av v) (h:rI (fun v=>some (c v)) av E.H=some out):c (Wk E.H av)=out∧ao (Wk E.H av)=true∧
  VR E.w (fun b=>E.I b∨(¬B b∧b<E.w.heap.size)) Kn Ya (Wk E.H av) v:=by
 unfold rI at h
 obtain ⟨hp,h⟩:=ja h
 refine ⟨by simpa using h,hp,?_⟩
 exact NS (aC hp (NK hS (J:=fun b=>E.I b∨(¬B b∧b<E.w.heap.size)) (fun b hb=>.inl hb) (fun b h1 h2=>.inr ⟨h1,h2⟩) hV))
theorem YK (hL:Za P L) {Γ:Callees Out} (hp:PureOk P g Γ) (hc:CsOk P g Γ) (hm:P.follows .mixedOrders=true) {hint:Hint Out} {n:Nat} {f:FuncId} {fn:Func} (hf:P.funcs[f]?=some fn) (hR:∀ c,fn.body=some c→sa L Γ hint n c 0) {args:List AV} {out:Out}
  (h:rV L Γ hint n fn args [] (rI fun v=>some (.ret v)) (rI fun v=>some (.pan v))=some out):Ans P g f args out:=by
 intro w I vs hI hg hn hargs
 have hS:St g (fun k=>k<w.heap.size) w I { w:=w,I:=I,m:=Kn,H:=[] }:=⟨Kept.refl _ _,fun k h=>h,fun k hk=>Nat.lt_of_lt_of_le hk hn,hn,hg,hI,fun b h=>h,fun b h=>.inl h,fun r W h=>by simp at h,fun r r' W W' h=>by simp at h,fun r W h=>by simp at h,fun r W τ n xs h=>by simp at h⟩
 have htab:VV []=Ya:=by funext q;simp [VV,Ya]
 refine aK hL hp hc hm hf hR hS (args:=args) (vs:=vs) (by simp only [Env.L,htab];exact hargs) h (fun av v E' hS' hV hh=>?_) (fun av v E' hS' hV hh=>?_)
 · obtain ⟨rfl,h2,h3⟩:=BJ hS' hV hh
   exact ⟨v,_,rfl,hS'.below.below (fun k h=>h),fun b hb=>.inl (hS'.imono b hb),fun b hb=>hb.elim (fun h=>(hS'.ifresh b h).imp_right Nat.le_of_not_lt) (fun h=>.inr (Nat.le_of_not_lt h.1)),fun b hb=>hb.elim (fun h=>hS'.isz b h) (fun h=>h.2),h3⟩
 · obtain ⟨rfl,h2,h3⟩:=BJ hS' hV hh
   exact ⟨v,_,rfl,hS'.below.below (fun k h=>h),fun b hb=>.inl (hS'.imono b hb),fun b hb=>hb.elim (fun h=>(hS'.ifresh b h).imp_right Nat.le_of_not_lt) (fun h=>.inr (Nat.le_of_not_lt h.1)),fun b hb=>hb.elim (fun h=>hS'.isz b h) (fun h=>h.2),h3⟩
def yV:AV→AV
 | .ptr r i j=>.ptr r i j
 | _=>.top
theorem qa (hL:Za P L) {es:List Entry} (hes:AllOk P g es) (hm:P.follows .mixedOrders=true) {hint:Hint Out} {n:Nat} {f:FuncId} {fn:Func} (hf:P.funcs[f]?=some fn) (hR:∀ c,fn.body=some c→sa L (ea Out es) hint n c 0) {args:List AV} {out:Out}
  (h:rV L (ea Out es) hint n fn args [] (rI fun v=>some (.ret v)) (rI fun v=>some (.pan v))=some out):Ans P g f args out:=YK hL (cl hes) (jt hes) hm hf hR h
def dl (args:List AV):Row:=⟨0,0,0,.box (args.map yV),true,false,false,false⟩
def EV (H:fa):Bool:=H.all fun o=>match o with
 | some W=>!(Nat.beq W.k 0) || W.pf
 | none=>true
def qT (pan:Bool) (ga:List AV) (v:AV) (H:fa) (o:List Nat):Option OutS:=jV (EV (FK o H)) (some ⟨pan,wy (yF o) ga,ren (yF o) v,FK o H⟩) none
def sF:Option Row→Option (List AV)
 | some ⟨_,0,_,.box l,_,false,_,_⟩=>some l
 | _=>none
def JC (H:fa):Option (List AV):=match NH 0 H with
 | [gi]=>sF (Kd H gi)
 | _=>none
theorem Ny {E:Env} {l:List AV} (hS:St g B w0 I0 E) (h:JC E.H=some l):E.L l g.gs:=by
 unfold JC at h
 split at h
 · rename_i gi hgi
   generalize hr:Kd E.H gi=o at h
   unfold sF at h
   split at h
   · cases h
     have hW:=rowAtH_some.1 hr
     have hga:=(hS.rows _ _ hW).gh l rfl rfl rfl
     rwa [hS.gse _ _ hW rfl rfl] at hga
   · cases h
 · cases h
def XQ (pan:Bool) (v:AV) (H:fa):Option OutS:=match JC H with
 | some ga=>qT pan ga v H (order (ga++[v]) H)
 | _=>none
def EO {R:Type}:List Nat→AV→fa→(AV→fa→Option R)→Option R
 | [],v,H,k=>k v H
 | r::rs,v,H,k=>match Kd H r with
  | some W=>match W.ex with
   | .typ τ xs=>jV (W.pf&&Nat.beq W.k τ.size) (EO rs (vV r (.snap τ W.n xs) v) (wo H r) k) (EO rs v H k)
   | _=>EO rs v H k
  | none=>EO rs v H k
theorem My {k:AV→fa→Option R}:∀ (rs:List Nat) {E:Env} {av:AV} {v:Value},St g B w0 I0 E→E.V av v→EO rs av E.H k=some r→∃ E2 av2,E2.w=E.w∧St g B w0 I0 E2∧E2.V av2 v∧k av2 E2.H=some r
 | [],E,av,v,hS,hV,h=>⟨E,av,rfl,hS,hV,h⟩
 | r'::rs,E,av,v,hS,hV,h=>by
  simp only [EO] at h
  split at h
  · rename_i W hW
    have hW:=rowAtH_some.1 hW
    split at h
    · rename_i τ xs hex
      cases hc:W.pf&&Nat.beq W.k τ.size with
      | false=>rw [hc] at h;exact My rs hS hV h
      | true=>
       rw [hc,cnd_true] at h
       rw [Bool.and_eq_true] at hc
       obtain ⟨s1,s2⟩:=hS.freeze hW
       have hs:∀ n v,E.V (.sl r' n) v→({ E with I:=fL E r',H:=wo E.H r' }:Env).V (.snap τ W.n xs) v:=fun n v hv=>by
        have hn:n=W.n:=by
         have:=hv
         simp only [Env.V,VR] at this
         obtain ⟨⟨kk,hT⟩,_⟩:=this
         exact (si hW hT).2
        subst hn
        exact Bj hS hW hex hc.1 (Nat.eq_of_beq_eq_true hc.2) hv
       obtain ⟨E2,av2,h1,h2,h3,h4⟩:=My rs s1 (cK s2 hs av v hV) h
       exact ⟨E2,av2,h1,h2,h3,h4⟩
    · exact My rs hS hV h
  · exact My rs hS hV h
def US (v:AV) (i j:Nat):Option AV:=match v with
 | .tup l=>match l[i]? with
  | some (.agg cs)=>cs[j]?
  | _=>none
 | .agg cs=>cs[j]?
 | _=>none
def MS (v:AV) (i j:Nat) (x:AV):AV:=match v with
 | .tup l=>match l[i]? with
  | some (.agg cs)=>.tup (l.set i (.agg (cs.set j x)))
  | _=>v
 | .agg cs=>.agg (cs.set j x)
 | v=>v
theorem xP {E E2:Env} (hx:Ext gj E E2) {av x:AV} {i j:Nat} {u v:Value} (h:E.V av v) (hg:US av i j=some (.b u)) (hn:E2.V x u):E2.V (MS av i j x) v:=by
 have agg:∀ (cs:List AV) (a:Array Value),E.L cs a.toList→cs[j]?=some (.b u)→E2.L (cs.set j x) a.toList:=fun cs a hl hj=>by
  obtain ⟨u',h1,h2⟩:=qd hl j _ hj
  simp only [VR] at h2
  subst h2
  exact iH (hx.L (Sa _) hl) h1 hn
 cases av with
 | agg cs=>
  simp only [Env.V,VR] at h
  obtain ⟨a,rfl,h⟩:=h
  simp only [MS,Env.V,VR]
  exact ⟨a,rfl,agg cs a h hg⟩
 | tup l=>
  have h0:=h
  simp only [Env.V,VR] at h
  obtain ⟨a,rfl,h⟩:=h
  simp only [US] at hg
  split at hg
  · rename_i cs hc
    simp only [MS,hc,Env.V,VR]
    obtain ⟨y,h1,h2⟩:=qd h i _ hc
    simp only [VR] at h2
    obtain ⟨a2,rfl,h2⟩:=h2
    refine ⟨a,rfl,iH (hx.L (Sa _) h) h1 ?_⟩
    simp only [Env.V,VR]
    exact ⟨a2,rfl,agg cs a2 h2 hg⟩
  · cases hg
 | _=>cases hg
def vM {R:Type} (L:YU):List (Nat×Nat×TypeId)→AV→fa→(AV→fa→Option R)→Option R
 | [],v,H,k=>k v H
 | (i,j,e)::ps,v,H,k=>match US v i j with
  | some (.b (.slice none 0 0))=>match ec L e with
   | some ye=>vM L ps (MS v i j (.sl H.length 0)) (H++[some (Wq L e ye)]) k
   | none=>none
  | _=>vM L ps v H k
theorem LG {k:AV→fa→Option R}:∀ (ps:List (Nat×Nat×TypeId)) {E:Env} {av:AV} {v:Value},St g B w0 I0 E→E.V av v→vM L ps av E.H k=some r→∃ E2 av2,E2.w=E.w∧St g B w0 I0 E2∧E2.V av2 v∧k av2 E2.H=some r
 | [],E,av,v,hS,hV,h=>⟨E,av,rfl,hS,hV,h⟩
 | (i,j,e)::ps,E,av,v,hS,hV,h=>by
  simp only [vM] at h
  split at h
  · rename_i hg
    split at h
    · rename_i ye hye
      obtain ⟨s1,s2⟩:=hS.ghostC (W:=Wq L e ye) Tk [] 1 (fun hc=>(by cases hc)) rfl rfl rfl (fun l _ hp=>(by cases hp)) (fun _ hp=>(by cases hp))
      obtain ⟨E2,av2,h1,h2,h3,h4⟩:=LG ps s1 (xP s2 hV hg (x:=.sl E.H.length 0) (by
       simp only [Env.V,VR]
       refine ⟨⟨ye.size,by simp [VV,Wq,Jc]⟩,?_⟩
       rw [eb]
       simp)) h
      exact ⟨E2,av2,h1,h2,h3,h4⟩
    · cases h
  · exact LG ps hS hV h
def nP (L:YU) (t j:Nat) (how:How) (r:Nat) (av:AV) (H:fa):fa:=match Kd H r with
 | some W=>jV (Nat.beq W.t t&&W.box&&Nat.blt 0 W.k) (match W.ex with
  | .box l=>match l[j]?,how with
   | some (.b (.slice none 0 0)),.prm e=>match ec L e with
    | some ye=>OE (H++[some (Wq L e ye)]) r W l j (.sl H.length 0)
    | none=>H
   | some (.b (.slice none 0 0)),.frz τ=>OE H r W l j (.snap τ 0 (fun _=>ra τ))
   | some (.sl q n),.frz _=>match Kd H q with
    | some V=>match V.ex with
     | .typ σ xs=>jV (V.pf&&Nat.beq V.k σ.size&&!W.pf&&rf (fun p=>!(Nat.beq p q)) av) (match Kd (wo H q) r with
      | some W2=>match W2.ex with
       | .box l2=>OE (wo H q) r W2 l2 j (.snap σ V.n xs)
       | _=>H
      | none=>H) H
     | _=>H
    | none=>H
   | _,_=>H
  | _=>H) H
 | none=>H
def pP (L:YU) (t j:Nat) (how:How) (av:AV):Nat→fa→fa
 | 0,H=>H
 | r+1,H=>pP L t j how av r (nP L t j how r av H)
def cN (L:YU) (av:AV):List (TypeId×Nat×How)→fa→fa
 | [],H=>H
 | (t,j,how)::ns,H=>cN L av ns (pP L t j how av H.length H)
section
variable {P:Program} {L:YU} {g:Glob} {B:Nat→Prop} {w0:World} {I0:Nat→Prop} {E:Env}
theorem dN (h:St g B w0 I0 E) {av:AV} {v:Value} (hv:E.V av v) (L:YU) (t j:Nat) (how:How) (r:Nat):
  ∃ E2,E2.w=E.w∧St g B w0 I0 E2∧E2.V av v∧E2.H=nP L t j how r av E.H:=by
 have same:∃ E2,E2.w=E.w∧St g B w0 I0 E2∧E2.V av v∧E2.H=E.H:=⟨E,rfl,h,hv,rfl⟩
 unfold nP
 split
 · rename_i W hW
   have hW:=rowAtH_some.1 hW
   cases hc:Nat.beq W.t t&&W.box&&Nat.blt 0 W.k with
   | false=>exact same
   | true=>
    rw [cnd_true]
    simp only [Bool.and_eq_true] at hc
    obtain ⟨⟨_,hb⟩,hk⟩:=hc
    have hk:0<W.k:=Nat.le_of_ble_eq_true hk
    split
    · rename_i l hl
      split
      · rename_i e hj
        split
        · rename_i ye hye
          obtain ⟨s1,s2⟩:=h.ghostC (W:=Wq L e ye) Tk [] 1 (fun hc=>(by cases hc)) rfl rfl rfl (fun l _ hp=>(by cases hp)) (fun _ hp=>(by cases hp))
          have hW1:(E.H++[some (Wq L e ye)])[r]?=some (some W):=by
           rw [List.getElem?_append_left (List.getElem?_eq_some_iff.1 hW).1];exact hW
          have hmr:iW E.m E.H.length ⟨0,1,false,[]⟩ r=E.m r:=Vi _ _ (by have:=(List.getElem?_eq_some_iff.1 hW).1;omega)
          obtain ⟨t1,t2⟩:=s1.red (r:=r) (W:=W) hW1 hk hb hl (j:=j) (x:=.sl E.H.length 0) (fun u hu=>by
           have hu':∃ arr fz,E.w.heap[(iW E.m E.H.length ⟨0,1,false,[]⟩ r).blk]?=some (.cells arr W.t fz)∧arr[j]?=some u:=hu
           rw [hmr] at hu'
           have hu:=h.box_val hW hb hl hj hu'
           simp only [Env.V,VR] at hu
           subst hu
           simp only [Env.V,VR]
           refine ⟨⟨ye.size,by simp [VV,Wq,Jc]⟩,?_⟩
           rw [eb]
           simp)
          exact ⟨{ w:=E.w,I:=E.I,m:=iW E.m E.H.length ⟨0,1,false,[]⟩,H:=OE (E.H++[some (Wq L e ye)]) r W l j (.sl E.H.length 0) },rfl,t1,t2.V (re _) (s2.V (re _) hv),rfl⟩
        · exact same
      · rename_i τ hj
        obtain ⟨t1,t2⟩:=h.red hW hk hb hl (j:=j) (x:=.snap τ 0 (fun _=>ra τ)) (fun u hu=>by
         have hu:=h.box_val hW hb hl hj hu
         simp only [Env.V,VR] at hu
         subst hu
         simp only [Env.V,Cj]
         exact ⟨none,0,rfl,Nat.le_refl _,fun h0=>absurd h0 (Nat.lt_irrefl _)⟩)
        exact ⟨{ E with H:=OE E.H r W l j (.snap τ 0 (fun _=>ra τ)) },rfl,t1,t2.V (re _) hv,rfl⟩
      · rename_i q n τ hj
        split
        · rename_i V hV
          have hV:=rowAtH_some.1 hV
          split
          · rename_i σ xs hex
            cases hc:V.pf&&Nat.beq V.k σ.size&&!W.pf&&rf (fun p=>!(Nat.beq p q)) av with
            | false=>exact same
            | true=>
             rw [cnd_true]
             simp only [Bool.and_eq_true] at hc
             obtain ⟨⟨⟨hp,hk2⟩,hwp⟩,hrf⟩:=hc
             obtain ⟨s1,s2⟩:=h.freeze hV
             split
             · rename_i W2 hW2
               have hW2:=rowAtH_some.1 hW2
               split
               · rename_i l2 hl2
                 have hqr:q≠r:=fun e=>by
                  subst e
                  rw [hW] at hV
                  cases hV
                  rw [hl] at hex;cases hex
                 have e2:W2=jm (fun p=>!(Nat.beq p q)) W:=by
                  have h9:=hW2
                  unfold wo at h9
                  rw [List.getElem?_set,if_neg hqr,Ec,hW] at h9
                  simpa using h9.symm
                 obtain ⟨t1,t2⟩:=s1.red (r:=r) (W:=W2) hW2 (by rw [e2];exact hk) (by rw [e2];exact hb) hl2 (j:=j) (x:=.snap σ V.n xs) (fun u hu=>by
                  have ht:W2.t=W.t:=by rw [e2];rfl
                  rw [ht] at hu
                  have hu:=h.box_val hW hb hl hj hu
                  have hn:n=V.n:=by
                   have:=hu
                   simp only [Env.V,VR] at this
                   obtain ⟨⟨kk,hT⟩,_⟩:=this
                   exact (si hV hT).2
                  subst hn
                  exact Bj h hV hex hp (Nat.eq_of_beq_eq_true hk2) hu)
                 exact ⟨{ w:=E.w,I:=fL E q,m:=E.m,H:=OE (wo E.H q) r W2 l2 j (.snap σ V.n xs) },rfl,t1,t2.V (re _) (s2.V hrf hv),rfl⟩
               · exact same
             · exact same
          · exact same
        · exact same
      · exact same
    · exact same
 · exact same
theorem rK (L:YU) (t j:Nat) (how:How) (av:AV) (v:Value):∀ (n:Nat) {E:Env},St g B w0 I0 E→E.V av v→∃ E2,E2.w=E.w∧St g B w0 I0 E2∧E2.V av v∧E2.H=pP L t j how av n E.H
 | 0,E,h,hv=>⟨E,rfl,h,hv,rfl⟩
 | r+1,E,h,hv=>by
  obtain ⟨E1,e1,h1,v1,k1⟩:=dN h hv L t j how r
  obtain ⟨E2,e2,h2,v2,k2⟩:=rK L t j how av v r h1 v1
  exact ⟨E2,e2.trans e1,h2,v2,by rw [k2,k1];rfl⟩
theorem sG (L:YU) (av:AV) (v:Value):∀ (ns:List (TypeId×Nat×How)) {E:Env},St g B w0 I0 E→E.V av v→∃ E2,E2.w=E.w∧St g B w0 I0 E2∧E2.V av v∧E2.H=cN L av ns E.H
 | [],E,h,hv=>⟨E,rfl,h,hv,rfl⟩
 | (t,j,how)::ns,E,h,hv=>by
  obtain ⟨E1,e1,h1,v1,k1⟩:=rK L t j how av v E.H.length h hv
  obtain ⟨E2,e2,h2,v2,k2⟩:=sG L av v ns h1 v1
  exact ⟨E2,e2.trans e1,h2,v2,by rw [k2,k1];rfl⟩
end
def oP {R:Type} (L:YU) (ns:List (TypeId×Nat×How)) (v:AV) (H:fa) (k:AV→fa→Option R):Option R:=match ns with
 | []=>k v H
 | n::ns=>k v (cN L v (n::ns) H)
def SS {R:Type} (L:YU) (hint:Hint OutS) (args:List AV) (H:fa) (k:List AV→fa→Option R):Option R:=
 jV hint.na (EO (jN (.tup args)) (.tup args) H fun v H=>oP L hint.ne v H fun v H=>match v with
  | .tup args=>k args H
  | _=>none) (match hint.ne with
  | []=>k args H
  | n::ns=>k args (cN L (.tup args) (n::ns) H))
theorem qK {L:YU} {g:Glob} {B:Nat→Prop} {w0:World} {I0:Nat→Prop} {R:Type} {r:R} {k:AV→fa→Option R} {ns:List (TypeId×Nat×How)} {E:Env} {av:AV} {v:Value} (h:St g B w0 I0 E) (hv:E.V av v) (hk:oP L ns av E.H k=some r):
  ∃ E2,E2.w=E.w∧St g B w0 I0 E2∧E2.V av v∧k av E2.H=some r:=by
 cases ns with
 | nil=>exact ⟨E,rfl,h,hv,hk⟩
 | cons n ns=>
  obtain ⟨E1,e1,h1,v1,k1⟩:=sG L av v (n::ns) h hv
  exact ⟨E1,e1,h1,v1,by rw [k1];exact hk⟩
theorem V_tup {E:Env} {l:List AV} {vs:List Value}:E.V (.tup l) (.tuple vs.toArray)↔E.L l vs:=by
 simp only [Env.V,Env.L,VR]
 constructor
 · rintro ⟨a,ha,h⟩
   cases ha
   simpa using h
 · intro h
   exact ⟨_,rfl,by simpa using h⟩
theorem gP {L:YU} {g:Glob} {B:Nat→Prop} {w0:World} {I0:Nat→Prop} {R:Type} {r:R} {k:List AV→fa→Option R} {hint:Hint OutS} {E:Env} {args:List AV} {vs:List Value} (h:St g B w0 I0 E) (hv:E.L args vs) (hk:SS L hint args E.H k=some r):
  ∃ E2 args2,E2.w=E.w∧St g B w0 I0 E2∧E2.L args2 vs∧k args2 E2.H=some r:=by
 unfold SS at hk
 cases hna:hint.na with
 | true=>
  rw [hna,cnd_true] at hk
  obtain ⟨E1,av1,g1,g2,g3,g4⟩:=My _ h (V_tup.2 hv) hk
  obtain ⟨E2,e2,h2,v2,k2⟩:=qK g2 g3 g4
  split at k2
  · exact ⟨E2,_,e2.trans g1,h2,V_tup.1 v2,k2⟩
  · cases k2
 | false=>
  rw [hna,cnd_false] at hk
  split at hk
  · exact ⟨E,args,rfl,h,hv,hk⟩
  · rename_i n ns hne
    obtain ⟨E1,e1,h1,v1,k1⟩:=sG L _ _ (n::ns) h (V_tup.2 hv)
    exact ⟨E1,args,e1,h1,V_tup.1 v1,by rw [k1];exact hk⟩
noncomputable def tV (L:YU) (Γ:Callees OutS) (hint:Hint OutS) (n:Nat) (fn:Func) (args:List AV) (H:fa):Option OutS:=
 jV (EV H) (SS L hint args H fun args H=>jV (EV H) (rV L Γ hint n fn args (H++[some (dl args)]) (fun v H'=>vM L hint.pr v H' fun v H'=>oP L hint.nb v H' fun v H'=>jV hint.fz (EO (jN v) v H' (XQ false)) (XQ false (jV hint.dv .top v) H')) (XQ true)) none) none
theorem cR {H:fa} (h:EV H=true) {r:Nat} {W:Row} (hW:H[r]?=some (some W)) (hk:W.k=0):W.pf=true:=by
 have:=List.all_eq_true.1 h _ (List.mem_of_getElem? hW)
 simp only [hk] at this
 simpa using this
theorem St.regs {gs:List Value} {E:Env} (h:St g B w0 I0 E) (hn:EV E.H=true):St { g with gs:=gs } B w0 I0 E:=
 ⟨h.below,h.hB,h.hn,h.gn,h.glob,h.isz,h.imono,h.ifresh,h.rows,h.inj,fun r W hW hk hp=>(by rw [cR hn hW hk] at hp;cases hp),h.mp⟩
theorem PureOk.regs {Γ:Callees R} {gs:List Value} (h:PureOk P g Γ):PureOk P { g with gs:=gs } Γ:=⟨h.enters,h.xok,h.xid,h.ans⟩
theorem CsOk.regs {Γ:Callees R} {gs:List Value} (h:CsOk P g Γ):CsOk P { g with gs:=gs } Γ:=⟨h.ans⟩
theorem eK {E:Env}:∀ {l:List AV} {vs:List Value},E.L l vs→E.L (l.map yV) vs
 | [],[],_=>by simp [Env.L,LR]
 | [],_::_,h=>by simp [Env.L,LR] at h
 | _::_,[],h=>by simp [Env.L,LR] at h
 | x::xs,v::vs,h=>by
  simp only [Env.L,LR] at h
  simp only [List.map_cons,Env.L,LR]
  refine ⟨?_,eK h.2⟩
  unfold yV
  split
  · exact h.1
  · simp [VR]
theorem PureOk.keep {Γ:Callees R} (h:PureOk P g Γ):PureOk P g Γ.keep:=⟨h.enters,h.xok,h.xid,h.ans⟩
theorem PureOk.view {Γ:Callees R} (h:PureOk P g Γ) (fs:List Nat):PureOk P g (Γ.view fs):=⟨h.enters,h.xok,h.xid,h.ans⟩
theorem CsOk.view {Γ:Callees R} (h:CsOk P g Γ) (fs:List Nat):CsOk P g (Γ.view fs):=⟨h.ans⟩
theorem CsOk.keep {Γ:Callees R} (h:CsOk P g Γ):CsOk P g Γ.keep:=⟨h.ans⟩
theorem zC (hL:Za P L) {Γ:Callees OutS} (hp:PureOk P g Γ) (hc:CsOk P g Γ) (hm:P.follows .mixedOrders=true) {hint:Hint OutS} {n:Nat} {f:FuncId} {fn:Func} (hf:P.funcs[f]?=some fn) (hR:∀ c,fn.body=some c→sa L Γ hint n c 0) {args:List AV} {H:fa} {out:OutS}
  (h:tV L Γ hint n fn args H=some out):LM P g f args H out:=by
 intro gs B E vs hS hH hargs
 subst hH
 unfold tV at h
 obtain ⟨hno0,h⟩:=ja h
 obtain ⟨E1,args1,hE1,hS,hargs,h⟩:=gP hS hargs h
 obtain ⟨hno,h⟩:=ja h
 have hS0:St { g with gs:=vs } B E.w E.I E1:=hS.regs (g:={ g with gs:=gs }) hno
 obtain ⟨s1,s2⟩:=hS0.ghost (W:=dl args1) (fun _ _ _ h=>by cases h) vs rfl rfl rfl (fun l _ _ hl=>by cases hl;exact eK hargs) (fun _ _=>rfl)
 have fin:∀ {E':Env} {pan:Bool} {av:AV} {v:Value},St { g with gs:=vs } B E.w E.I E'→E'.V av v→XQ pan av E'.H=some out→
   ∃ E2,E2.w=E'.w∧out.pan=pan∧St { g with gs:=gs } B E.w E.I E2∧E2.H=out.H∧E2.L out.ga vs∧E2.V out.v v:=fun {E' pan av v} hS' hV hh=>by
  unfold XQ at hh
  split at hh
  · rename_i ga hrow
    have hga:=Ny hS' hrow
    unfold qT at hh
    obtain ⟨hno',hh⟩:=ja hh
    cases hh
    have hgc:=hS'.gc (Yj (ga++[av]) E'.H)
    exact ⟨YB E' (order (ga++[av]) E'.H),rfl,rfl,hgc.regs (g:={ g with gs:=vs }) hno',rfl,Ut (fun b hb=>⟨hb,rfl⟩) ga _ _ vs (fun r p q hT hq=>Pl hT hq) hga,eF (fun b hb=>⟨hb,rfl⟩) av _ _ v (fun r p q hT hq=>Pl hT hq) hV⟩
  · cases hh
 suffices key:Calls P f vs.toArray E1.w (fun e w'=>∃ v E',e=jV out.pan (.panicked [{ v,recovered:=false }]) (.returned v)∧E'.w=w'∧St { g with gs:=gs } B E.w E.I E'∧E'.H=out.H∧E'.L out.ga vs∧E'.V out.v v) by
  rw [hE1] at key;exact key
 refine aK hL hp.regs hc.regs hm hf hR s1 (s2.L (Sa _) hargs) h (fun av v E' hS' hV hh=>?_) (fun av v E' hS' hV hh=>?_)
 · obtain ⟨E0,av,f0,hS',hV,hh⟩:=LG _ hS' hV hh
   obtain ⟨E0',f1',hS',hV,hh⟩:=qK hS' hV hh
   have f1:=f1'.trans f0
   cases hfz:hint.fz with
   | true=>
    rw [hfz,cnd_true] at hh
    obtain ⟨E1,av1,g1,g2,g3,g4⟩:=My _ hS' hV hh
    obtain ⟨E2,h1,h2,h3,h4,h5,h6⟩:=fin g2 g3 g4
    exact ⟨v,E2,by rw [h2];rfl,(h1.trans g1).trans f1,h3,h4,h5,h6⟩
   | false=>
   rw [hfz,cnd_false] at hh
   obtain ⟨E2,h1,h2,h3,h4,h5,h6⟩:=fin (av:=jV hint.dv .top av) (v:=v) hS' (by
    cases hint.dv with
    | true=>simp [Env.V,VR]
    | false=>exact hV) hh
   exact ⟨v,E2,by rw [h2];rfl,h1.trans f1,h3,h4,h5,h6⟩
 · obtain ⟨E2,h1,h2,h3,h4,h5,h6⟩:=fin hS' hV hh
   exact ⟨v,E2,by rw [h2];rfl,h1,h3,h4,h5,h6⟩
theorem Ab (hL:Za P L) {es:List Entry} (hes:AllOk P g es) (hm:P.follows .mixedOrders=true) {hint:Hint OutS} {n:Nat} {f:FuncId} {fn:Func} (hf:P.funcs[f]?=some fn) (hR:∀ c,fn.body=some c→sa L (ea OutS es) hint n c 0) {args:List AV} {H:fa} {out:OutS}
  (h:tV L (ea OutS es) hint n fn args H=some out):LM P g f args H out:=zC hL (cl hes) (jt hes) hm hf hR h
theorem SI (hL:Za P L) {es:List Entry} (hes:AllOk P g es) (hm:P.follows .mixedOrders=true) {hint:Hint OutS} {n:Nat} {f:FuncId} {fn:Func} (hf:P.funcs[f]?=some fn) (hR:∀ c,fn.body=some c→sa L (ea OutS es).keep hint n c 0) {args:List AV} {H:fa} {out:OutS}
  (h:tV L (ea OutS es).keep hint n fn args H=some out):LM P g f args H out:=zC hL (cl hes).keep (jt hes).keep hm hf hR h
end
open Go Go.RowKit
inductive RT where
 | one (a:CTy)
 | many (τ:CTy)
def RT.El:RT→Type
 | .one a=>AM.El a
 | .many τ=>AM.El τ
def bL:(τ:CTy)→List AV→Option (El τ)
 | .unit,[]=>some ()
 | .pair a b,x::xs=>match IQ a (LQ a x),bL b xs with
  | some y,some ys=>some (y,ys)
  | _,_=>none
 | _,_=>none
def DL:(τ:CTy)→El τ→List AV
 | .unit,_=>[]
 | .pair a b,x=>encV a x.1::DL b x.2
 | _,_=>[]
def Od:(ρ:RT)→ρ.El→AV
 | .one a,x=>encV a x
 | .many τ,x=>.tup (DL τ x)
def ct (pt:TypeId) (p:Int):AV:=.ifc pt (.agg [.b (.int .i64 p)])
def MV {α β:Type} (r:Except Int α) (kp:Int→β) (k:α→β):β:=match r with
 | .error p=>kp p
 | .ok x=>k x
inductive Lx (A B:Type) where
 | out (a:A)
 | ret (b:B)
 | pan (p:Int)
def LV {A B β:Type} (r:Lx A B) (ko:A→β) (kr:B→β) (kp:Int→β):β:=match r with
 | .out a=>ko a
 | .ret b=>kr b
 | .pan p=>kp p
def RV (τa:CTy) (ρ:RT) (F:El τa→Option ρ.El) {R:Type} (args:List AV) (kk pk:AV→Option R):Option R:=match bL τa args with
 | some xs=>(F xs).bind fun y=>kk (Od ρ y)
 | none=>none
def SV (pt:TypeId) (τa:CTy) (ρ:RT) (F:El τa→Option (Except Int ρ.El)) {R:Type} (args:List AV) (kk pk:AV→Option R):Option R:=match bL τa args with
 | some xs=>(F xs).bind fun y=>MV y (fun p=>pk (ct pt p)) fun y=>kk (Od ρ y)
 | none=>none
theorem SL {w:World} {I:Nat→Prop} {m:Nat→Info} {T:XU}:∀ {τ:CTy} {l:List AV} {x:El τ} {vs:List Value},bL τ l=some x→LR w I m T l vs→LR w I m T (DL τ x) vs
 | .unit,[],x,vs,_,h=>by simpa only [DL] using h
 | .unit,_::_,x,vs,h,_=>by simp [bL] at h
 | .pair a b,[],x,vs,h,_=>by simp [bL] at h
 | .pair a b,y::ys,x,[],_,h=>by simp [LR] at h
 | .pair a b,y::ys,x,v::vs,h,hl=>by
  simp only [bL] at h
  split at h
  · rename_i z zs hz hzs
    cases h
    simp only [LR] at hl
    simp only [DL,LR]
    refine ⟨?_,SL hzs hl.2⟩
    have:=tG (τ:=a) hl.1
    rwa [aG hz] at this
  · cases h
 | .bool,l,x,vs,h,_=>by simp [bL] at h
 | .int _,l,x,vs,h,_=>by simp [bL] at h
 | .flt _,l,x,vs,h,_=>by simp [bL] at h
 | .str,l,x,vs,h,_=>by simp [bL] at h
 | .sl _,l,x,vs,h,_=>by simp [bL] at h
theorem MG:∀ (τ:CTy) (x:El τ),dc (gV τ x)=true
 | .bool,x=>rfl
 | .int _,x=>rfl
 | .flt _,x=>rfl
 | .str,x=>rfl
 | .unit,x=>rfl
 | .sl _,x=>rfl
 | .pair a b,x=>by
  simp only [gV]
  have happ:∀ l l':List AV,dc l=true→dc l'=true→dc (l++l')=true:=fun l l' h h'=>by
   induction l with
   | nil=>exact h'
   | cons y ys ih=>
    simp only [dc,List.cons_append,TV,Bool.and_eq_true] at h ⊢
    exact ⟨h.1,ih h.2⟩
  exact happ _ _ (MG a x.1) (MG b x.2)
theorem kI (τ:CTy) (x:El τ):ao (encV τ x)=true:=by
 cases τ with
 | pair a b=>exact MG (.pair a b) x
 | _=>rfl
theorem iI:∀ (τ:CTy) (x:El τ),dc (DL τ x)=true
 | .unit,_=>rfl
 | .pair a b,x=>by
  have h1:=kI a x.1
  have h2:=iI b x.2
  simp only [DL,dc,TV,Bool.and_eq_true]
  exact ⟨h1,h2⟩
 | .bool,_=>rfl
 | .int _,_=>rfl
 | .flt _,_=>rfl
 | .str,_=>rfl
 | .sl _,_=>rfl
theorem jI (ρ:RT) (y:ρ.El):ao (Od ρ y)=true:=by
 cases ρ with
 | one a=>exact kI a y
 | many τ=>exact iI τ y
section
variable {P:Program} {g:Glob} {L:YU}
theorem Ans.of_dec {f:FuncId} {τ:CTy} {args:List AV} {xs:El τ} {out:Out} (hd:bL τ args=some xs) (h:Ans P g f (DL τ xs) out):Ans P g f args out:=
 fun w I vs h1 h2 h3 h4=>h w I vs h1 h2 h3 (SL hd h4)
theorem Ha {f:FuncId} {τa:CTy} {ρ:RT} {F:El τa→Option ρ.El} (he:Enters P f) (h:∀ xs y,F xs=some y→Ans P g f (DL τa xs) (.ret (Od ρ y))):EntryOk P g ⟨f,RV τa ρ F,none,none⟩:=by
 refine ⟨fun _=>he,fun _ _ _ h=>(by cases h),fun h=>(by cases h),fun _ h=>(by cases h),fun _ _ R args kk pk r hr=>?_⟩
 simp only [RV] at hr
 split at hr
 · rename_i xs hx
   cases hF:F xs with
   | none=>rw [hF] at hr;cases hr
   | some y=>
    rw [hF] at hr
    exact .inl ⟨_,hr,jI _ _,(h xs y hF).of_dec hx⟩
 · cases hr
theorem uK {f:FuncId} {pt:TypeId} {τa:CTy} {ρ:RT} {F:El τa→Option (Except Int ρ.El)} (he:Enters P f) (h:∀ xs y,F xs=some (.ok y)→Ans P g f (DL τa xs) (.ret (Od ρ y)))
  (h2:∀ xs p,F xs=some (.error p)→Ans P g f (DL τa xs) (.pan (ct pt p))):EntryOk P g ⟨f,SV pt τa ρ F,none,none⟩:=by
 refine ⟨fun _=>he,fun _ _ _ h=>(by cases h),fun h=>(by cases h),fun _ h=>(by cases h),fun _ _ R args kk pk r hr=>?_⟩
 simp only [SV] at hr
 split at hr
 · rename_i xs hx
   cases hF:F xs with
   | none=>rw [hF] at hr;cases hr
   | some y=>
    rw [hF] at hr
    cases y with
    | ok y=>exact .inl ⟨_,hr,jI _ _,(h xs y hF).of_dec hx⟩
    | error p=>exact .inr ⟨_,hr,rfl,(h2 xs p hF).of_dec hx⟩
 · cases hr
end
inductive Cn where
 | nilp
 | nils
 | nili
def iV:Cn→Value
 | .nilp=>.pointer none
 | .nils=>.slice none 0 0
 | .nili=>.nilIface
def XS:Cn→Value→Bool
 | .nilp,.pointer none=>true
 | .nils,.slice none 0 0=>true
 | .nili,.nilIface=>true
 | _,_=>false
theorem kP {c:Cn} {v:Value} (h:XS c v=true):v=iV c:=by
 unfold XS at h
 split at h<;>first
  | rfl
  | cases h
inductive Sl where
 | top
 | dat (τ:CTy)
 | row (r:Nat)
 | ptr (r i j:Nat)
 | cn (c:Cn)
 | fnc (f:FuncId)
 | fnp (f:FuncId) (r i j:Nat)
 | mp (r:Nat)
def tp:Nat→List Sl→List Sl
 | 0,l=>l
 | k+1,l=>.top::tp k l
def AF:List Sl→CTy
 | []=>.unit
 | .dat τ::sp=>.pair τ (AF sp)
 | .top::sp=>AF sp
 | .row _::sp=>AF sp
 | .ptr _ _ _::sp=>AF sp
 | .cn _::sp=>AF sp
 | .fnc _::sp=>AF sp
 | .fnp _ _ _ _::sp=>AF sp
 | .mp _::sp=>AF sp
def An (ns:Nat→Nat):(sp:List Sl)→El (AF sp)→List AV
 | [],_=>[]
 | .dat τ::sp,σ=>encV τ σ.1::An ns sp σ.2
 | .top::sp,σ=>.top::An ns sp σ
 | .row r::sp,σ=>.sl r (ns r)::An ns sp σ
 | .ptr r i j::sp,σ=>.ptr r i j::An ns sp σ
 | .cn c::sp,σ=>.b (iV c)::An ns sp σ
 | .fnc f::sp,σ=>.fn f []::An ns sp σ
 | .fnp f r i j::sp,σ=>.fn f [.ptr r i j]::An ns sp σ
 | .mp r::sp,σ=>.mp r::An ns sp σ
def DC:(sp:List Sl)→List AV→Option (El (AF sp))
 | [],fr=>match fr with
  | []=>some ()
  | _::_=>none
 | .dat τ::sp,fr=>match fr with
  | x::xs=>match IQ τ x,DC sp xs with
   | some y,some ys=>some (y,ys)
   | _,_=>none
  | []=>none
 | .top::sp,fr=>match fr with
  | .top::xs=>DC sp xs
  | _=>none
 | .row r::sp,fr=>match fr with
  | .sl r' _::xs=>jV (Nat.beq r' r) (DC sp xs) none
  | _=>none
 | .ptr r i j::sp,fr=>match fr with
  | .ptr r' i' j'::xs=>jV (Nat.beq r' r&&Nat.beq i' i&&Nat.beq j' j) (DC sp xs) none
  | _=>none
 | .cn c::sp,fr=>match fr with
  | .b v::xs=>jV (XS c v) (DC sp xs) none
  | _=>none
 | .fnc f::sp,fr=>match fr with
  | .fn f' []::xs=>jV (Nat.beq f' f) (DC sp xs) none
  | _=>none
 | .fnp f r i j::sp,fr=>match fr with
  | .fn f' [.ptr r' i' j']::xs=>jV (Nat.beq f' f&&(Nat.beq r' r&&Nat.beq i' i&&Nat.beq j' j)) (DC sp xs) none
  | _=>none
 | .mp r::sp,fr=>match fr with
  | .mp r'::xs=>jV (Nat.beq r' r) (DC sp xs) none
  | _=>none
theorem Cg {ns:Nat→Nat}:∀ {sp:List Sl} {fr:List AV} {σ:El (AF sp)},(∀ q n,AV.sl q n∈fr→ns q=n)→DC sp fr=some σ→fr=An ns sp σ
 | [],fr,_,_,h=>by
  unfold DC at h
  split at h
  · rfl
  · cases h
 | .dat τ::sp,fr,σ,hn,h=>by
  unfold DC at h
  split at h
  · rename_i x xs
    split at h
    · rename_i y ys hy hys
      cases h
      simp only [An]
      rw [←aG hy,←Cg (fun q n hm=>hn q n (List.mem_cons_of_mem _ hm)) hys]
    · cases h
  · cases h
 | .top::sp,fr,σ,hn,h=>by
  rcases fr with _ | ⟨x,xs⟩
  · exact da (show none=some σ from h)
  · cases x with
    | top=>
     have h:DC sp xs=some σ:=h
     simp only [An]
     rw [←Cg (fun q n hm=>hn q n (List.mem_cons_of_mem _ hm)) h]
    | _=>exact da (show none=some σ from h)
 | .row r::sp,fr,σ,hn,h=>by
  unfold DC at h
  split at h
  · rename_i r' n xs
    obtain ⟨hr,h'⟩:=ja h
    clear h
    have hr:r'=r:=Nat.eq_of_beq_eq_true hr
    subst hr
    simp only [An]
    rw [←Cg (fun q n hm=>hn q n (List.mem_cons_of_mem _ hm)) h',hn r' n (List.mem_cons_self)]
  · cases h
 | .ptr r i j::sp,fr,σ,hn,h=>by
  unfold DC at h
  split at h
  · rename_i r' i' j' xs
    obtain ⟨hr,h'⟩:=ja h
    clear h
    simp only [Bool.and_eq_true] at hr
    have h1:r'=r:=Nat.eq_of_beq_eq_true hr.1.1
    have h2:i'=i:=Nat.eq_of_beq_eq_true hr.1.2
    have h3:j'=j:=Nat.eq_of_beq_eq_true hr.2
    subst h1 h2 h3
    simp only [An]
    rw [←Cg (fun q n hm=>hn q n (List.mem_cons_of_mem _ hm)) h']
  · cases h
 | .cn c::sp,fr,σ,hn,h=>by
  unfold DC at h
  split at h
  · rename_i v xs
    obtain ⟨hr,h'⟩:=ja h
    clear h
    simp only [An]
    rw [←Cg (fun q n hm=>hn q n (List.mem_cons_of_mem _ hm)) h',kP hr]
  · cases h
 | .fnc f::sp,fr,σ,hn,h=>by
  unfold DC at h
  split at h
  · rename_i f' xs
    obtain ⟨hr,h'⟩:=ja h
    clear h
    have hr:f'=f:=Nat.eq_of_beq_eq_true hr
    subst hr
    simp only [An]
    rw [←Cg (fun q n hm=>hn q n (List.mem_cons_of_mem _ hm)) h']
  · cases h
 | .fnp f r i j::sp,fr,σ,hn,h=>by
  unfold DC at h
  split at h
  · rename_i f' r' i' j' xs
    obtain ⟨hr,h'⟩:=ja h
    clear h
    simp only [Bool.and_eq_true] at hr
    have h0:f'=f:=Nat.eq_of_beq_eq_true hr.1
    have h1:r'=r:=Nat.eq_of_beq_eq_true hr.2.1.1
    have h2:i'=i:=Nat.eq_of_beq_eq_true hr.2.1.2
    have h3:j'=j:=Nat.eq_of_beq_eq_true hr.2.2
    subst h0 h1 h2 h3
    simp only [An]
    rw [←Cg (fun q n hm=>hn q n (List.mem_cons_of_mem _ hm)) h']
  · cases h
 | .mp r::sp,fr,σ,hn,h=>by
  unfold DC at h
  split at h
  · rename_i r' xs
    obtain ⟨hr,h'⟩:=ja h
    clear h
    have hr:r'=r:=Nat.eq_of_beq_eq_true hr
    subst hr
    simp only [An]
    rw [←Cg (fun q n hm=>hn q n (List.mem_cons_of_mem _ hm)) h']
  · cases h
inductive RS where
 | dead
 | row (t k:Nat) (τ:CTy) (mn cv:Bool)
 | box (t k:Nat) (pf:Bool) (c:List Sl)
 | ghost (c:List Sl)
 | set (t:Nat) (τ:CTy)
def FI:List RS→CTy
 | []=>.unit
 | .dead::sp=>FI sp
 | .row _ _ τ _ _::sp=>.pair (.sl τ) (FI sp)
 | .box _ _ _ c::sp=>.pair (AF c) (FI sp)
 | .ghost c::sp=>.pair (AF c) (FI sp)
 | .set _ τ::sp=>.pair (.sl τ) (FI sp)
def Ie:(sp:List RS)→El (FI sp)→Nat→Nat
 | [],_,_=>0
 | .dead::sp,σ,r=>match r with
  | 0=>0
  | r+1=>Ie sp σ r
 | .row _ _ _ _ _::sp,σ,r=>match r with
  | 0=>Sq.n σ.1
  | r+1=>Ie sp σ.2 r
 | .box _ _ _ _::sp,σ,r=>match r with
  | 0=>1
  | r+1=>Ie sp σ.2 r
 | .ghost _::sp,σ,r=>match r with
  | 0=>0
  | r+1=>Ie sp σ.2 r
 | .set _ _::sp,σ,r=>match r with
  | 0=>0
  | r+1=>Ie sp σ.2 r
def fu (ns:Nat→Nat):(sp:List RS)→El (FI sp)→fa
 | [],_=>[]
 | .dead::sp,σ=>none::fu ns sp σ
 | .row t k τ mn cv::sp,σ=>some ⟨t,k,Sq.n σ.1,.typ τ (Sq.at' σ.1),mn,true,false,cv⟩::fu ns sp σ.2
 | .box t k pf c::sp,σ=>some ⟨t,k,1,.box (An ns c σ.1),false,pf,true,false⟩::fu ns sp σ.2
 | .ghost c::sp,σ=>some ⟨0,0,0,.box (An ns c σ.1),true,false,false,false⟩::fu ns sp σ.2
 | .set t τ::sp,σ=>some ⟨t,1,0,.set τ (Sq.n σ.1) (Sq.at' σ.1),true,true,false,true⟩::fu ns sp σ.2
def eH:Bool→Bool→Bool
 | true,true=>true
 | false,false=>true
 | _,_=>false
theorem Ke {a b:Bool} (h:eH a b=true):a=b:=by cases a<;>cases b<;>simp_all [eH]
def TJ:(sp:List RS)→fa→Option (El (FI sp))
 | [],H=>match H with
  | []=>some ()
  | _::_=>none
 | .dead::sp,H=>match H with
  | none::H=>TJ sp H
  | _=>none
 | .row t k τ mn cv::sp,H=>match H with
  | some ⟨t',k',n,.typ τ' xs,mn',pf',bx',cv'⟩::H=>jV (Nat.beq t' t&&Nat.beq k' k&&eH mn' mn&&eH pf' true&&eH bx' false&&eH cv' cv) (if h:τ'=τ then match TJ sp H with
    | some σ=>some ((⟨n,fun i=>SJ h (xs i)⟩:Sq (El τ)),σ)
    | none=>none else none) none
  | _=>none
 | .box t k pf c::sp,H=>match H with
  | some ⟨t',k',n,.box l,mn',pf',bx',cv'⟩::H=>jV (Nat.beq t' t&&Nat.beq k' k&&Nat.beq n 1&&eH mn' false&&eH pf' pf&&eH bx' true&&eH cv' false) (match DC c l,TJ sp H with
    | some x,some σ=>some (x,σ)
    | _,_=>none) none
  | _=>none
 | .ghost c::sp,H=>match H with
  | some ⟨t',k',n,.box l,mn',pf',bx',cv'⟩::H=>jV (Nat.beq t' 0&&Nat.beq k' 0&&Nat.beq n 0&&eH mn' true&&eH pf' false&&eH bx' false&&eH cv' false) (match DC c l,TJ sp H with
    | some x,some σ=>some (x,σ)
    | _,_=>none) none
  | _=>none
 | .set t τ::sp,H=>match H with
  | some ⟨t',k',n,.set τ' m xs,mn',pf',bx',cv'⟩::H=>jV (Nat.beq t' t&&Nat.beq k' 1&&Nat.beq n 0&&eH mn' true&&eH pf' true&&eH bx' false&&eH cv' true) (if h:τ'=τ then match TJ sp H with
    | some σ=>some ((⟨m,fun i=>SJ h (xs i)⟩:Sq (El τ)),σ)
    | none=>none else none) none
  | _=>none
theorem Io {ns:Nat→Nat}:∀ {sp:List RS} {H:fa} {σ:El (FI sp)},(∀ (q:Nat) (W:Row) (l:List AV),H[q]?=some (some W)→(W.box=true∨W.k=0∧W.pf=false)→W.ex=.box l→∀ q' n,AV.sl q' n∈l→ns q'=n)→TJ sp H=some σ→
  H=fu ns sp σ∧∀ (q:Nat) (W:Row),H[q]?=some (some W)→Ie sp σ q=W.n
 | [],H,σ,hn,h=>by
  unfold TJ at h
  split at h
  · exact ⟨rfl,fun q W h=>by simp at h⟩
  · cases h
 | .dead::sp,H,σ,hn,h=>by
  rcases H with _ | ⟨x,H⟩
  · exact da (show none=some σ from h)
  · cases x with
    | none=>
     have h:TJ sp H=some σ:=h
     obtain ⟨h1,h2⟩:=Io (sp:=sp) (fun q W l hq=>hn (q+1) W l (by simpa using hq)) h
     refine ⟨by simp only [fu];rw [←h1],fun q W hq=>?_⟩
     cases q with
     | zero=>simp at hq
     | succ q=>exact h2 q W (by simpa using hq)
    | some _=>exact da (show none=some σ from h)
 | .row t k τ mn cv::sp,H,σ,hn,h=>by
  unfold TJ at h
  split at h
  · rename_i t' k' n τ' xs mn' pf' bx' cv' H
    obtain ⟨hc,h'⟩:=ja h
    clear h
    simp only [Bool.and_eq_true] at hc
    obtain ⟨⟨⟨⟨⟨c1,c2⟩,c3⟩,c4⟩,c5⟩,c6⟩:=hc
    have c1:=Nat.eq_of_beq_eq_true c1
    have c2:=Nat.eq_of_beq_eq_true c2
    have c3:=Ke c3
    have c4:=Ke c4
    have c5:=Ke c5
    have c6:=Ke c6
    subst c1 c2 c3 c4 c5 c6
    split at h'
    · rename_i hτ
      subst hτ
      split at h'
      · rename_i σ' hσ
        cases h'
        obtain ⟨h1,h2⟩:=Io (sp:=sp) (fun q W l hq=>hn (q+1) W l (by simpa using hq)) hσ
        refine ⟨by simp only [fu];rw [←h1];rfl,fun q W hq=>?_⟩
        cases q with
        | zero=>simp at hq;subst hq;rfl
        | succ q=>exact h2 q W (by simpa using hq)
      · cases h'
    · cases h'
  · cases h
 | .box t k pf c::sp,H,σ,hn,h=>by
  unfold TJ at h
  split at h
  · rename_i t' k' n l mn' pf' bx' cv' H
    obtain ⟨hc,h'⟩:=ja h
    clear h
    simp only [Bool.and_eq_true] at hc
    obtain ⟨⟨⟨⟨⟨⟨c1,c2⟩,c3⟩,c4⟩,c5⟩,c6⟩,c7⟩:=hc
    have c1:=Nat.eq_of_beq_eq_true c1
    have c2:=Nat.eq_of_beq_eq_true c2
    have c3:=Nat.eq_of_beq_eq_true c3
    have c4:=Ke c4
    have c5:=Ke c5
    have c6:=Ke c6
    have c7:=Ke c7
    subst c1 c2 c3 c4 c5 c6 c7
    split at h'
    · rename_i x σ' hx hσ
      cases h'
      obtain ⟨h1,h2⟩:=Io (sp:=sp) (fun q W l hq=>hn (q+1) W l (by simpa using hq)) hσ
      have h3:=Cg (ns:=ns) (fun q' n hm=>hn 0 _ l rfl (.inl rfl) rfl q' n hm) hx
      refine ⟨by simp only [fu];rw [←h1,←h3],fun q W hq=>?_⟩
      cases q with
      | zero=>simp at hq;subst hq;rfl
      | succ q=>exact h2 q W (by simpa using hq)
    · cases h'
  · cases h
 | .ghost c::sp,H,σ,hn,h=>by
  unfold TJ at h
  split at h
  · rename_i t' k' n l mn' pf' bx' cv' H
    obtain ⟨hc,h'⟩:=ja h
    clear h
    simp only [Bool.and_eq_true] at hc
    obtain ⟨⟨⟨⟨⟨⟨c1,c2⟩,c3⟩,c4⟩,c5⟩,c6⟩,c7⟩:=hc
    have c1:=Nat.eq_of_beq_eq_true c1
    have c2:=Nat.eq_of_beq_eq_true c2
    have c3:=Nat.eq_of_beq_eq_true c3
    have c4:=Ke c4
    have c5:=Ke c5
    have c6:=Ke c6
    have c7:=Ke c7
    subst c1 c2 c3 c4 c5 c6 c7
    split at h'
    · rename_i x σ' hx hσ
      cases h'
      obtain ⟨h1,h2⟩:=Io (sp:=sp) (fun q W l hq=>hn (q+1) W l (by simpa using hq)) hσ
      have h3:=Cg (ns:=ns) (fun q' n hm=>hn 0 _ l rfl (.inr ⟨rfl,rfl⟩) rfl q' n hm) hx
      refine ⟨by simp only [fu];rw [←h1,←h3],fun q W hq=>?_⟩
      cases q with
      | zero=>simp at hq;subst hq;rfl
      | succ q=>exact h2 q W (by simpa using hq)
    · cases h'
  · cases h
 | .set t τ::sp,H,σ,hn,h=>by
  unfold TJ at h
  split at h
  · rename_i t' k' n τ' m xs mn' pf' bx' cv' H
    obtain ⟨hc,h'⟩:=ja h
    clear h
    simp only [Bool.and_eq_true] at hc
    obtain ⟨⟨⟨⟨⟨⟨c1,c2⟩,c3⟩,c4⟩,c5⟩,c6⟩,c7⟩:=hc
    have c1:=Nat.eq_of_beq_eq_true c1
    have c2:=Nat.eq_of_beq_eq_true c2
    have c3:=Nat.eq_of_beq_eq_true c3
    have c4:=Ke c4
    have c5:=Ke c5
    have c6:=Ke c6
    have c7:=Ke c7
    subst c1 c2 c3 c4 c5 c6 c7
    split at h'
    · rename_i hτ
      subst hτ
      split at h'
      · rename_i σ' hσ
        cases h'
        obtain ⟨h1,h2⟩:=Io (sp:=sp) (fun q W l hq=>hn (q+1) W l (by simpa using hq)) hσ
        refine ⟨by simp only [fu];rw [←h1];rfl,fun q W hq=>?_⟩
        cases q with
        | zero=>simp at hq;subst hq;rfl
        | succ q=>exact h2 q W (by simpa using hq)
      · cases h'
    · cases h'
  · cases h
section
variable {R:Type}
def sq (sp:List Sl) (rp:List RS) (F:El (AF sp)→El (FI rp)→(XE→List AV→fa→Option R)→Option R) (k:XE→List AV→fa→Option R) (fr:List AV) (H:fa):Option R:=
 match TJ rp H,DC sp fr with
 | some ρ,some σ=>F σ ρ k
 | _,_=>none
theorem vP {sp:List Sl} {rp:List RS} {F:El (AF sp)→El (FI rp)→(XE→List AV→fa→Option R)→Option R} {k:XE→List AV→fa→Option R} {fr:List AV} {H:fa} {r:R} (ht:FS fr H) (h:sq sp rp F k fr H=some r):
  ∃ σ ρ,fr=An (Ie rp ρ) sp σ∧H=fu (Ie rp ρ) rp ρ∧F σ ρ k=some r:=by
 unfold sq at h
 split at h
 · rename_i ρ σ hρ hσ
   have h0:=Io (ns:=fun q=>match H[q]? with
    | some (some W)=>W.n
    | _=>0) (fun q W l hq hb he q' n hm=>by
     obtain ⟨W',hW',hn⟩:=ht.2 q W l hq hb he q' n hm
     simp only [hW',hn]) hρ
   have hns:∀ q W,H[q]?=some (some W)→Ie rp ρ q=W.n:=h0.2
   have h1:=Io (ns:=Ie rp ρ) (fun q W l hq hb he q' n hm=>by
     obtain ⟨W',hW',hn⟩:=ht.2 q W l hq hb he q' n hm
     rw [hns q' W' hW',hn]) hρ
   refine ⟨σ,ρ,Cg (fun q n hm=>?_) hσ,h1.1,h⟩
   obtain ⟨W,hW,hn⟩:=ht.1 q n hm
   rw [hns q W hW,hn]
 · cases h
noncomputable def ze (L:YU) (Γ:Callees R) (hint:Hint R) (n:Nat) (c:Code) (cur:Nat) (sp:List Sl) (rp:List RS) (k:XE→List AV→fa→Option R) (m:Nat) (σ:El (AF sp)) (ρ:El (FI rp)):Option R:=
 VH (hint.live cur) (fun k fr H=>gu L Γ hint n c cur k fr H) k m (An (Ie rp ρ) sp σ) (fu (Ie rp ρ) rp ρ)
theorem Qa {L:YU} {Γ:Callees R} {hint:Hint R} {n:Nat} {c:Code} {cur:Nat} {sp:List Sl} {rp:List RS} {F:El (AF sp)→El (FI rp)→(XE→List AV→fa→Option R)→Option R} (hf:hint.run cur=some (sq sp rp F))
  (h:∀ k σ ρ,VH (hint.live cur) (fun k fr H=>gu L Γ hint n c cur k fr H) k n (An (Ie rp ρ) sp σ) (fu (Ie rp ρ) rp ρ)=F σ ρ k):Wd L Γ hint n c cur:=fun f hf' k fr H r ht hr=>by
 rw [hf] at hf'
 cases hf'
 obtain ⟨σ,ρ,rfl,rfl,hr'⟩:=vP ht hr
 rw [h]
 exact hr'
def ql (sp:List Sl) (rp:List RS) (σ:El (AF sp)) (ρ:El (FI rp)) (k:List AV→fa→Option R):Option R:=k (An (Ie rp ρ) sp σ) (fu (Ie rp ρ) rp ρ)
def lv (l:List Nat):List (Nat×Option CTy):=l.map fun i=>(i,none)
theorem oa {T U:Type} {x B:Option U} {F:Option T} {φ:T→Option U} (hE:x=B) (hN:F.bind φ=B) {y:T} (h:F=some y):x=φ y:=by rw [hE,←hN,h];rfl
theorem iB {α β:Type} {p:Prop} [Decidable p] {a b:Option α} {f:α→Option β}:(if p then a else b).bind f=if p then a.bind f else b.bind f:=by split<;>rfl
theorem oL {A B α β:Type} {r:Lx A B} {ko:A→Option α} {kr:B→Option α} {kp:Int→Option α} {f:α→Option β}:(LV r ko kr kp).bind f=LV r (fun a=>(ko a).bind f) (fun a=>(kr a).bind f) (fun a=>(kp a).bind f):=by cases r<;>rfl
theorem oX {A α β:Type} {r:Except Int A} {ko:A→Option α} {kp:Int→Option α} {f:α→Option β}:(MV r kp ko).bind f=MV r (fun a=>(kp a).bind f) (fun a=>(ko a).bind f):=by cases r<;>rfl
theorem nB {α β:Type} {f:α→Option β}:(none:Option α).bind f=none:=rfl
theorem bB {α β γ:Type} {x:Option α} {f:α→Option β} {g:β→Option γ}:(x.bind f).bind g=x.bind fun a=>(f a).bind g:=by cases x<;>rfl
end
inductive RSp where
 | one (s:Sl)
 | agg (l:List Sl)
def zJ:List RSp→CTy
 | []=>.unit
 | .one s::sp=>.pair (AF [s]) (zJ sp)
 | .agg l::sp=>.pair (AF l) (zJ sp)
def FC (ns:Nat→Nat):(sp:List RSp)→El (zJ sp)→List AV
 | [],_=>[]
 | .one s::sp,σ=>(An ns [s] σ.1).getD 0 .top::FC ns sp σ.2
 | .agg l::sp,σ=>.agg (An ns l σ.1)::FC ns sp σ.2
def dR:Sl→AV→AV
 | .dat τ,x=>LQ τ x
 | _,x=>x
def oJ:List Sl→List AV→List AV
 | s::sp,x::xs=>dR s x::oJ sp xs
 | _,l=>l
def XO:(sp:List RSp)→List AV→Option (El (zJ sp))
 | [],l=>match l with
  | []=>some ()
  | _::_=>none
 | .one s::sp,l=>match l with
  | x::xs=>match DC [s] [dR s x],XO sp xs with
   | some y,some ys=>some (y,ys)
   | _,_=>none
  | []=>none
 | .agg l::sp,l'=>match l' with
  | .agg c::xs=>match DC l (oJ l c),XO sp xs with
   | some y,some ys=>some (y,ys)
   | _,_=>none
  | _=>none
theorem pJ {E:Env} {s:Sl} {x:AV} {v:Value} (h:E.V x v):E.V (dR s x) v:=by
 unfold dR
 split
 · exact tG h
 · exact h
theorem sK {E:Env}:∀ {sp:List Sl} {l:List AV} {vs:List Value},E.L l vs→E.L (oJ sp l) vs
 | [],l,vs,h=>by simpa only [oJ] using h
 | s::sp,[],vs,h=>by simpa only [oJ] using h
 | s::sp,x::xs,[],h=>by simp [Env.L,LR] at h
 | s::sp,x::xs,v::vs,h=>by
  simp only [Env.L,LR] at h
  simp only [oJ,Env.L,LR]
  exact ⟨pJ h.1,sK h.2⟩
theorem ZI {E:Env} {ns:Nat→Nat} (hns:∀ q W,E.H[q]?=some (some W)→ns q=W.n):∀ {sp:List RSp} {l:List AV} {vs:List Value} {σ:El (zJ sp)},E.L l vs→XO sp l=some σ→E.L (FC ns sp σ) vs
 | [],l,vs,σ,hl,h=>by
  unfold XO at h
  split at h
  · simpa only [FC] using hl
  · cases h
 | .one s::sp,l,vs,σ,hl,h=>by
  unfold XO at h
  split at h
  · rename_i x xs
    cases vs with
    | nil=>simp [Env.L,LR] at hl
    | cons v vs=>
     simp only [Env.L,LR] at hl
     split at h
     · rename_i y ys hy hys
       cases h
       have h1:E.L [dR s x] [v]:=by simp only [Env.L,LR];exact ⟨pJ hl.1,trivial⟩
       have h2:=Cg (ns:=ns) (fun q n hm=>by
        obtain ⟨W,hW,hn⟩:=IK h1 q n hm
        rw [hns q W hW,hn]) hy
       simp only [FC,Env.L,LR]
       refine ⟨?_,ZI hns hl.2 hys⟩
       rw [←h2]
       exact pJ hl.1
     · cases h
  · cases h
 | .agg sl::sp,l,vs,σ,hl,h=>by
  unfold XO at h
  split at h
  · rename_i c xs
    cases vs with
    | nil=>simp [Env.L,LR] at hl
    | cons v vs=>
     simp only [Env.L,LR] at hl
     split at h
     · rename_i y ys hy hys
       cases h
       have h0:=hl.1
       simp only [VR] at h0
       obtain ⟨a,hv,hc⟩:=h0
       have h1:E.L (oJ sl c) a.toList:=sK hc
       have h2:=Cg (ns:=ns) (fun q n hm=>by
        obtain ⟨W,hW,hn⟩:=IK h1 q n hm
        rw [hns q W hW,hn]) hy
       simp only [FC,Env.L,LR]
       refine ⟨?_,ZI hns hl.2 hys⟩
       rw [←h2]
       simp only [VR]
       exact ⟨a,hv,h1⟩
     · cases h
  · cases h
def Ae {R:Type} (_:List AV) (_ _:AV→Option R):Option R:=none
def lV (sp:List RSp) (rp:List RS) {T:Type} (F:El (zJ sp)→El (FI rp)→Option T) (O:T→OutS) (R:Type) (args:List AV) (H:fa):Option ((OutS→Option R)→Option R):=
 match TJ rp H,XO sp args with
 | some ρ,some σ=>some fun k=>(F σ ρ).bind fun y=>k (O y)
 | _,_=>none
theorem Ki {P:Program} {g:Glob} {f:FuncId} {sp:List RSp} {rp:List RS} {T:Type} {F:El (zJ sp)→El (FI rp)→Option T} {O:T→OutS} (he:Enters P f)
  (h:∀ σ ρ y,F σ ρ=some y→LM P g f (FC (Ie rp ρ) sp σ) (fu (Ie rp ρ) rp ρ) (O y)):EntryOk P g ⟨f,Ae,none,some (lV sp rp F O)⟩:=by
 refine ⟨fun _=>he,fun _ _ _ h=>(by cases h),fun h=>(by cases h),fun run hr=>?_,fun _ h=>(by cases h)⟩
 cases hr
 refine ⟨rfl,fun R args H F' k r ho hk=>?_⟩
 unfold lV at ho
 split at ho
 · rename_i ρ σ hρ hσ
   cases ho
   obtain ⟨y,hF,hk⟩:=Option.bind_eq_some_iff.1 hk
   refine ⟨O y,hk,?_⟩
   intro gs B E vs hS hH hargs
   subst hH
   have ht:=GJ hS hargs
   have h0:=Io (ns:=fun q=>match E.H[q]? with
    | some (some W)=>W.n
    | _=>0) (fun q W l hq hb he q' n hm=>by
     obtain ⟨W',hW',hn⟩:=ht.2 q W l hq hb he q' n hm
     simp only [hW',hn]) hρ
   have hns:∀ q W,E.H[q]?=some (some W)→Ie rp ρ q=W.n:=h0.2
   have h1:=Io (ns:=Ie rp ρ) (fun q W l hq hb he q' n hm=>by
     obtain ⟨W',hW',hn⟩:=ht.2 q W l hq hb he q' n hm
     rw [hns q' W' hW',hn]) hρ
   exact h σ ρ y hF gs B E vs hS h1.1 (ZI hns hargs hσ)
 · cases ho
open Go Go.RowKit
def vo:List Value→Option Value
 | [.string s,.int .u8 c]=>some (.int .i64 (Lib.indexByte s.data.toList c.toNat.toUInt8))
 | _=>none
def EI:List Value→Option Value
 | [.string s,.int .u8 c]=>some (.int .i64 (Lib.countByte s.data.toList c.toNat.toUInt8:Int))
 | _=>none
theorem fx {P:Program} {g:Glob} {f:FuncId} {fn:Func} {e:Array Value→Sem Value} {x:List Value→Option Value} (hf:P.funcs[f]?=some fn) (hname:(fn.name== "runtime.NumGoroutine")=false)
  (hb:fn.body.isNone=true) (hn:Extern.findNext fn=none) (he:Extern.find fn=some e) (h:∀ vs v w,x vs=some v→(e vs.toArray).run P w=.ok v w):EntryOk P g ⟨f,Ae,some (.flat x),none⟩:=
 ⟨fun h=>(by cases h),fun x' vs v hx hv w=>by
  cases hx
  rw [run_callFunc_extern hf hname hb hn he,h vs v w hv]
  rfl,fun h=>(by cases h),fun _ h=>(by cases h),fun h=>(by cases h)⟩
theorem uE {P:Program} {g:Glob} {f:FuncId} {fn:Func} (hf:P.funcs[f]?=some fn) (hname:(fn.name== "runtime.NumGoroutine")=false)
  (hb:fn.body.isNone=true) (hn:Extern.findNext fn=none) (he:Extern.find fn=some Extern.AbiNoEscape.same):EntryOk P g ⟨f,Ae,some .ident,none⟩:=
 ⟨fun h=>(by cases h),fun _ _ _ h=>(by cases h),fun _ x w=>by
  rw [run_callFunc_extern hf hname hb hn he,Lib.run_noEscape]
  rfl,fun _ h=>(by cases h),fun h=>(by cases h)⟩
theorem OC {P:Program} {g:Glob} {f:FuncId} {fn:Func} (hf:P.funcs[f]?=some fn) (hname:(fn.name== "runtime.NumGoroutine")=false)
  (hb:fn.body.isNone=true) (hn:Extern.findNext fn=none) (he:Extern.find fn=some Extern.BytealgIndexByte.indexByte):EntryOk P g ⟨f,Ae,some (.flat vo),none⟩:=
 fx hf hname hb hn he fun vs v w h=>by
  unfold vo at h
  split at h
  · cases h
    exact Lib.run_indexByteString _ _ _
  · cases h
theorem XI {P:Program} {g:Glob} {f:FuncId} {fn:Func} (hf:P.funcs[f]?=some fn) (hname:(fn.name== "runtime.NumGoroutine")=false)
  (hb:fn.body.isNone=true) (hn:Extern.findNext fn=none) (he:Extern.find fn=some Extern.BytealgCount.count):EntryOk P g ⟨f,Ae,some (.flat EI),none⟩:=
 fx hf hname hb hn he fun vs v w h=>by
  unfold EI at h
  split at h
  · cases h
    exact Lib.run_countString _ _ _
  · cases h
def nI:Nat→Int
 | 0=>0
 | k+1=>((k+1:Nat):Int)
theorem cT (x:Nat):nI x=(x:Int):=by cases x<;>rfl
def HM:List Value→Option Value
 | [.float .f64 b]=>some (.int .u64 (nI b))
 | _=>none
def dt:List Value→Option Value
 | [.int .u64 n]=>some (.float .f64 n.toNat)
 | _=>none
theorem ZK {P:Program} {g:Glob} {f:FuncId} {fn:Func} (hf:P.funcs[f]?=some fn) (hname:(fn.name== "runtime.NumGoroutine")=false)
  (hb:fn.body.isNone=true) (hn:Extern.findNext fn=none) (he:Extern.find fn=some Extern.MathFloatBits.float64bits):EntryOk P g ⟨f,Ae,some (.flat HM),none⟩:=
 fx hf hname hb hn he fun vs v w h=>by
  unfold HM at h
  split at h
  · cases h
    rw [cT]
    show (pure (Value.int .u64 _):Sem Value).run P w=_
    rw [Sem.run_pure]
  · cases h
theorem lE {P:Program} {g:Glob} {f:FuncId} {fn:Func} (hf:P.funcs[f]?=some fn) (hname:(fn.name== "runtime.NumGoroutine")=false)
  (hb:fn.body.isNone=true) (hn:Extern.findNext fn=none) (he:Extern.find fn=some Extern.MathFloatBits.float64frombits):EntryOk P g ⟨f,Ae,some (.flat dt),none⟩:=
 fx hf hname hb hn he fun vs v w h=>by
  unfold dt at h
  split at h
  · cases h
    show (pure (Value.float .f64 _):Sem Value).run P w=_
    rw [Sem.run_pure]
  · cases h
open Go Go.RowKit
def dT:List Oper→Option (Tmp×Tmp)
 | [⟨some d1,.call ⟨.builtin .recover,_,_⟩,_,_,_,none⟩,⟨some d2,.assign (.tmp d),_,_,_,none⟩]=>jV (Nat.beq d d1) (some (d1,d2)) none
 | _=>none
theorem wM {l:List Oper} {d1 d2:Tmp} (h:dT l=some (d1,d2)):∃ ag ats t1 p1 a1 t2 p2 a2,l=[⟨some d1,.call ⟨.builtin .recover,ag,ats⟩,t1,p1,a1,none⟩,⟨some d2,.assign (.tmp d1),t2,p2,a2,none⟩]:=by
 unfold dT at h
 split at h
 · obtain ⟨hd,h⟩:=ja h
   have hd:=Nat.eq_of_beq_eq_true hd
   cases h
   subst hd
   exact ⟨_,_,_,_,_,_,_,_,rfl⟩
 · cases h
def OS:List Oper→Option Call
 | [⟨none,.defer c,_,_,_,none⟩]=>some c
 | _=>none
theorem TL {l:List Oper} {c:Call} (h:OS l=some c):∃ t p a,l=[⟨none,.defer c,t,p,a,none⟩]:=by
 unfold OS at h
 split at h
 · cases h;exact ⟨_,_,_,rfl⟩
 · cases h
section
variable {R:Type}
def PH:Hint R:={ live:=fun _=>[],run:=fun _=>none,xm:=fun _ _=>none }
def GI:Code→Option (Code×Code)
 | .seq a b=>some (a,b)
 | _=>none
def LS:Code→Option (Array Oper)
 | .region _ ops false=>some ops
 | _=>none
def fK (k:List AV→fa→Option R) (H:fa):Option R:=match JC H with
 | some l=>k l H
 | none=>none
noncomputable def UL (L:YU) (Γ:Callees R) (n:Nat) (f2:Func) (rv:AV) (ga fr:List AV) (H:fa) (k:List AV→fa→Option R):Option R:=match f2.body with
 | some c=>match GI c with
  | some (c1,c2)=>match LS c1 with
   | some ops=>match dT ops.toList with
    | some (d1,d2)=>gu L Γ PH n c2 0 (fun e fr2 H2=>match e with
      | .normal=>match PE L fr2 H2 f2.results.toList with
       | some _=>fK k H2
       | none=>none
      | .ret=>match PE L fr2 H2 f2.results.toList with
       | some _=>fK k H2
       | none=>none
      | _=>none) (((eA f2.ntmps ga).set d1 rv).set d2 (qV ((eA f2.ntmps ga).set d1 rv) (.tmp d1))) (H++[some (dl fr)])
    | none=>none
   | none=>none
  | none=>none
 | none=>none
noncomputable def WQ (L:YU) (Γ:Callees R) (n:Nat) (f2:Func) (rs:List ResultVar) (rv:AV) (ga fr:List AV) (H:fa) (o:List Nat) (k:AV→fa→Option R):Option R:=
 jV (EV (FK o H)) (UL L Γ n f2 (ren (yF o) rv) (wy (yF o) ga) (wy (yF o) fr) (FK o H) (fun l H2=>match PE L l H2 rs with
  | some l=>k (SD l) H2
  | none=>none)) none
noncomputable def YL (L:YU) (Γ:Callees R) (n:Nat) (f2:Func) (rs:List ResultVar) (rv:AV) (fr:List AV) (H:fa) (k:AV→fa→Option R):Option R:=match JC H with
 | some ga=>WQ L Γ n f2 rs rv ga fr H (order (ga++fr) H) k
 | _=>none
noncomputable def sV (L:YU) (Γ:Callees R) (hint:Hint R) (n:Nat) (q:FuncId) (f2:Func) (fn:Func) (args:List AV) (k:AV→fa→Option R):Option R:=match fn.body with
 | some c=>match GI c with
  | some (ca,c')=>match GI c' with
   | some (cr,cb)=>match LS cr with
    | some ops=>match OS ops.toList with
     | some d=>match d.callee with
      | .value f=>gu L Γ hint n ca 0 (fun e fr H=>match e with
       | .normal=>match qV fr f with
        | .fn q' []=>jV (Nat.beq q' q&&EV H) (gu L Γ hint n cb 0 (fun e fr' H'=>match e with
          | .normal=>YL L Γ n f2 fn.results.toList (.b .nilIface) fr' H' k
          | .ret=>YL L Γ n f2 fn.results.toList (.b .nilIface) fr' H' k
          | .panic v=>YL L Γ n f2 fn.results.toList v fr' H' k
          | .exit _=>none) fr (H++[some (dl (d.args.toList.map (qV fr)))])) none
        | _=>none
       | _=>none) (eA fn.ntmps args) []
      | _=>none
     | none=>none
    | none=>none
   | none=>none
  | none=>none
 | none=>none
end
section
variable {P:Program} {g:Glob} {L:YU} {B:Nat→Prop} {w0:World} {I0:Nat→Prop} {R:Type} {r:R}
theorem mo {c a b:Code} (h:GI c=some (a,b)):c=.seq a b:=by
 unfold GI at h
 split at h
 · cases h;rfl
 · cases h
theorem pI {c:Code} {ops:Array Oper} (h:LS c=some ops):∃ id,c=.region id ops false:=by
 unfold LS at h
 split at h
 · cases h;exact ⟨_,rfl⟩
 · cases h
theorem IC {k:List AV→fa→Option R} {E:Env} (hS:St g B w0 I0 E) (h:fK k E.H=some r):∃ l,E.L l g.gs∧k l E.H=some r:=by
 unfold fK at h
 split at h
 · rename_i l hl
   exact ⟨l,Ny hS hl,h⟩
 · cases h
theorem dK {E:Env} {args:List AV} {vs:List Value} (hargs:E.L args vs) (m:Nat):E.L (eA m args) (vs.toArray++Array.replicate (m - vs.toArray.size) undef).toList:=by
 have hlen:args.length=vs.length:=Xd hargs
 unfold eA
 simp only [Array.toList_append,Array.toList_replicate,List.size_toArray,hlen]
 refine xo hargs ?_
 generalize m - vs.length=q
 induction q with
 | zero=>simp [Env.L,LR]
 | succ q ih=>simp only [List.replicate_succ,Env.L,LR];exact ⟨V_b.2 rfl,ih⟩
inductive Mode0:FrameMode→Value→Prop
 | ret:Mode0 .returning .nilIface
 | pan (v:Value):Mode0 (.panicking [{ v,recovered:=false }]) v
theorem DH (hL:Za P L) {Γ:Callees R} (hP:PureOk P g Γ) (hG:CsOk P g Γ) (hm:P.follows .mixedOrders=true) {n:Nat} {q:FuncId} {f2:Func} (hf:P.funcs[q]?=some f2)
  (hR:∀ c c1 c2,f2.body=some c→GI c=some (c1,c2)→sa L Γ PH n c2 0)
  {rv:AV} {v:Value} {ga fr:List AV} {gvs frv:List Value} {E:Env} (hS:St g B w0 I0 E) (hn:EV E.H=true) (hv:E.V rv v) (hga:E.L ga gvs) (hfr:E.L fr frv) {k:List AV→fa→Option R}
  (h:UL L Γ n f2 rv ga fr E.H k=some r) {u:FrameMode} (hu:Mode0 u v) {Rr:World→Prop}
  (hk:∀ l (E':Env),St { g with gs:=frv } B w0 I0 E'→E'.L l frv→k l E'.H=some r→Rr E'.w):
  CallsD P q gvs.toArray u E.w fun e u' w'=>(∃ x,e=.returned x)∧settle u'=.returning∧Rr w':=by
 unfold UL at h
 split at h
 · rename_i c hc
   split at h
   · rename_i c1 c2 hs
     split at h
     · rename_i ops ho
       split at h
       · rename_i d1 d2 hr
         refine callsD_of_wpS hf hc ?_
         intro c₀ cs hc0
         obtain ⟨id,rfl⟩:=pI ho
         have hc:=mo hs
         subst hc
         obtain ⟨ag,ats,t1,p1,a1,t2,p2,a2,hops⟩:=wM hr
         have hops:ops= #[⟨some d1,.call ⟨.builtin .recover,ag,ats⟩,t1,p1,a1,none⟩,⟨some d2,.assign (.tmp d1),t2,p2,a2,none⟩]:=by
          rw [←Array.toArray_toList (xs:=ops),hops]
         subst hops
         refine wpS_seq (wpS_region ?_)
         generalize ha0:({ tmps:=gvs.toArray++Array.replicate (f2.ntmps - gvs.toArray.size) undef,defers:=[] }:Act)=a0
         have hfr0:E.L (eA f2.ntmps ga) a0.tmps.toList:=by subst ha0;exact dK hga f2.ntmps
         have hd0:a0.defers=[]:=by subst ha0;rfl
         have hfin:∀ (u':FrameMode),settle u'=.returning→c2.wpS P (bodyPostS P f2 c₀ cs fun e u' w'=>(∃ x,e=Ending.returned x)∧settle u'=.returning∧Rr w')
           ((a0.put (some d1) v).put (some d2) ((a0.put (some d1) v).eval (.tmp d1))) ({ c₀ with mode:=u' }::cs) E.w:=fun u' hu'=>by
          refine wpS_of_wp ?_
          obtain ⟨s1,s2⟩:=(hS.regs (gs:=frv) hn).ghost (W:=dl fr) (fun _ _ _ h=>by cases h) frv rfl rfl rfl (fun l _ _ hl=>by cases hl;exact eK hfr) (fun _ _=>rfl)
          refine nt (ds:=[]) hL hP.regs hG.regs hm c2 0 (hR _ _ _ hc hs) _ _ _ { E with m:=iW E.m E.H.length ⟨0,0,false,frv⟩,H:=E.H++[some (dl fr)] } _ h s1 ?_ ?_ ⟨fun fr2 E' a' h1 h2 h3 h4=>?_,fun id fr2 E' a' h1 h2 h3 h4=>?_,fun fr2 E' a' h1 h2 h3 h4=>?_,fun av v fr2 E' a' h1 _ h2 h3 h4=>?_⟩
          · exact s2.L (Sa _) (tn (d:=some d2) (tn (d:=some d1) hfr0 hv) (Hq (tn (d:=some d1) hfr0 hv) _))
          · rw [Wa,Wa,hd0]
          · simp only at h4
            split at h4
            · rename_i l hl
              obtain ⟨l2,k1,k2⟩:=IC h1 h4
              obtain ⟨x,hx,_⟩:=eo hL h1 h2 hl
              exact ⟨h3,u',rfl,x,hx,⟨x,rfl⟩,hu',hk l2 E' h1 k1 k2⟩
            · cases h4
          · cases h4
          · simp only at h4
            split at h4
            · rename_i l hl
              obtain ⟨l2,k1,k2⟩:=IC h1 h4
              obtain ⟨x,hx,_⟩:=eo hL h1 h2 hl
              exact ⟨h3,u',rfl,x,hx,⟨x,rfl⟩,hu',hk l2 E' h1 k1 k2⟩
            · cases h4
          · cases h4
         have hrange:List.range (Array.size #[(⟨some d1,.call ⟨.builtin .recover,ag,ats⟩,t1,p1,a1,none⟩:Oper),⟨some d2,.assign (.tmp d1),t2,p2,a2,none⟩])=[0,1]:=rfl
         rw [hrange]
         cases hu with
         | ret=>
          have:=hfin .returning rfl
          have e1:({ c₀ with mode:=.returning }:Frame)=c₀:=by rw [←hc0]
          rw [e1] at this
          simp [wpOpsS,Region.wanted,execOp,resolve,invoke,builtin,recoverD,hc0,Oper.upon,yielded]
          exact this
         | pan v=>
          have:=hfin (.panicking [{ v,recovered:=true }]) rfl
          simp [wpOpsS,Region.wanted,execOp,resolve,invoke,builtin,recoverD,hc0,Oper.upon,yielded]
          exact this
       · cases h
     · cases h
   · cases h
 · cases h
theorem pv (hL:Za P L) {Γ:Callees R} (hP:PureOk P g Γ) (hG:CsOk P g Γ) (hm:P.follows .mixedOrders=true) {n:Nat} {q:FuncId} {f2 fn:Func} (hq:P.funcs[q]?=some f2) (hen:Enters P q)
  (hR:∀ c c1 c2,f2.body=some c→GI c=some (c1,c2)→sa L Γ PH n c2 0)
  {rv:AV} {v:Value} {fr:List AV} {tmps:Array Value} {E:Env} {gvs:Array Value} (hS:St { g with gs:=gvs.toList } B w0 I0 E) (hv:E.V rv v) (hfr:E.L fr tmps.toList) {k:AV→fa→Option R}
  (h:YL L Γ n f2 fn.results.toList rv fr E.H k=some r) {u:FrameMode} (hu:Mode0 u v) {Q:Ending→World→Prop}
  (hk:∀ gs av v (E':Env),St { g with gs:=gs } B w0 I0 E'→E'.V av v→k av E'.H=some r→Q (.returned v) E'.w):
  Leaves P fn tmps Q [{ target:=.fn (.func q) #[],args:=gvs }] u E.w:=by
 refine leaves_cons (f:=q) (args:=gvs) (by cases hu<;>simp) (by simpa [invoke] using hen gvs E.w) ?_
 unfold YL at h
 split at h
 · rename_i ga hrow
   have hga:=Ny hS hrow
   unfold WQ at h
   obtain ⟨hno,h⟩:=ja h
   generalize horder:order (ga++fr) E.H=o at h hno
   have hnd:o.Nodup:=horder▸Yj _ _
   have hgc:=hS.gc hnd
   have hreg:St g B w0 I0 (YB E o):=hgc.regs (gs:=g.gs) hno
   refine (DH (frv:=tmps.toList) hL hP hG hm hq hR hreg hno (eF (fun b hb=>⟨hb,rfl⟩) rv _ _ v (fun r p q hT hq=>Pl hT hq) hv) (Ut (fun b hb=>⟨hb,rfl⟩) ga _ _ _ (fun r p q hT hq=>Pl hT hq) hga)
    (Ut (fun b hb=>⟨hb,rfl⟩) fr _ _ _ (fun r p q hT hq=>Pl hT hq) hfr) h hu (Rr:=fun w'=>Leaves P fn tmps Q [] .returning w') (fun l E' h1 h2 h3=>?_)).mono ?_
   · split at h3
     · rename_i l2 hl2
       obtain ⟨x,hx,hV⟩:=eo hL h1 h2 hl2
       exact ⟨x,hx,hk _ _ x E' h1 hV h3⟩
     · cases h3
   · rintro e u' w' ⟨⟨x,rfl⟩,hset,hl⟩
     simp only [hset]
     exact hl
 · cases h
theorem cM (hL:Za P L) {Γ:Callees R} (hP:PureOk P g Γ) (hG:CsOk P g Γ) (hm:P.follows .mixedOrders=true) {hint:Hint R} {n:Nat} {f q:FuncId} {fn f2:Func} (hf:P.funcs[f]?=some fn) (hq:P.funcs[q]?=some f2) (hen:Enters P q)
  (hR:∀ c ca c' cr cb,fn.body=some c→GI c=some (ca,c')→GI c'=some (cr,cb)→sa L Γ hint n ca 0∧sa L Γ hint n cb 0) (hR2:∀ c c1 c2,f2.body=some c→GI c=some (c1,c2)→sa L Γ PH n c2 0)
  {args:List AV} {vs:List Value} {E:Env} (hS:St g B w0 I0 E) (hE:E.H=[]) (hargs:E.L args vs) {k:AV→fa→Option R} (h:sV L Γ hint n q f2 fn args k=some r) {Q:Ending→World→Prop}
  (hk:∀ gs av v (E':Env),St { g with gs:=gs } B w0 I0 E'→E'.V av v→k av E'.H=some r→Q (.returned v) E'.w):Calls P f vs.toArray E.w Q:=by
 unfold sV at h
 split at h
 · rename_i c hc
   split at h
   · rename_i ca c' hs1
     split at h
     · rename_i cr cb hs2
       split at h
       · rename_i ops ho
         split at h
         · rename_i d hd
           split at h
           · rename_i fo hfo
             refine calls_of_wp_defers hf hc ?_
             obtain ⟨hRa,hRb⟩:=hR _ _ _ _ _ hc hs1 hs2
             have e1:=mo hs1
             have e2:=mo hs2
             obtain ⟨id,e3⟩:=pI ho
             subst e1 e2 e3
             obtain ⟨t0,p0,a0,hops⟩:=TL hd
             have hops:ops= #[⟨none,.defer d,t0,p0,a0,none⟩]:=by rw [←Array.toArray_toList (xs:=ops),hops]
             subst hops
             refine wp_seq (nt (ds:=[]) hL hP hG hm ca 0 hRa _ _ _ E _ (by rw [hE];exact h) hS (dK hargs _) rfl ⟨fun fr E1 a1 h1 h2 h3 h4=>?_,fun id fr E1 a1 h1 h2 h3 h4=>?_,fun fr E1 a1 h1 h2 h3 h4=>?_,fun av v fr E1 a1 h1 _ h2 h3 h4=>?_⟩)
             · simp only at h4
               split at h4
               · rename_i q' hqv
                 obtain ⟨hcond,h5⟩:=ja h4
                 simp only [Bool.and_eq_true] at hcond
                 have hqq:=Nat.eq_of_beq_eq_true hcond.1
                 subst hqq
                 have hfv:=Hq h2 fo
                 rw [hqv] at hfv
                 simp only [Env.V,VR] at hfv
                 obtain ⟨cap,hfv,hcap⟩:=hfv
                 have hcap:cap= #[]:=by
                  rcases cap with ⟨_ | ⟨x,xs⟩⟩
                  · rfl
                  · simp [LR] at hcap
                 subst hcap
                 have hga:E1.L (d.args.toList.map (qV fr)) (d.args.map a1.eval).toList:=by
                  rw [Array.toList_map]
                  exact JI (Hq h2) _
                 refine wp_seq (wp_region_list ?_)
                 have hwant:Region.wanted (⟨none,.defer d,t0,p0,a0,none⟩:Oper) (yielded #[(⟨none,.defer d,t0,p0,a0,none⟩:Oper)] a1.tmps)=true:=rfl
                 have hrun:(execOp a1.eval (⟨none,.defer d,t0,p0,a0,none⟩:Oper)).run P E1.w=.ok (.defer { target:=.fn (.func q') #[],args:=d.args.map a1.eval }) E1.w:=by
                  obtain ⟨callee,ag,ats⟩:=d
                  simp only at hfo
                  subst hfo
                  simp [execOp,resolve,hfv,Deferred.ofValue]
                 unfold wpList
                 rw [if_pos hwant]
                 refine .inl ?_
                 unfold Oper.wp
                 rw [hrun,Oper.upon_defer]
                 unfold wpList
                 obtain ⟨s1,s2⟩:=(h1.regs (gs:=(d.args.map a1.eval).toList) hcond.2).ghost (W:=dl (d.args.toList.map (qV fr))) (fun _ _ _ h=>by cases h) (d.args.map a1.eval).toList rfl rfl rfl (fun l _ _ hl=>by cases hl;exact eK hga) (fun _ _=>rfl)
                 refine nt (ds:=[{ target:=.fn (.func q') #[],args:=d.args.map a1.eval }]) hL hP.regs hG.regs hm cb 0 hRb _ _ _ { E1 with m:=iW E1.m E1.H.length ⟨0,0,false,(d.args.map a1.eval).toList⟩,H:=E1.H++[some (dl (d.args.toList.map (qV fr)))] } _ h5 s1 (s2.L (Sa _) h2) (by simp [Act.put,h3])
                  ⟨fun fr E2 a2 k1 k2 k3 k4=>?_,fun id fr E2 a2 k1 k2 k3 k4=>?_,fun fr E2 a2 k1 k2 k3 k4=>?_,fun av v fr E2 a2 k1 k2 kv k3 k4=>?_⟩
                 · show Leaves _ _ _ _ _ _ _
                   rw [k3]
                   exact pv hL hP hG hm hq hen hR2 k1 (V_b.2 rfl) k2 k4 .ret hk
                 · cases k4
                 · show Leaves _ _ _ _ _ _ _
                   rw [k3]
                   exact pv hL hP hG hm hq hen hR2 k1 (V_b.2 rfl) k2 k4 .ret hk
                 · show Leaves _ _ _ _ _ _ _
                   rw [k3]
                   exact pv hL hP hG hm hq hen hR2 k1 kv k2 k4 (.pan v) hk
               · cases h4
             · cases h4
             · cases h4
             · cases h4
           · cases h
         · cases h
       · cases h
     · cases h
   · cases h
 · cases h
theorem XK (hL:Za P L) {es:List Entry} (hes:AllOk P g es) (hm:P.follows .mixedOrders=true) {hint:Hint Out} {n:Nat} {f q:FuncId} {fn f2:Func} (hf:P.funcs[f]?=some fn) (hq:P.funcs[q]?=some f2) (hen:Enters P q)
  (hR:∀ c ca c' cr cb,fn.body=some c→GI c=some (ca,c')→GI c'=some (cr,cb)→sa L (ea Out es) hint n ca 0∧sa L (ea Out es) hint n cb 0) (hR2:∀ c c1 c2,f2.body=some c→GI c=some (c1,c2)→sa L (ea Out es) PH n c2 0) {args:List AV} {out:Out}
  (h:sV L (ea Out es) hint n q f2 fn args (rI fun v=>some (.ret v))=some out):Ans P g f args out:=by
 intro w I vs hI hg hn hargs
 have hS:St g (fun k=>k<w.heap.size) w I { w:=w,I:=I,m:=Kn,H:=[] }:=⟨Kept.refl _ _,fun k h=>h,fun k hk=>Nat.lt_of_lt_of_le hk hn,hn,hg,hI,fun b h=>h,fun b h=>.inl h,fun r W h=>by simp at h,fun r r' W W' h=>by simp at h,fun r W h=>by simp at h,fun r W τ n xs h=>by simp at h⟩
 have htab:VV []=Ya:=by funext q;simp [VV,Ya]
 refine cM hL (cl hes) (jt hes) hm hf hq hen hR hR2 hS rfl (args:=args) (vs:=vs) (by simp only [Env.L,htab];exact hargs) h (fun gs av v E' hS' hV hh=>?_)
 obtain ⟨rfl,h2,h3⟩:=BJ (c:=Out.ret) hS' hV hh
 exact ⟨v,_,rfl,hS'.below.below (fun k h=>h),fun b hb=>.inl (hS'.imono b hb),fun b hb=>hb.elim (fun h=>(hS'.ifresh b h).imp_right Nat.le_of_not_lt) (fun h=>.inr (Nat.le_of_not_lt h.1)),fun b hb=>hb.elim (fun h=>hS'.isz b h) (fun h=>h.2),h3⟩
theorem fT {Γ:Callees R} {hint:Hint R} {n:Nat} {fn:Func} (h:sa L Γ hint n (Ba [0] (aa fn)) 0∧sa L Γ hint n (Ba [1,1] (aa fn)) 0):
  ∀ c ca c' cr cb,fn.body=some c→GI c=some (ca,c')→GI c'=some (cr,cb)→sa L Γ hint n ca 0∧sa L Γ hint n cb 0:=fun c ca c' cr cb hc h1 h2=>by
 have e1:=mo h1
 have e2:=mo h2
 subst e1 e2
 have:aa fn=.seq ca (.seq cr cb):=by unfold aa;rw [hc];rfl
 rw [this] at h
 exact h
theorem gR {Γ:Callees R} {n:Nat} {fn:Func} (h:sa L Γ (PH (R:=R)) n (Ba [1] (aa fn)) 0):∀ c c1 c2,fn.body=some c→GI c=some (c1,c2)→sa L Γ PH n c2 0:=fun c c1 c2 hc h1=>by
 have e1:=mo h1
 subst e1
 have:aa fn=.seq c1 c2:=by unfold aa;rw [hc];rfl
 rw [this] at h
 exact h
theorem Qw {f:FuncId} {args:List Value} {v:Value} (h:∀ w,g.G w→g.n≤w.heap.size→Calls P f args.toArray w fun e w'=>e=.returned v∧Below w.heap.size w w'):Ans P g f (args.map AV.b) (.ret (.b v)):=by
 intro w I vs hI hg hn hargs
 have hvs:vs=args:=by
  clear h
  induction args generalizing vs with
  | nil=>cases vs with
   | nil=>rfl
   | cons _ _=>simp [LR] at hargs
  | cons a rest ih=>cases vs with
   | nil=>simp [LR] at hargs
   | cons u us=>
    simp only [List.map_cons,LR,VR] at hargs
    rw [hargs.1,ih us hargs.2]
 subst hvs
 refine (h w hg hn).mono ?_
 rintro e w' ⟨rfl,hb⟩
 exact ⟨v,I,rfl,hb,fun _ h=>h,fun _ h=>.inl h,fun b h=>Nat.lt_of_lt_of_le (hI b h) hb.size,rfl⟩
theorem dx {f:FuncId} {pc:{R:Type}→List AV→(AV→Option R)→(AV→Option R)→Option R} {args:List Value} {v:Value} (h:EntryOk P g ⟨f,pc,none,none⟩) (hp:pc (R:=AV) (args.map AV.b) some (fun _=>none)=some (.b v))
  {w0 w:World} (hg:g.G w0) (hn:g.n≤w0.heap.size) (hb:Below w0.heap.size w0 w):Calls P f args.toArray w fun e w'=>e=.returned v∧Below w.heap.size w w':=by
 have hl:∀ l:List Value,LR w (fun _=>False) Kn Ya (l.map AV.b) l:=fun l=>by
  induction l with
  | nil=>simp [LR]
  | cons a rest ih=>simp only [List.map_cons,LR,VR];exact ⟨trivial,ih⟩
 rcases h.ans rfl rfl AV _ some (fun _=>none) _ hp with ⟨av,h1,_,hA⟩ | ⟨av,h1,_⟩
 · cases h1
   refine (hA w (fun _=>False) args (fun _ h=>h.elim) (g.stab w0 w (hb.mono hn) hg) (Nat.le_trans hn hb.size) (hl args)).mono ?_
   rintro e w' ⟨v',I',rfl,hb',_,_,_,hv⟩
   simp only [Out.av,VR] at hv
   subst hv
   exact ⟨rfl,hb'⟩
 · cases h1
end
end Go.Proofs.YtdhehcnfkcibiaaGreatDoor.AM
