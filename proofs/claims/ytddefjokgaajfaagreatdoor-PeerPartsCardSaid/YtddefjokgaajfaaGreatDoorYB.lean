/- The abstract machine, part 14: append, the operation. -/
import Derived.Test.YtddefjokgaajfaaGreatDoorYA
import Derived.Lib.AppendStr
import Derived.Shelf.Abstract
import Derived.Lib.UnsafeStr
import Derived.LoopN
import Derived.Lib.Bytealg
import Derived.Laws.Externs
import Derived.Recover
set_option linter.all false
set_option linter.unusedVariables false
set_option linter.unusedSimpArgs false
namespace Go.Proofs.YtddefjokgaajfaaGreatDoor.AM
open Go Go.RowKit
section
variable {P:Program} {L:Tys} {g:Glob} {B:Nat→Prop} {w0:World} {I0:Nat→Prop} {E:Env} {R:Type} {r:R}
variable {k:AV→ia→Option (Nat→Bool)→Option R}
theorem ne_iff {q r':Nat}:(!(Nat.beq q r'))=true↔q≠r':=by
 cases hb:Nat.beq q r' with
 | true=>simp [Nat.eq_of_beq_eq_true hb]
 | false=>simp [Nat.ne_of_beq_eq_false hb]
section
variable {w:World} {I:Nat→Prop} {m:Nat→Info} {D:Nat→Bool}
mutual
theorem my:∀ (x:AV) (v:Value),VR w I m Fb x v→rf D x=true
 | .agg l,v,h=>by simp only [VR] at h;obtain ⟨a,rfl,h⟩:=h;simp only [rf];exact vu l _ h
 | .tup l,v,h=>by simp only [VR] at h;obtain ⟨a,rfl,h⟩:=h;simp only [rf];exact vu l _ h
 | .fn f l,v,h=>by simp only [VR] at h;obtain ⟨a,rfl,h⟩:=h;simp only [rf];exact vu l _ h
 | .ifc t x,v,h=>by simp only [VR] at h;obtain ⟨y,rfl,h⟩:=h;simp only [rf];exact my x _ h
 | .sl r n,v,h=>by simp only [VR] at h;obtain ⟨⟨k,hk⟩,_⟩:=h;simp [Fb] at hk
 | .ptr r i j,v,h=>by simp only [VR] at h;obtain ⟨k,n,hk,_⟩:=h;simp [Fb] at hk
 | .b _,_,_=>by simp [rf]
 | .snap _ _ _,_,_=>by simp [rf]
 | .sptr _,_,_=>by simp [rf]
 | .sp r n,v,h=>by simp only [VR] at h;obtain ⟨⟨k,hk⟩,_⟩:=h;simp [Fb] at hk
 | .top,_,_=>by simp [rf]
theorem vu:∀ (l:List AV) (vs:List Value),LR w I m Fb l vs→rfs D l=true
 | [],_,_=>by simp [rfs]
 | x::xs,[],h=>by simp [LR] at h
 | x::xs,v::vs,h=>by simp only [LR] at h;simp only [rfs,my x v h.1,vu xs vs h.2];rfl
end
end
theorem St.reghost (h:St g B w0 I0 E) {r':Nat} {W W':Row} (hW:E.H[r']?=some (some W)) (hal:(E.m r').al=false) (hn:W'.n=0) (hmn:W'.mn=true) (hb:W'.box=false) (hkp:W'.k≠0) (hcv:W'.cv=W.cv) {H':ia}
  (hH1:∀ q,q≠r'→∀ V',H'[q]?=some (some V')→∃ V,E.H[q]?=some (some V)∧V'=Ry (fun q=>!(Nat.beq q r')) V)
  (hH2:∀ q V,q≠r'→E.H[q]?=some (some V)→H'[q]?=some (some (Ry (fun q=>!(Nat.beq q r')) V)))
  (hH3:H'[r']?=some (some W')):St g B w0 I0 { E with H:=H' }∧Ext (fun q=>!(Nat.beq q r')) E { E with H:=H' }:=by
 obtain ⟨s1,s2⟩:=h.cut (D:=fun q=>!(Nat.beq q r')) (H':=H'.set r' none) (fun q V' hV=>by
  by_cases hq:q=r'
  · subst hq
    have hl:q<H'.length:=(List.getElem?_eq_some_iff.1 hH3).1
    rw [List.getElem?_set,if_pos rfl,if_pos hl] at hV
    cases hV
  · rw [List.getElem?_set,if_neg (Ne.symm hq)] at hV
    exact ⟨ne_iff.2 hq,hH1 q hq V' hV⟩) (fun q V hV hd=>by
  have hq:=ne_iff.1 hd
  rw [List.getElem?_set,if_neg (Ne.symm hq)]
  exact hH2 q V hq hV)
 have hget:∀ q,q≠r'→(H'.set r' none)[q]?=H'[q]?:=fun q hq=>by rw [List.getElem?_set,if_neg (Ne.symm hq)]
 have hx:Ext (fun q=>!(Nat.beq q r')) { E with H:=H'.set r' none } { E with H:=H' }:=⟨fun b hb=>⟨hb,rfl⟩,fun q p hp hd=>by
  refine ⟨?_,rfl⟩
  have hq:=ne_iff.1 hd
  unfold tab at hp ⊢
  simp only at hp ⊢
  rw [hget q hq] at hp
  exact hp⟩
 refine ⟨⟨s1.below,s1.hB,s1.hn,s1.gn,s1.glob,s1.isz,s1.imono,s1.ifresh,fun q V hV=>?_,fun q q' V V' hV hV' a1 a2 hb=>?_,fun q V hV hkq hpq=>?_⟩,s2.trans hx⟩
 rotate_left
 rotate_left
 · by_cases hq:q=r'
   · subst hq
     have:H'[q]?=some (some V):=hV
     rw [hH3] at this
     have hV':W'=V:=by simpa using this
     exact absurd (hV'▸hkq) hkp
   · exact s1.gse q V (by show (H'.set r' none)[q]?=_;rw [hget q hq];exact hV) hkq hpq
 · by_cases hq:q=r'
   · subst hq
     have hV':V=W':=by
      have:H'[q]?=some (some V):=hV
      rw [hH3] at this
      simpa using this.symm
     subst hV'
     exact ⟨fun h1=>absurd h1 (by rw [hmn,hn];simp),fun i hi=>(by omega),fun h1=>(by rw [hb] at h1;cases h1),fun l h0=>absurd h0 hkp,fun h1=>(by simp only [hal] at h1;cases h1),fun h1 h2=>(h.rows q W hW).nn (by rw [←hcv];exact h1) h2⟩
   · have hV2:(H'.set r' none)[q]?=some (some V):=by rw [hget q hq];exact hV
     obtain ⟨V0,hV0,hVe⟩:=hH1 q hq V hV
     by_cases ha:(E.m q).al=true
     · exact (s1.rows q V hV2).ext hx rfl rfl (fun h1 _=>h1) (by
        subst hVe
        cases hp:V0.pf with
        | true=>exact .inl hp
        | false=>
         refine .inr fun i hi j x hx'=>?_
         have hx'':(kds (fun q=>!(Nat.beq q r')) (V0.els i))[j]?=some x:=by simpa [fg,hp] using hx'
         rw [BJ] at hx''
         cases hy:(V0.els i)[j]? with
         | none=>rw [hy] at hx'';simp at hx''
         | some y=>rw [hy] at hx'';simp at hx'';rw [←hx''];exact KP y) (fun l hp hl=>by
        subst hVe
        obtain ⟨l0,_,rfl⟩:=vH (W:=V0) hp hl
        exact Ck l0)
     · exact ⟨fun h1=>absurd ((s1.rows q V hV2).al h1) ha,(s1.rows q V hV2).len,(s1.rows q V hV2).bx,fun l h0 hp hl=>(by
        subst hVe
        obtain ⟨l0,hl0,rfl⟩:=vH (W:=V0) hp hl
        exact hx.L (Ck l0) ((s1.rows q _ hV2).gh _ h0 hp hl)),fun h1=>absurd h1 ha,(s1.rows q V hV2).nn⟩
 · have n1:q≠r':=fun e=>by rw [e] at a1;simp only [hal] at a1;cases a1
   have n2:q'≠r':=fun e=>by rw [e] at a2;simp only [hal] at a2;cases a2
   exact s1.inj q q' V V' (by show (H'.set r' none)[q]?=_;rw [hget q n1];exact hV) (by show (H'.set r' none)[q']?=_;rw [hget q' n2];exact hV') a1 a2 hb
structure App2 (P:Program) (w:World) (t u ty e:TypeId) (x2:Value) (n2:Nat) (news:List Value) (kk:Nat):Prop where
 room:∀ (i:TypeInfo),P.info? e=some i→kk=i.size→∀ (g sLen sCap:Nat) (cur:Array Value),w.heap[g]?=some (.cells cur e (0,0))→sLen+n2≤sCap→sLen*i.size+news.length≤cur.size→
  (Builtin.append_ #[t,u] ty #[.slice (some ⟨g,0,none⟩) sLen sCap,x2]).run P w=.ok (.slice (some ⟨g,0,none⟩) (sLen+n2) sCap) (w.setRow g (cur.toList.take (sLen*i.size)++news++cur.toList.drop (sLen*i.size+news.length)).toArray)
 grow:∀ (i:TypeInfo) (z:Value),P.info? e=some i→i.zero=some z→kk=i.size→∀ (b:Addr) (sLen sCap:Nat) (olds:List Value),olds.length=sLen*i.size→(∀ (j:Nat) (v:Value),olds[j]?=some v→w.cell? (b.add j)=some v)→sCap<sLen+n2→((sLen+n2:Nat):Int)≤9223372036854775807→Builtin.nextslicecap (sLen+n2) sCap*i.bytes≤281474976710656→
  (Builtin.append_ #[t,u] ty #[.slice (some b) sLen sCap,x2]).run P w=.ok (.slice (some ⟨w.heap.size,0,none⟩) (sLen+n2) (grownCap w (sLen+n2) sCap e)) (w.drew.alloc (.cells (olds.toArray++news.toArray++Builtin.zeroCells z.cells (grownCap w (sLen+n2) sCap e - (sLen+n2))) e))
 nil:∀ (i:TypeInfo) (z:Value),P.info? e=some i→i.zero=some z→kk=i.size→0<n2→(n2:Int)≤9223372036854775807→n2*i.bytes≤281474976710656→
  (Builtin.append_ #[t,u] ty #[.slice none 0 0,x2]).run P w=.ok (.slice (some ⟨w.heap.size,0,none⟩) n2 (grownCap w n2 0 e)) (w.drew.alloc (.cells (news.toArray++Builtin.zeroCells z.cells (grownCap w n2 0 e - n2)) e))
theorem pT (hS:St g B w0 I0 E) {t u e ty:TypeId} {ye:Ty} (hu:P.underlying t=some (.slice e)) (hye:TyOk P e ye) {r' n n2:Nat} {W:Row} {e2:Els} {p2:Bool} {vs x2:Value}
  (hW:E.H[r']?=some (some W)) (hs:E.V (.sl r' n) vs)
  (hsrc:0<n2→∃ news:List Value,(∀ i,i<n2→((e2.at') i).length=W.k)∧news.length=n2*W.k∧(∀ i,i<n2→∀ (j:Nat) (x:AV),((e2.at') i)[j]?=some x→∃ v,news[i*W.k+j]?=some v∧VR E.w E.I E.m (cnd p2 Fb (tab E.H)) x v∧v.oneCell'=true)∧App2 P E.w t u ty e x2 n2 news W.k)
  (h00:n2=0→∀ (it:TypeInfo),P.info? e=some it→∀ (base:Option Addr) (sl sc:Nat),sl≤sc→(Builtin.append_ #[t,u] ty #[.slice base sl sc,x2]).run P E.w=.ok (.slice base sl sc) E.w)
  (ht:W.t=e) (hzc':ye.zero.cells.size=ye.size) (h:Xi E.H r' W ye n n2 e2 p2 k=some r):Nxt P g B w0 I0 E (do pure (Next.value (←Builtin.append_ #[t,u] ty #[vs,x2]))) k r:=by
 unfold Xi at h
 obtain ⟨hc,h⟩:=sa h
 simp only [Bool.and_eq_true,Bool.not_eq_true'] at hc
 obtain ⟨⟨⟨hc1,hc2⟩,hcv⟩,hbox⟩:=hc
 obtain ⟨hfits,h⟩:=Zj h
 unfold Ta at hfits
 rw [Bool.and_eq_true] at hfits
 have hbytes:=Nat.le_of_ble_eq_true hfits.1
 have h63:=Nat.le_of_ble_eq_true hfits.2
 have hsize:ye.size=W.k:=Nat.eq_of_beq_eq_true hc1
 have hkp:0<W.k:=by have:=Nat.le_of_ble_eq_true hc2;omega
 have hk0:=hS.rows r' W hW
 have hrl:r'<E.H.length:=(List.getElem?_eq_some_iff.1 hW).1
 have hs0:=hs
 simp only [Env.V,VR] at hs
 obtain ⟨⟨kk,hT⟩,hs⟩:=hs
 obtain ⟨rfl,rfl⟩:=ft hW hT
 obtain ⟨it,hit,hz,hisz,hiby⟩:=hye.info
 have hzc:ye.zero.cells.size=W.k:=by rw [hzc',hsize]
 generalize hH':(vp (fun q=>!(Nat.beq q r')) E.H).set r' (some (Qe r' W W.n n2 e2 p2))=H'
 have hh:k (.sl r' (W.n+n2)) H' (some (fun q=>!(Nat.beq q r')))=some r:=by rw [←hH'];exact h
 have hH1:∀ q,q≠r'→∀ V',H'[q]?=some (some V')→∃ V,E.H[q]?=some (some V)∧V'=Ry (fun q=>!(Nat.beq q r')) V:=fun q hq V' hV=>by
  rw [←hH',List.getElem?_set,if_neg (Ne.symm hq),ef] at hV
  cases ho:E.H[q]? with
  | none=>rw [ho] at hV;cases hV
  | some o=>cases o with
   | none=>rw [ho] at hV;cases hV
   | some V=>rw [ho] at hV;exact ⟨V,rfl,by simpa using hV.symm⟩
 have hH2:∀ q V,q≠r'→E.H[q]?=some (some V)→H'[q]?=some (some (Ry (fun q=>!(Nat.beq q r')) V)):=fun q V hq hV=>by
  rw [←hH',List.getElem?_set,if_neg (Ne.symm hq),ef,hV];rfl
 have hH3:H'[r']?=some (some (Qe r' W W.n n2 e2 p2)):=by
  rw [←hH',List.getElem?_set,if_pos rfl,if_pos (by simpa [vp] using hrl)]
 have htab:tab H' r'=some (W.k,W.n+n2):=by unfold tab;rw [hH3];rfl
 obtain ⟨hels1,hels2⟩:=RV r' W W.n n2 e2 p2
 have hlen:∀ i,i<(Qe r' W W.n n2 e2 p2).n→((Qe r' W W.n n2 e2 p2).els i).length=W.k:=fun i hi=>by
  have hi':i<W.n+n2:=hi
  rcases Nat.lt_or_ge i W.n with h1 | h1
  · rw [hels1 i h1]
    have:=hk0.len i h1
    rw [fg]
    show _=W.k
    cases W.pf with
    | true=>exact this
    | false=>simpa [Yu] using this
  · obtain ⟨q,rfl⟩:∃ q,i=W.n+q:=⟨i - W.n,by omega⟩
    rw [hels2 q (by omega)]
    obtain ⟨_,hl,_⟩:=hsrc (by omega)
    cases p2 with
    | true=>exact hl q (by omega)
    | false=>simpa [Yu] using hl q (by omega)
 have hpfn:(Qe r' W W.n n2 e2 p2).pf=(W.pf&&p2):=rfl
 have conv1:∀ {y x:AV} {v:Value},(W.pf=true∧x=y∨W.pf=false∧x=kd (fun q=>!(Nat.beq q r')) y)→VR E.w E.I E.m (dt W (tab E.H)) y v→VR E.w E.I E.m (dt (Qe r' W W.n n2 e2 p2) (tab E.H)) x v∧((Qe r' W W.n n2 e2 p2).pf=true∨rf (fun q=>!(Nat.beq q r')) x=true):=fun {y x v} hxy hv=>by
  rcases hxy with ⟨hp,rfl⟩ | ⟨hp,rfl⟩
  · unfold dt at hv ⊢
    rw [if_pos hp] at hv
    rw [hpfn,hp]
    cases p2 with
    | true=>exact ⟨hv,.inl rfl⟩
    | false=>exact ⟨ox hv,.inr (my x v hv)⟩
  · unfold dt at hv ⊢
    rw [hp] at hv
    rw [hpfn,hp]
    simp only [Bool.false_and,Bool.false_eq_true,if_false] at hv ⊢
    exact ⟨MQ y _ v hv,.inr (KP y)⟩
 have conv2:∀ {y x:AV} {v:Value},(p2=true∧x=y∨p2=false∧x=kd (fun q=>!(Nat.beq q r')) y)→VR E.w E.I E.m (cnd p2 Fb (tab E.H)) y v→VR E.w E.I E.m (dt (Qe r' W W.n n2 e2 p2) (tab E.H)) x v∧((Qe r' W W.n n2 e2 p2).pf=true∨rf (fun q=>!(Nat.beq q r')) x=true):=fun {y x v} hxy hv=>by
  rcases hxy with ⟨hp,rfl⟩ | ⟨hp,rfl⟩
  · rw [hp] at hv
    unfold dt
    rw [hpfn,hp]
    cases hq:W.pf with
    | true=>exact ⟨hv,.inl rfl⟩
    | false=>exact ⟨ox hv,.inr (my x v hv)⟩
  · rw [hp] at hv
    unfold dt
    rw [hpfn,hp]
    simp only [Bool.and_false,Bool.false_eq_true,if_false,cnd_false] at hv ⊢
    exact ⟨MQ y _ v hv,.inr (KP y)⟩
 have hWt:(Qe r' W W.n n2 e2 p2).t=W.t:=rfl
 have hWk:(Qe r' W W.n n2 e2 p2).k=W.k:=rfl
 have hWn:(Qe r' W W.n n2 e2 p2).n=W.n+n2:=rfl
 have hWb:(Qe r' W W.n n2 e2 p2).box=false:=hbox
 have mkc:∀ {news:List Value} {arr':Array Value},(∀ i,i<W.n→∀ (j:Nat) (x:AV),(W.els i)[j]?=some x→∃ v,arr'[i*W.k+j]?=some v∧VR E.w E.I E.m (dt W (tab E.H)) x v∧v.oneCell'=true)→
   (∀ (j:Nat) (v:Value),news[j]?=some v→arr'[W.n*W.k+j]?=some v)→
   (∀ i,i<n2→∀ (j:Nat) (x:AV),((e2.at') i)[j]?=some x→∃ v,news[i*W.k+j]?=some v∧VR E.w E.I E.m (cnd p2 Fb (tab E.H)) x v∧v.oneCell'=true)→
   ∀ i,i<(Qe r' W W.n n2 e2 p2).n→∀ (j:Nat) (x:AV),((Qe r' W W.n n2 e2 p2).els i)[j]?=some x→∃ v,arr'[i*(Qe r' W W.n n2 e2 p2).k+j]?=some v∧(VR E.w E.I E.m (dt (Qe r' W W.n n2 e2 p2) (tab E.H)) x v∧((Qe r' W W.n n2 e2 p2).pf=true∨rf (fun q=>!(Nat.beq q r')) x=true))∧v.oneCell'=true:=fun {news arr'} ho hn hnew i hi j x hx=>by
  rw [hWn] at hi
  rw [hWk]
  rcases Nat.lt_or_ge i W.n with h1 | h1
  · rw [hels1 i h1] at hx
    cases hp:W.pf with
    | true=>
     have hx':(W.els i)[j]?=some x:=by simpa [fg,hp] using hx
     obtain ⟨v,a,b,c⟩:=ho i h1 j x hx'
     exact ⟨v,a,conv1 (.inl ⟨hp,rfl⟩) b,c⟩
    | false=>
     have hx':(kds (fun q=>!(Nat.beq q r')) (W.els i))[j]?=some x:=by simpa [fg,hp] using hx
     rw [BJ] at hx'
     cases hy:(W.els i)[j]? with
     | none=>rw [hy] at hx';simp at hx'
     | some y=>
      rw [hy] at hx'
      simp at hx'
      obtain ⟨v,a,b,c⟩:=ho i h1 j y hy
      exact ⟨v,a,conv1 (.inr ⟨hp,hx'.symm⟩) b,c⟩
  · obtain ⟨q,rfl⟩:∃ q,i=W.n+q:=⟨i - W.n,by omega⟩
    rw [hels2 q (by omega)] at hx
    have hadd:(W.n+q)*W.k+j=W.n*W.k+(q*W.k+j):=by rw [Nat.add_mul,Nat.add_assoc]
    rcases Bool.eq_false_or_eq_true p2 with hp | hp
    · have hx':((e2.at') q)[j]?=some x:=by simpa [hp] using hx
      obtain ⟨v,a,b,c⟩:=hnew q (by omega) j x hx'
      exact ⟨v,by rw [hadd];exact hn _ v a,conv2 (.inl ⟨hp,rfl⟩) b,c⟩
    · have hx':(kds (fun q=>!(Nat.beq q r')) ((e2.at') q))[j]?=some x:=by simpa [hp] using hx
      rw [BJ] at hx'
      cases hy:((e2.at') q)[j]? with
      | none=>rw [hy] at hx';simp at hx'
      | some y=>
       rw [hy] at hx'
       simp at hx'
       obtain ⟨v,a,b,c⟩:=hnew q (by omega) j y hy
       exact ⟨v,by rw [hadd];exact hn _ v a,conv2 (.inr ⟨hp,hx'.symm⟩) b,c⟩
 have fin:∀ {w':World} {blk cap:Nat} {v':Value},(St g B w0 I0 { w:=w',I:=E.I,m:=upd E.m r' ⟨blk,cap,true,[]⟩,H:=H' }∧Ext (fun q=>!(Nat.beq q r')) E { w:=w',I:=E.I,m:=upd E.m r' ⟨blk,cap,true,[]⟩,H:=H' })→(∃ c,v'=.slice (some ⟨blk,0,none⟩) (W.n+n2) c∧W.n+n2≤c∧c≤cap)→
   (Builtin.append_ #[t,u] ty #[vs,x2]).run P E.w=.ok v' w'→Nxt P g B w0 I0 E (do pure (Next.value (←Builtin.append_ #[t,u] ty #[vs,x2]))) k r:=fun {w' blk cap v'} hst hv hrun=>by
  obtain ⟨c,rfl,hv1,hv2⟩:=hv
  refine ⟨_,_,_,some (fun q=>!(Nat.beq q r')),hst.1,hst.2,?_,hh,.inl (zh hrun)⟩
  simp only [Env.V,VR]
  refine ⟨⟨W.k,htab⟩,?_⟩
  rw [Oc]
  simp only [if_true]
  exact ⟨c,rfl,hv1,hv2⟩
 have same0:n2=0→∀ (base:Option Addr) (sl sc:Nat),vs=.slice base sl sc→sl≤sc→(Builtin.append_ #[t,u] ty #[vs,x2]).run P E.w=.ok vs E.w:=fun h0 base sl sc hv hle=>by
  subst hv
  exact h00 h0 it hit base sl sc hle
 have hks:W.k=it.size:=by rw [hisz,hsize]
 have newb:∀ {news olds:List Value} {oc:Nat},(Builtin.append_ #[t,u] ty #[vs,x2]).run P E.w=.ok (.slice (some ⟨E.w.heap.size,0,none⟩) (W.n+n2) (grownCap E.w (W.n+n2) oc e)) (E.w.drew.alloc (.cells (olds.toArray++news.toArray++Builtin.zeroCells ye.zero.cells (grownCap E.w (W.n+n2) oc e - (W.n+n2))) e))→
   olds.length=W.n*W.k→(∀ i,i<W.n→∀ (j:Nat) (x:AV),(W.els i)[j]?=some x→∃ v,olds[i*W.k+j]?=some v∧VR E.w E.I E.m (dt W (tab E.H)) x v∧v.oneCell'=true)→news.length=n2*W.k→
   (∀ i,i<n2→∀ (j:Nat) (x:AV),((e2.at') i)[j]?=some x→∃ v,news[i*W.k+j]?=some v∧VR E.w E.I E.m (cnd p2 Fb (tab E.H)) x v∧v.oneCell'=true)→
   Nxt P g B w0 I0 E (do pure (Next.value (←Builtin.append_ #[t,u] ty #[vs,x2]))) k r:=fun {news olds oc} hrun hol ho hnl hnew=>by
  have hge:=grownCap_ge E.w (W.n+n2) oc e
  refine fin (blk:=E.w.heap.size) (cap:=grownCap E.w (W.n+n2) oc e) ?_ ⟨_,rfl,hge,Nat.le_refl _⟩ hrun
  refine hS.grown hW hWt hWk hWb (by omega) hH1 hH2 hH3 (arr:=olds.toArray++news.toArray++Builtin.zeroCells ye.zero.cells (grownCap E.w (W.n+n2) oc e - (W.n+n2))) (.inl rfl) (fun b hb hlt=>?_) ?_ rfl rfl rfl (fun arr0 t fz hb=>absurd (Array.getElem?_eq_some_iff.1 hb).1 (Nat.lt_irrefl _)) ?_ (by rw [hWk];exact hlen) (by rw [hWn];exact hge) ?_ ?_
  · exact heap_alloc_old E.w.drew _ b hlt
  · simp
  · rw [hWt,ht];exact heap_alloc_new E.w.drew _
  · rw [hWk]
    simp only [Array.size_append,List.size_toArray,hol,hnl,size_zeroCells,hzc,←Nat.add_mul]
    congr 1
    omega
  · refine mkc (news:=news) (fun i hi j x hx=>?_) (fun j v hv=>?_) hnew
    · obtain ⟨v,b1,b2,b3⟩:=ho i hi j x hx
      refine ⟨v,?_,b2,b3⟩
      have hlt:i*W.k+j<olds.length:=(List.getElem?_eq_some_iff.1 b1).1
      rw [Array.append_assoc,Array.getElem?_append_left (by simpa using hlt),List.getElem?_toArray]
      exact b1
    · have hj:j<news.length:=(List.getElem?_eq_some_iff.1 hv).1
      rw [Array.append_assoc,Array.getElem?_append_right (by simp;omega),Array.getElem?_append_left (by simp;omega),List.size_toArray,hol,show W.n*W.k+j - W.n*W.k=j by omega,List.getElem?_toArray]
      exact hv
 cases hal:(E.m r').al with
 | true=>
  obtain ⟨k1,k2,k3,arr,fz,k4,k5,k6,k6',k7⟩:=hk0.mem hal
  have hfz:=k6' hcv
  subst hfz
  rw [if_pos hal] at hs
  obtain ⟨c,rfl,hnc,hcc⟩:=hs
  rcases Nat.eq_zero_or_pos n2 with h0 | h0
  · refine fin (w':=E.w) (blk:=(E.m r').blk) (cap:=(E.m r').cap) ?_ ⟨c,by rw [h0];rfl,by omega,hcc⟩ (same0 h0 _ _ _ rfl hnc)
    refine hS.grown hW hWt hWk hWb (by omega) hH1 hH2 hH3 (arr:=arr) (.inr ⟨hal,rfl⟩) (fun _ _ _=>rfl) (Nat.le_refl _) rfl rfl rfl (fun arr0 t fz hb=>by rw [k4] at hb;cases hb;exact ⟨hWt.symm,rfl⟩) k4 (by rw [hWk];exact hlen) (by rw [hWn];omega) k5 ?_
    exact mkc (news:=[]) k7 (fun j v hv=>by simp at hv) (fun i hi=>by omega)
  · obtain ⟨news,_,n1,n4,hA⟩:=hsrc h0
    by_cases hroom:W.n+n2≤c
    · have hfit:W.n*W.k+news.length≤arr.size:=by
       rw [n1,k5,←Nat.add_mul];exact Nat.mul_le_mul_right _ (by omega)
      have hrun:=hA.room it hit hks (E.m r').blk W.n c arr (ht▸k4) hroom (by rw [←hks];exact hfit)
      rw [←hks] at hrun
      refine fin (blk:=(E.m r').blk) (cap:=(E.m r').cap) ?_ ⟨c,rfl,hroom,hcc⟩ hrun
      refine hS.grown hW hWt hWk hWb (by omega) hH1 hH2 hH3 (arr:=(arr.toList.take (W.n*W.k)++news++arr.toList.drop (W.n*W.k+news.length)).toArray) (.inr ⟨hal,rfl⟩) (fun b hb _=>setRow_other _ _ _ _ hb) ?_ rfl rfl rfl (fun arr0 t fz hb=>by
       rw [k4] at hb
       cases hb
       refine ⟨hWt.symm,?_⟩
       simp only [List.size_toArray,List.length_append,List.length_take,List.length_drop,Array.length_toList]
       omega) (setRow_heap _ _ arr _ _ _ k4) (by rw [hWk];exact hlen) (by rw [hWn];omega) ?_ ?_
      · show E.w.heap.size≤(E.w.setRow (E.m r').blk _).heap.size
        simp [World.setRow]
      · rw [hWk,←k5]
        simp only [List.size_toArray,List.length_append,List.length_take,List.length_drop,Array.length_toList]
        omega
      · have htl:(arr.toList.take (W.n*W.k)).length=W.n*W.k:=by rw [List.length_take,Array.length_toList];omega
        refine mkc (news:=news) (fun i hi j x hx=>?_) (fun j v hv=>?_) n4
        · obtain ⟨v,b1,b2,b3⟩:=k7 i hi j x hx
          refine ⟨v,?_,b2,b3⟩
          have hj:j<W.k:=by have:=(List.getElem?_eq_some_iff.1 hx).1;rwa [hk0.len i hi] at this
          have hlt:i*W.k+j<W.n*W.k:=by
           have:=Nat.mul_le_mul_right W.k (show i+1≤W.n by omega)
           rw [Nat.succ_mul] at this;omega
          rw [List.getElem?_toArray,List.append_assoc,List.getElem?_append_left (by rw [htl];exact hlt),List.getElem?_take,if_pos hlt,Array.getElem?_toList]
          exact b1
        · have hj:j<news.length:=(List.getElem?_eq_some_iff.1 hv).1
          rw [List.getElem?_toArray,List.append_assoc,List.getElem?_append_right (by rw [htl];omega),htl,show W.n*W.k+j - W.n*W.k=j by omega,List.getElem?_append_left hj]
          exact hv
    · -- a new row
      have hol:∀ (j:Nat) (v:Value),(arr.toList.take (W.n*W.k))[j]?=some v→E.w.cell? ((⟨(E.m r').blk,0,none⟩:Addr).add j)=some v:=fun j v hv=>by
       rw [List.getElem?_take] at hv
       split at hv
       · rw [Array.getElem?_toList] at hv
         rw [nr,Nat.zero_add]
         simp [World.cell?,k4,hv]
       · cases hv
      have htl:(arr.toList.take (W.n*W.k)).length=W.n*W.k:=by
       have:=Nat.mul_le_mul_right W.k k3
       rw [List.length_take,Array.length_toList];omega
      have hrun:=hA.grow it ye.zero hit hz hks ⟨(E.m r').blk,0,none⟩ W.n c (arr.toList.take (W.n*W.k)) (by rw [htl,hks]) hol (by omega) (by omega) (growslice_fits (by omega) (by rw [hiby];exact hbytes))
      exact newb hrun htl (fun i hi j x hx=>by
       obtain ⟨v,b1,b2,b3⟩:=k7 i hi j x hx
       refine ⟨v,?_,b2,b3⟩
       have hj:j<W.k:=by have:=(List.getElem?_eq_some_iff.1 hx).1;rwa [hk0.len i hi] at this
       have hlt:i*W.k+j<W.n*W.k:=by
        have:=Nat.mul_le_mul_right W.k (show i+1≤W.n by omega)
        rw [Nat.succ_mul] at this;omega
       rw [List.getElem?_take,if_pos hlt,Array.getElem?_toList]
       exact b1) n1 n4
 | false=>
  rw [if_neg (by rw [hal];simp)] at hs
  obtain ⟨⟨A0,rfl,hA0⟩,hn0⟩:=hs
  have hmn:W.mn=true:=by
   cases hq:W.mn with
   | true=>rfl
   | false=>have:=hk0.al (.inr hq);rw [hal] at this;cases this
  rcases Nat.eq_zero_or_pos n2 with h0 | h0
  · obtain ⟨s1,s2⟩:=hS.reghost hW hal (by rw [hWn];omega) (by exact hmn) hWb (show W.k≠0 by omega) rfl hH1 hH2 hH3
    refine ⟨_,_,_,some (fun q=>!(Nat.beq q r')),s1,s2,?_,hh,.inl (zh (same0 h0 A0 0 0 rfl (Nat.le_refl _)))⟩
    simp only [Env.V,VR]
    refine ⟨⟨W.k,htab⟩,?_⟩
    rw [if_neg (by rw [hal];simp)]
    exact ⟨⟨A0,rfl,hA0⟩,by omega⟩
  · obtain ⟨news,_,n1,n4,hA⟩:=hsrc h0
    have hb':n2*it.bytes≤140737488355328:=by rw [hiby];rw [hn0,Nat.zero_add] at hbytes;exact hbytes
    cases A0 with
    | none=>
     have hrun:=hA.nil it ye.zero hit hz hks h0 (by omega) (by omega)
     exact newb (olds:=[]) (oc:=0) (by rw [hn0,Nat.zero_add];simpa using hrun) (by simp [hn0]) (fun i hi=>by omega) n1 n4
    | some a0=>
     have hrun:=hA.grow it ye.zero hit hz hks a0 0 0 [] (by simp) (fun j v hv=>by simp at hv) (by omega) (by omega) (growslice_fits (by omega) (by rw [Nat.zero_add];exact hb'))
     exact newb (olds:=[]) (oc:=0) (by rw [hn0];exact hrun) (by simp [hn0]) (fun i hi=>by omega) n1 n4
theorem FC (hS:St g B w0 I0 E) {t e ty:TypeId} {ye:Ty} (hu:P.underlying t=some (.slice e)) (hye:TyOk P e ye) {r' n n2:Nat} {W:Row} {e2:Els} {p2:Bool} {vs:Value} {A:Option Addr} {c2:Nat}
  (hW:E.H[r']?=some (some W)) (hs:E.V (.sl r' n) vs)
  (hsrc:0<n2→∃ a,A=some a∧(∀ i,i<n2→((e2.at') i).length=W.k)∧∀ i,i<n2→∀ (j:Nat) (x:AV),((e2.at') i)[j]?=some x→∃ v,E.w.cell? (a.add (i*W.k+j))=some v∧VR E.w E.I E.m (cnd p2 Fb (tab E.H)) x v∧v.oneCell'=true)
  (ht:W.t=e) (hzc':ye.zero.cells.size=ye.size) (h:Xi E.H r' W ye n n2 e2 p2 k=some r):Nxt P g B w0 I0 E (do pure (Next.value (←Builtin.append_ #[t,t] ty #[vs,.slice A n2 c2]))) k r:=by
 refine pT hS hu hye hW hs (fun h0=>?_) (fun h0 it hit base sl sc hle=>?_) ht hzc' h
 · obtain ⟨a,rfl,hsl,hsc⟩:=hsrc h0
   obtain ⟨news,n1,n2',n3,n4⟩:=vT (E:=E) (f:=fun j=>E.w.cell? (a.add j)) (T:=cnd p2 Fb (tab E.H)) (kk:=W.k) (els:=e2.at') n2 hsl hsc
   exact ⟨news,hsl,n1,n4,fun i hi hk g sLen sCap cur hg hr hf=>run_append_room (P:=P) E.w t ty e i hu hi g sLen sCap cur hg a n2 c2 news (by rw [n1,hk]) n2' n3 hr hf,
    fun i z hi hz hk b sLen sCap olds h1 h2 h3 h4 h5=>run_append_grow (P:=P) E.w t ty e i z hu hi hz b sLen sCap olds h1 h2 a n2 c2 news (by rw [n1,hk]) n2' h3 h4 h5,
    fun i z hi hz hk h1 h2 h3=>run_append_nil (P:=P) E.w t ty e i z hu hi hz a n2 c2 news (by rw [n1,hk]) n2' h1 h2 h3⟩
 · subst h0
   have hf:(Builtin.firstCells it.size 0 (.slice A 0 c2)).run P E.w=.ok #[] E.w:=by
    cases A with
    | none=>simp [Builtin.firstCells]
    | some a=>simp [Builtin.firstCells,loadCells,loadCellsFrom]
   cases base with
   | none=>simp [Builtin.append_,run_underlying hu,sizeOf,typeInfo,hit,Builtin.lenOf,hle,hf]
   | some a=>simp [Builtin.append_,run_underlying hu,sizeOf,typeInfo,hit,Builtin.lenOf,hle,hf,storeCells]
theorem LW (q:BA) (i:Nat) (hi:i<q.size):(Lib.strCells q)[i]?=some (.int .u8 (bt q i)):=by
 have h2:i<q.data.toList.length:=by rw [Array.length_toList];exact hi
 unfold Lib.strCells bt
 rw [List.getElem?_map,List.getElem?_eq_getElem h2,dif_pos (by rw [Int.toNat_natCast];exact hi)]
 simp only [Int.toNat_natCast,Option.map_some,Array.getElem_toList]
 rfl
theorem qT (hS:St g B w0 I0 E) {t u e ty:TypeId} {ye:Ty} (hu:P.underlying t=some (.slice e)) (hus:P.underlying u=some .string) (hye:TyOk P e ye) {r' n:Nat} {W:Row} {vs:Value} {q:BA}
  (hW:E.H[r']?=some (some W)) (hs:E.V (.sl r' n) vs) (hk1:W.k=1)
  (ht:W.t=e) (hzc':ye.zero.cells.size=ye.size) (h:Xi E.H r' W ye n q.size (dQ q) true k=some r):Nxt P g B w0 I0 E (do pure (Next.value (←Builtin.append_ #[t,u] ty #[vs,.string q]))) k r:=by
 refine pT hS hu hye hW hs (fun h0=>?_) (fun h0 it hit base sl sc hle=>?_) ht hzc' h
 · refine ⟨Lib.strCells q,fun i hi=>by rw [hk1];rfl,by rw [hk1,Lib.strCells_length,Nat.mul_one],fun i hi j x hx=>?_,?_⟩
   · have hl:j<1:=(List.getElem?_eq_some_iff.1 hx).1
     obtain rfl:j=0:=by omega
     have hx':x=.b (.int .u8 (bt q i)):=by
      have:([AV.b (.int .u8 (bt q i))]:List AV)[0]?=some x:=hx
      simpa using this.symm
     subst hx'
     refine ⟨.int .u8 (bt q i),?_,rfl,rfl⟩
     rw [hk1,Nat.mul_one,Nat.add_zero]
     exact LW q i hi
   · rw [hk1]
     exact ⟨fun i hi hk g sLen sCap cur hg hr hf=>by
       have:=Lib.run_append_room_string (P:=P) E.w t u ty e i hu hus hi hk.symm g sLen sCap cur hg q hr (by rw [←hk,Nat.mul_one,Lib.strCells_length] at hf;exact hf)
       rw [←hk,Nat.mul_one,Lib.strCells_length];exact this,
      fun i z hi hz hk b sLen sCap olds h1 h2 h3 h4 h5=>Lib.run_append_grow_string (P:=P) E.w t u ty e i z hu hus hi hz b sLen sCap olds h1 h2 q h3 h4 h5,
      fun i z hi hz hk h1 h2 h3=>by
       have:=run_append_nil_string (P:=P) E.w t u ty e i z hu hus hi hz q h1 h2 h3
       have hsc:(Lib.strCells q).toArray=q.data.map (fun b=>Value.int .u8 b.toNat):=by apply Array.ext';simp [Lib.strCells]
       rw [hsc]
       exact this⟩
 · have hq:q=⟨#[]⟩:=by
    cases q with | mk d=>have:d= #[]:=Array.eq_empty_of_size_eq_zero h0;rw [this]
   subst hq
   have hz0:(⟨#[]⟩:BA).size=0:=rfl
   have hf:(Builtin.firstCells it.size 0 (.string ⟨#[]⟩)).run P E.w=.ok #[] E.w:=by simp [Builtin.firstCells]
   cases base with
   | none=>simp [Builtin.append_,run_underlying hu,run_underlying hus,hz0,sizeOf,typeInfo,hit,Builtin.lenOf,hle,hf]
   | some a=>simp [Builtin.append_,run_underlying hu,run_underlying hus,hz0,sizeOf,typeInfo,hit,Builtin.lenOf,hle,hf,storeCells]
end
open Go Go.RowKit
def sw:Nat→Info:=fun _=>⟨0,0,false,[]⟩
inductive Out where
 | ret (av:AV)
 | pan (av:AV)
def Out.av:Out→AV
 | .ret av=>av
 | .pan av=>av
def Out.end_:Out→Value→Ending
 | .ret _,v=>.returned v
 | .pan _,v=>.panicked [{ v,recovered:=false }]
def Ans (P:Program) (g:Glob) (f:FuncId) (args:List AV) (out:Out):Prop:=
 ∀ (w:World) (I:Nat→Prop) (vs:List Value),(∀ b,I b→b<w.heap.size)→g.G w→g.n≤w.heap.size→LR w I sw Fb args vs→
  Calls P f vs.toArray w fun e w'=>∃ v I',e=out.end_ v∧Below w.heap.size w w'∧(∀ b,I b→I' b)∧(∀ b,I' b→I b∨w.heap.size≤b)∧(∀ b,I' b→b<w'.heap.size)∧VR w' I' sw Fb out.av v
structure PureOk (P:Program) (g:Glob) {R:Type} (Γ:Callees R):Prop where
 enters:∀ f,Γ.isP f=true→Enters P f
 xok:∀ f h vs v,Γ.xc f=some (.flat h)→h vs=some v→∀ w,(callFunc f vs.toArray).run P w=.ok (.value v) w
 xid:∀ f,Γ.xc f=some .ident→∀ x w,(callFunc f #[x]).run P w=.ok (.value x) w
 ans:∀ f args kk pk r,Γ.isP f=true→Γ.pc f args kk pk=some r→(∃ av,kk av=some r∧Ew av=true∧Ans P g f args (.ret av))∨(∃ av,pk av=some r∧Ew av=true∧Ans P g f args (.pan av))
def uZ (P:Program) (g:Glob) (f:FuncId) (args:List AV) (H:ia) (o:OutS):Prop:=
 ∀ (gs:List Value) (B:Nat→Prop) (E:Env) (vs:List Value),St { g with gs:=gs } B E.w E.I E→E.H=H→E.L args vs→Calls P f vs.toArray E.w fun e w'=>
  ∃ v E',e=cnd o.pan (.panicked [{ v,recovered:=false }]) (.returned v)∧E'.w=w'∧St { g with gs:=gs } B E.w E.I E'∧E'.H=o.H∧E'.L o.ga vs∧E'.V o.v v
structure CsOk (P:Program) (g:Glob) {R:Type} (Γ:Callees R):Prop where
 ans:∀ f args H F,Γ.cs f args H=some F→Enters P f∧∀ k r,F k=some r→∃ out,k out=some r∧uZ P g f args H out
section
variable {P:Program} {L:Tys} {g:Glob} {B:Nat→Prop} {w0:World} {I0:Nat→Prop} {E:Env} {R:Type} {r:R}
theorem Cab {w:World} {I:Nat→Prop} {m m':Nat→Info} {T:Tab} {x:AV} {v:Value} (h:VR w I m Fb x v):VR w I m' T x v:=
 VR.mono (fun _=>true) (fun _ h=>⟨h,rfl⟩) x Fb T v (fun r p hp=>by simp [Fb] at hp) (.inl rfl) h
theorem nab {w:World} {I:Nat→Prop} {m m':Nat→Info} {T:Tab} {x:List AV} {v:List Value} (h:LR w I m Fb x v):LR w I m' T x v:=
 LR.mono (fun _=>true) (fun _ h=>⟨h,rfl⟩) x Fb T v (fun r p hp=>by simp [Fb] at hp) (.inl rfl) h
def b9 (w:World):Nat→Prop:=fun b=>b<w.heap.size
theorem L3 (hS:St g B w0 I0 E) {J:Nat→Prop} (hJ:∀ b,E.I b→J b) (hJ2:∀ b,¬B b→b<E.w.heap.size→J b) {x:AV} {v:Value} (h:E.V x v):VR E.w J E.m (tab E.H) (view E.H x) v:=by
 have up:∀ {T:Tab} {y:AV} {u:Value},VR E.w E.I E.m T y u→VR E.w J E.m T y u:=fun {T y u} hu=>
  VR.mono (fun _=>true) (fun b hb=>⟨hJ b hb,rfl⟩) y T T u (fun _ _ hp _=>⟨hp,rfl⟩) (.inr (rf_all' y)) hu
 cases x with
 | sl r n=>
  simp only [view]
  split
  · rename_i W hW
    split
    · rename_i τ xs hex
      have hels:W.els=fun i=>cel τ (xs i):=by unfold Row.els;rw [hex];rfl
      cases hpk:W.pf&&Nat.beq W.k τ.size with
      | false=>exact up h
      | true=>
       rw [Bool.and_eq_true] at hpk
       obtain ⟨hp,hkb⟩:=hpk
       have hkk:W.k=τ.size:=Nat.eq_of_beq_eq_true hkb
       have hk0:=hS.rows r W hW
       simp only [Env.V,VR] at h
       obtain ⟨⟨kk,hT⟩,h⟩:=h
       obtain ⟨rfl,rfl⟩:=ft hW hT
       rw [cnd_true,mr,←hkk]
       split at h
       · rename_i hal
         obtain ⟨c,rfl,hnc,_⟩:=h
         refine ⟨_,c,rfl,hnc,fun h0=>?_⟩
         obtain ⟨k1,k2,k3,arr,fz,k4,k5,k6,k6',k7⟩:=hk0.mem hal
         rw [hels] at k7
         have hlen:=hk0.len
         rw [hels] at hlen
         refine ⟨_,rfl,rfl,hJ2 _ k1 (Array.getElem?_eq_some_iff.1 k4).1,fun i hi=>⟨hlen i hi,fV fun j x hx=>?_⟩⟩
         obtain ⟨u,a,b,c⟩:=k7 i hi j x hx
         refine ⟨u,?_,?_,c⟩
         · rw [nr,Nat.zero_add]
           simp [World.cell?,k4,a]
         · unfold dt at b
           rw [if_pos hp] at b
           exact VR.mono (fun _=>true) (fun b hb=>⟨hJ b hb,rfl⟩) x Fb Fb u (fun _ _ hp _=>by simp [Fb] at hp) (.inl rfl) b
       · obtain ⟨⟨A0,rfl,_⟩,hn⟩:=h
         exact ⟨A0,0,by rw [hn],by omega,fun h0=>by omega⟩
    · exact up h
  · exact up h
 | _=>exact up h
where rf_all' (y:AV):rf (fun _=>true) y=true:=Lj y
theorem bY (hS:St g B w0 I0 E) {J:Nat→Prop} (hJ:∀ b,E.I b→J b) (hJ2:∀ b,¬B b→b<E.w.heap.size→J b):∀ {l:List AV} {vs:List Value},E.L l vs→LR E.w J E.m (tab E.H) (l.map (view E.H)) vs
 | [],[],_=>by simp [LR]
 | [],_::_,h=>by simp [Env.L,LR] at h
 | _::_,[],h=>by simp [Env.L,LR] at h
 | x::xs,v::vs,h=>by
  simp only [Env.L,LR] at h
  simp only [List.map_cons,LR]
  exact ⟨L3 hS hJ hJ2 h.1,bY hS hJ hJ2 h.2⟩
theorem aY (hS:St g B w0 I0 E) {J:Nat→Prop} (hJ:∀ b,E.I b→J b) (hJ2:∀ b,¬B b→b<E.w.heap.size→J b) {x:AV} {v:Value} (h:E.V x v):VR E.w J E.m (tab E.H) (YU E.H x) v:=by
 cases x with
 | agg l=>
  simp only [Env.V,VR] at h
  obtain ⟨a,rfl,h⟩:=h
  simp only [YU,VR]
  exact ⟨a,rfl,bY hS hJ hJ2 h⟩
 | _=>exact L3 hS hJ hJ2 h
theorem ZU (hS:St g B w0 I0 E) {J:Nat→Prop} (hJ:∀ b,E.I b→J b) (hJ2:∀ b,¬B b→b<E.w.heap.size→J b):∀ {l:List AV} {vs:List Value},E.L l vs→LR E.w J E.m (tab E.H) (l.map (YU E.H)) vs
 | [],[],_=>by simp [LR]
 | [],_::_,h=>by simp [Env.L,LR] at h
 | _::_,[],h=>by simp [Env.L,LR] at h
 | x::xs,v::vs,h=>by
  simp only [Env.L,LR] at h
  simp only [List.map_cons,LR]
  exact ⟨aY hS hJ hJ2 h.1,ZU hS hJ hJ2 h.2⟩
theorem cY (hS:St g B w0 I0 E) {J:Nat→Prop} (hJ:∀ b,E.I b→J b) (hJ2:∀ b,¬B b→b<E.w.heap.size→J b) {x:AV} {v:Value} (h:E.V x v):VR E.w J E.m (tab E.H) (Qt E.H x) v:=by
 cases x with
 | tup l=>
  simp only [Env.V,VR] at h
  obtain ⟨a,rfl,h⟩:=h
  simp only [Qt,VR]
  exact ⟨a,rfl,ZU hS hJ hJ2 h⟩
 | _=>exact aY hS hJ hJ2 h
theorem dJ (hS:St g B w0 I0 E):∀ {l:List AV} {vs:List Value},E.L l vs→LR E.w (b9 E.w) E.m (tab E.H) (l.map (Qt E.H)) vs
 | [],[],_=>by simp [LR]
 | [],_::_,h=>by simp [Env.L,LR] at h
 | _::_,[],h=>by simp [Env.L,LR] at h
 | x::xs,v::vs,h=>by
  simp only [Env.L,LR] at h
  simp only [List.map_cons,LR]
  exact ⟨cY hS (fun b hb=>hS.isz b hb) (fun b _ hb=>hb) h.1,dJ hS h.2⟩
theorem M3 (H:ia) {x:AV} (h:Ew x=true):view H x=x:=by
 cases x with
 | sl r n=>simp [Ew,rf] at h
 | _=>rfl
theorem HQ (H:ia):∀ {l:List AV},Ud l=true→l.map (view H)=l
 | [],_=>rfl
 | x::xs,h=>by
  simp only [Ud,rfs,Bool.and_eq_true] at h
  simp only [List.map_cons,M3 H h.1,HQ H (l:=xs) h.2]
theorem GQ (H:ia) {x:AV} (h:Ew x=true):YU H x=x:=by
 cases x with
 | agg l=>simp only [Ew,rf] at h;simp only [YU,HQ H h]
 | sl r n=>simp [Ew,rf] at h
 | _=>rfl
theorem BO (H:ia):∀ {l:List AV},Ud l=true→l.map (YU H)=l
 | [],_=>rfl
 | x::xs,h=>by
  simp only [Ud,rfs,Bool.and_eq_true] at h
  simp only [List.map_cons,GQ H h.1,BO H (l:=xs) h.2]
theorem sZ (H:ia) {x:AV} (h:Ew x=true):Qt H x=x:=by
 cases x with
 | tup l=>simp only [Ew,rf] at h;simp only [Qt,BO H h]
 | agg l=>exact GQ H h
 | sl r n=>simp [Ew,rf] at h
 | _=>rfl
theorem CO (H:ia):∀ {l:List AV},Ud l=true→l.map (Qt H)=l
 | [],_=>rfl
 | x::xs,h=>by
  simp only [Ud,rfs,Bool.and_eq_true] at h
  simp only [List.map_cons,sZ H h.1,CO H (l:=xs) h.2]
theorem IQ {w:World} {I:Nat→Prop} {m:Nat→Info} {T:Tab} {l:List AV} {vs:List Value} (hp:Ud l=true) (h:LR w I m T l vs):LR w I m Fb l vs:=
 LR.mono (fun _=>false) (fun _ h=>⟨h,rfl⟩) l T Fb vs (fun r p _ hd=>by cases hd) (.inr hp) h
theorem mX {w w':World} {I I':Nat→Prop} {m m':Nat→Info} {T T':Tab} {x:AV} {v:Value} (hf:pH x=true) (h:VR w I m T x v):VR w' I' m' T' x v:=by
 have hl:∀ {l:List AV} {vs:List Value},(l.all fun x=>match x with
   | .b _=>true
   | _=>false)=true→LR w I m T l vs→LR w' I' m' T' l vs:=fun {l}=>by
  induction l with
  | nil=>intro vs _ h;cases vs<;>simp_all [LR]
  | cons y ys ih=>
   intro vs hall h
   cases vs with
   | nil=>simp [LR] at h
   | cons u us=>
    simp only [List.all_cons,Bool.and_eq_true] at hall
    simp only [LR] at h ⊢
    refine ⟨?_,ih hall.2 h.2⟩
    have h1:=hall.1
    have h2:=h.1
    cases y<;>simp at h1
    simpa only [VR] using h2
 cases x with
 | b u=>simpa only [VR] using h
 | agg l=>simp only [VR] at h ⊢;obtain ⟨a,rfl,h⟩:=h;exact ⟨a,rfl,hl hf h⟩
 | tup l=>simp only [VR] at h ⊢;obtain ⟨a,rfl,h⟩:=h;exact ⟨a,rfl,hl hf h⟩
 | ifc t y=>
  cases y with
  | agg l=>simp only [VR] at h ⊢;obtain ⟨u,rfl,a,rfl,h⟩:=h;exact ⟨_,rfl,a,rfl,hl hf h⟩
  | _=>simp [pH] at hf
 | _=>simp [pH] at hf
theorem kT (hS:St g B w0 I0 E) {Γ:Callees R} (hΓ:PureOk P g Γ) {f:FuncId} {args:List AV} {vs:List Value} (hf:Γ.isP f=true) (hargs:E.L args vs) (hp:Ud (args.map (Qt E.H))=true) {kk pk:AV→Option R}
  (h:Γ.pc f (args.map (Qt E.H)) (fun v=>cnd (Ud args || pH v) (kk v) none) (fun v=>cnd (Ud args || pH v) (pk v) none)=some r):
  Calls P f vs.toArray E.w fun e w'=>∃ v av E',E'.w=w'∧St g B w0 I0 E'∧Ext kx E E'∧E'.V av v∧E'.H=E.H∧Below E.w.heap.size E.w w'∧(e=.returned v∧kk av=some r∨e=.panicked [{ v,recovered:=false }]∧pk av=some r):=by
 have key:∃ out:Out,((Ud args=true∨pH out.av=true)∧Ans P g f (args.map (Qt E.H)) out)∧∀ v,(out.end_ v=.returned v∧kk out.av=some r∨out.end_ v=.panicked [{ v,recovered:=false }]∧pk out.av=some r):=by
  rcases hΓ.ans f _ _ _ r hf h with ⟨av,hk,hpav,ha⟩ | ⟨av,hk,hpav,ha⟩
  · obtain ⟨hc,hk⟩:=sa hk
    rw [Bool.or_eq_true] at hc
    exact ⟨.ret av,⟨hc,ha⟩,fun v=>.inl ⟨rfl,hk⟩⟩
  · obtain ⟨hc,hk⟩:=sa hk
    rw [Bool.or_eq_true] at hc
    exact ⟨.pan av,⟨hc,ha⟩,fun v=>.inr ⟨rfl,hk⟩⟩
 obtain ⟨out,⟨hc,ha⟩,hend⟩:=key
 rcases hc with hc | hc
 · rw [CO E.H hc] at ha
   refine (ha E.w E.I vs hS.isz hS.glob hS.gbase (nab (IQ hc hargs))).mono ?_
   rintro e w' ⟨v,I',rfl,hb,h1,h2,h3,h4⟩
   obtain ⟨s1,s2⟩:=hS.grow hb h1 h2 h3
   exact ⟨v,out.av,_,rfl,s1,s2,Cab h4,rfl,hb,hend v⟩
 · have hv:=dJ hS hargs
   refine (ha E.w (b9 E.w) vs (fun b h=>h) hS.glob hS.gbase (nab (IQ hp hv))).mono ?_
   rintro e w' ⟨v,I',rfl,hb,h1,h2,h3,h4⟩
   obtain ⟨s1,s2⟩:=hS.grow hb (I':=E.I) (fun b h=>h) (fun b h=>.inl h) (fun b h=>Nat.lt_of_lt_of_le (hS.isz b h) hb.size)
   exact ⟨v,out.av,_,rfl,s1,s2,mX hc h4,rfl,hb,hend v⟩
end
open Go Go.RowKit
section
variable {P:Program} {L:Tys} {g:Glob} {B:Nat→Prop} {w0:World} {I0:Nat→Prop} {E:Env}
def R3 (E:Env) (r:Nat):Nat→Prop:=fun x=>E.I x∨((E.m r).al=true∧x=(E.m r).blk)
theorem St.freeze (h:St g B w0 I0 E) {r:Nat} {W:Row} (hW:E.H[r]?=some (some W)):
  St g B w0 I0 { E with I:=R3 E r,H:=tD E.H r }∧Ext (fun q=>!(Nat.beq q r)) E { E with I:=R3 E r,H:=tD E.H r }:=by
 have hrl:r<E.H.length:=(List.getElem?_eq_some_iff.1 hW).1
 have hget:∀ q,(tD E.H r)[q]?=if q=r then some none else (vp (fun q=>!(Nat.beq q r)) E.H)[q]?:=fun q=>by
  unfold tD
  rw [List.getElem?_set]
  by_cases hq:q=r
  · subst hq;rw [if_pos rfl,if_pos (by simpa [vp] using hrl),if_pos rfl]
  · rw [if_neg (Ne.symm hq),if_neg hq]
 obtain ⟨s1,s2⟩:=h.cut (D:=fun q=>!(Nat.beq q r)) (H':=tD E.H r) (fun q V' hV=>by
  rw [hget] at hV
  by_cases hq:q=r
  · rw [if_pos hq] at hV;cases hV
  · rw [if_neg hq,ef] at hV
    cases ho:E.H[q]? with
    | none=>rw [ho] at hV;cases hV
    | some o=>cases o with
     | none=>rw [ho] at hV;cases hV
     | some V=>rw [ho] at hV;exact ⟨ne_iff.2 hq,V,rfl,by simpa using hV.symm⟩) (fun q V hV hd=>by
  have hq:=ne_iff.1 hd
  rw [hget,if_neg hq,ef,hV];rfl)
 have hx:Ext kx { E with H:=tD E.H r } { E with I:=R3 E r,H:=tD E.H r }:=⟨fun b hb=>⟨.inl hb,rfl⟩,fun q p hp _=>⟨hp,rfl⟩⟩
 have hk0:=h.rows r W hW
 refine ⟨⟨s1.below,s1.hB,s1.hn,s1.gn,s1.glob,fun b hb=>?_,fun b hb=>.inl (s1.imono b hb),fun b hb=>?_,fun q V hV=>?_,s1.inj,s1.gse⟩,?_⟩
 · rcases hb with hb | ⟨ha,rfl⟩
   · exact s1.isz b hb
   · exact h.lt hW ha
 · rcases hb with hb | ⟨ha,rfl⟩
   · exact s1.ifresh b hb
   · exact .inr (hk0.mem ha).1
 · by_cases ha:(E.m q).al=true
   · refine (s1.rows q V hV).ext hx rfl rfl (fun h1 _ h3=>?_) (.inr fun _ _ _ _ _=>Lj _) (fun _ _ _=>Zb _)
     rcases h3 with h3 | ⟨ha',h3⟩
     · exact h1 h3
     · have hq:q≠r:=fun e=>by
        have:=hget q
        rw [if_pos e] at this
        rw [this] at hV;cases hV
       have hV0:∃ V0,E.H[q]?=some (some V0):=by
        have:=hget q
        rw [if_neg hq,ef] at this
        rw [this] at hV
        cases ho:E.H[q]? with
        | none=>rw [ho] at hV;cases hV
        | some o=>cases o with
         | none=>rw [ho] at hV;cases hV
         | some V0=>exact ⟨V0,rfl⟩
       obtain ⟨V0,hV0⟩:=hV0
       exact hq (h.inj q r V0 W hV0 hW ha ha' h3)
   · exact ⟨fun h1=>absurd ((s1.rows q V hV).al h1) ha,(s1.rows q V hV).len,(s1.rows q V hV).bx,fun l h0 hp hl=>hx.L (Zb l) ((s1.rows q V hV).gh l h0 hp hl),fun h1=>absurd h1 ha,(s1.rows q V hV).nn⟩
 · exact ⟨fun b hb=>⟨.inl hb,rfl⟩,fun q p hp hd=>s2.t q p hp hd⟩
theorem HC (hS:St g B w0 I0 E) {r n:Nat} {W:Row} (hW:E.H[r]?=some (some W)) {τ:CTy} {xs:Nat→El τ} (hex:W.ex=.typ τ xs) (hp:W.pf=true) (hkk:W.k=τ.size) {v:Value} (h:E.V (.sl r n) v) {T:Tab}:
  VR E.w (R3 E r) E.m T (.snap τ n xs) v:=by
 have hels:W.els=fun i=>cel τ (xs i):=by unfold Row.els;rw [hex];rfl
 have hk0:=hS.rows r W hW
 simp only [Env.V,VR] at h
 obtain ⟨⟨kk,hT⟩,h⟩:=h
 obtain ⟨rfl,rfl⟩:=ft hW hT
 rw [mr,←hkk]
 split at h
 · rename_i hal
   obtain ⟨c,rfl,hnc,_⟩:=h
   refine ⟨_,c,rfl,hnc,fun h0=>?_⟩
   obtain ⟨k1,k2,k3,arr,fz,k4,k5,k6,k6',k7⟩:=hk0.mem hal
   rw [hels] at k7
   have hlen:=hk0.len
   rw [hels] at hlen
   refine ⟨_,rfl,rfl,.inr ⟨hal,rfl⟩,fun i hi=>⟨hlen i hi,fV fun j x hx=>?_⟩⟩
   obtain ⟨u,a,b,c⟩:=k7 i hi j x hx
   refine ⟨u,?_,?_,c⟩
   · rw [nr,Nat.zero_add]
     simp [World.cell?,k4,a]
   · unfold dt at b
     rw [if_pos hp] at b
     exact VR.mono (fun _=>true) (fun b hb=>⟨.inl hb,rfl⟩) x Fb Fb u (fun _ _ hp _=>by simp [Fb] at hp) (.inl rfl) b
 · obtain ⟨⟨A0,rfl,_⟩,hn⟩:=h
   exact ⟨A0,0,by rw [hn],by omega,fun h0=>by omega⟩
variable {R:Type} {k:AV→ia→Option (Nat→Bool)→Option R} {r:R}
def C7 (r':Nat) (s:AV):AV→AV
 | .b v=>.b v
 | .sl q _=>cnd (Nat.beq q r') s .top
 | _=>.top
theorem b7 {n r':Nat} {s:AV} {lo hi:Option AV} {kk:Int→Int→Option R} (h:H4 n lo hi kk=some r):H4 n (lo.map (C7 r' s)) (hi.map (C7 r' s)) kk=some r:=by
 unfold H4 at h
 split at h
 · exact h
 · exact h
 · exact h
 · exact h
 · cases h
theorem s7 (hS:St g B w0 I0 E) (hL:Ub P L) {ev:Operand→AV} {ρ:Operand→Value} (hρ:∀ x,E.V (ev x) (ρ x)) {t:TypeId} {x:Operand} {lo hi:Option Operand} {r' n:Nat} (hx:ev x=.sl r' n) (h:(match Oe L t,E.H[r']? with
   | some y,some (some W)=>match y.u,W.ex with
    | .slice e,.typ τ xs=>match Oe L e with
     | some ye=>cnd (W.pf&&Nat.beq W.k τ.size&&Nat.beq ye.size τ.size&&Nat.blt 0 τ.size) (H4 n (lo.map ev) (hi.map ev) fun l h=>
       k (.snap τ (h.toNat - l.toNat) (fun i=>xs (l.toNat+i))) ((vp (fun q=>!(Nat.beq q r')) E.H).set r' none) (some fun q=>!(Nat.beq q r'))) none
     | none=>none
    | _,_=>none
   | _,_=>none)=some r):Nxt P g B w0 I0 E (do pure (Next.value (←Instr.sliceAt t (ρ x) (lo.map ρ) (hi.map ρ) none))) k r:=by
 split at h
 · rename_i y W hy hW
   split at h
   · rename_i e τ xs hu hex
     split at h
     · rename_i ye hye
       obtain ⟨hc,h⟩:=sa h
       simp only [Bool.and_eq_true] at hc
       obtain ⟨⟨⟨hp,hk⟩,hs1⟩,hs2⟩:=hc
       have hkk:W.k=τ.size:=Nat.eq_of_beq_eq_true hk
       obtain ⟨s1,s2⟩:=hS.freeze hW
       have hval:∀ q v,E.V (.sl r' q) v→q=n→({ E with I:=R3 E r',H:=tD E.H r' }:Env).V (.snap τ n xs) v:=fun q v hv hq=>by
        subst hq
        exact HC hS hW hex hp hkk hv
       have hn:n=W.n:=by
        have:=hρ x
        rw [hx] at this
        simp only [Env.V,VR] at this
        obtain ⟨⟨kk,hT⟩,_⟩:=this
        exact (ft hW hT).2
       have hρ1:∀ o,({ E with I:=R3 E r',H:=tD E.H r' }:Env).V (C7 r' (.snap τ n xs) (ev o)) (ρ o):=fun o=>by
        have ho:=hρ o
        cases he:ev o with
        | b v=>rw [he] at ho;exact V_b.2 (V_b.1 ho)
        | sl q m=>
         rw [he] at ho
         simp only [C7]
         cases hq:Nat.beq q r' with
         | false=>simp [Env.V,VR]
         | true=>
          have hq':q=r':=Nat.eq_of_beq_eq_true hq
          subst hq'
          refine hval m _ ho ?_
          simp only [Env.V,VR] at ho
          obtain ⟨⟨kk,hT⟩,_⟩:=ho
          rw [hn]
          exact (ft hW hT).2
        | _=>simp [C7,Env.V,VR]
       have h2:opP L (tD E.H r') (fun o=>C7 r' (.snap τ n xs) (ev o)) (.slice t x lo hi none) (fun v=>k v (tD E.H r') (some fun q=>!(Nat.beq q r')))=some r:=by
        simp only [opP,hx,C7,Nat.beq_eq_true_eq,hy]
        rw [show Nat.beq r' r'=true from Nat.beq_refl r',cnd_true]
        simp only [hu,hye]
        rw [show (Nat.beq ye.size τ.size&&Nat.blt 0 τ.size)=true from by rw [hs1,hs2];rfl,cnd_true]
        have:=b7 (r':=r') (s:=.snap τ n xs) h
        rw [Option.map_map,Option.map_map] at this
        exact this
       obtain ⟨av,v,h3,h4,h5⟩:=P3 (P:=P) (E:={ E with I:=R3 E r',H:=tD E.H r' }) (C:=fun _=>True) hL hρ1 h2
       exact ⟨av,v,_,some fun q=>!(Nat.beq q r'),s1,s2,h4,h3,.inl (zh (h5 E.w trivial))⟩
     · exact ja h
   · exact ja h
 · exact ja h
end
open Go Go.RowKit
structure Info.Same (a b:Info):Prop where
 al:a.al=b.al
 blk:a.blk=b.blk
 cap:a.cap=b.cap
theorem Info.Same.rfl' (a:Info):a.Same a:=⟨rfl,rfl,rfl⟩
section
variable {w w':World} {I I':Nat→Prop} {m m':Nat→Info} {ν:Nat→Option Nat}
mutual
theorem VP (hI:∀ b,I b→I' b∧w'.heap[b]?=w.heap[b]?):∀ (x:AV) (T T':Tab) (v:Value),(∀ r p q,T r=some p→ν r=some q→T' q=some p∧(m' q).Same (m r))→VR w I m T x v→VR w' I' m' T' (ren ν x) v
 | .agg l,T,T',v,hT,h=>by simp only [ren,VR] at h ⊢;obtain ⟨a,rfl,h⟩:=h;exact ⟨a,rfl,qE hI l T T' _ hT h⟩
 | .tup l,T,T',v,hT,h=>by simp only [ren,VR] at h ⊢;obtain ⟨a,rfl,h⟩:=h;exact ⟨a,rfl,qE hI l T T' _ hT h⟩
 | .fn f l,T,T',v,hT,h=>by simp only [ren,VR] at h ⊢;obtain ⟨a,rfl,h⟩:=h;exact ⟨a,rfl,qE hI l T T' _ hT h⟩
 | .ifc t x,T,T',v,hT,h=>by simp only [ren,VR] at h ⊢;obtain ⟨a,rfl,h⟩:=h;exact ⟨a,rfl,VP hI x T T' _ hT h⟩
 | .sl r n,T,T',v,hT,h=>by
  simp only [ren]
  split
  · rename_i q hq
    simp only [VR] at h ⊢
    obtain ⟨⟨k,hk⟩,h⟩:=h
    obtain ⟨h1,h2⟩:=hT r _ q hk hq
    exact ⟨⟨k,h1⟩,by rw [h2.al,h2.blk,h2.cap];exact h⟩
  · simp [VR]
 | .ptr r i j,T,T',v,hT,h=>by
  simp only [ren]
  split
  · rename_i q hq
    simp only [VR] at h ⊢
    obtain ⟨k,n,hk,hi,hj,ha,hv⟩:=h
    obtain ⟨h1,h2⟩:=hT r _ q hk hq
    exact ⟨k,n,h1,hi,hj,by rw [h2.al];exact ha,by rw [h2.blk];exact hv⟩
  · simp [VR]
 | .sp r n,T,T',v,hT,h=>by
  simp only [ren]
  split
  · rename_i q hq
    simp only [VR] at h ⊢
    obtain ⟨⟨k,hk⟩,h⟩:=h
    obtain ⟨h1,h2⟩:=hT r _ q hk hq
    exact ⟨⟨k,h1⟩,by rw [h2.al,h2.blk];exact h⟩
  · obtain ⟨_,p,hp,_⟩:_∧∃ p,v=.pointer p∧_:=by simpa only [VR] using h
    simp [VR]
 | .b u,T,T',v,hT,h=>by simpa only [ren,VR] using h
 | .top,T,T',v,hT,h=>by simp [ren,VR]
 | .snap τ n xs,T,T',v,hT,h=>by
  simp only [ren]
  exact VR.mono (fun _=>false) hI (.snap τ n xs) T T' v (fun _ _ _ hd=>by cases hd) (.inr (by simp [rf])) h
 | .sptr l,T,T',v,hT,h=>by
  simp only [ren]
  exact VR.mono (fun _=>false) hI (.sptr l) T T' v (fun _ _ _ hd=>by cases hd) (.inr (by simp [rf])) h
theorem qE (hI:∀ b,I b→I' b∧w'.heap[b]?=w.heap[b]?):∀ (l:List AV) (T T':Tab) (vs:List Value),(∀ r p q,T r=some p→ν r=some q→T' q=some p∧(m' q).Same (m r))→LR w I m T l vs→LR w' I' m' T' (kJ ν l) vs
 | [],T,T',[],_,_=>by simp [kJ,LR]
 | [],T,T',_::_,_,h=>by simp [LR] at h
 | _::_,T,T',[],_,h=>by simp [LR] at h
 | x::xs,T,T',v::vs,hT,h=>by
  simp only [kJ,LR] at h ⊢
  exact ⟨VP hI x T T' v hT h.1,qE hI xs T T' vs hT h.2⟩
end
theorem RX (ν:Nat→Option Nat):∀ (l:List AV) (j:Nat),(kJ ν l)[j]?=(l[j]?).map (ren ν)
 | [],j=>by simp [kJ]
 | x::xs,0=>by simp [kJ]
 | x::xs,j+1=>by simp [kJ,RX ν xs j]
theorem SX (ν:Nat→Option Nat):∀ l:List AV,(kJ ν l).length=l.length
 | []=>by simp [kJ]
 | x::xs=>by simp [kJ,SX ν xs]
end
theorem ZJ (ν:Nat→Option Nat) (W:Row):(Ui ν W).els=cnd W.pf W.els (fun i=>kJ ν (W.els i)):=by
 unfold Ui Row.els
 cases W.pf with
 | true=>rfl
 | false=>
  simp only [cnd_false]
  unfold Y7
  split
  · rename_i l he;rw [he];rfl
  · rfl
theorem dZ {ν:Nat→Option Nat} {W:Row} {l:List AV} (hp:W.pf=false) (h:(Ui ν W).ex=.box l):∃ l0,W.ex=.box l0∧l=kJ ν l0:=by
 unfold Ui at h
 simp only [hp,cnd_false] at h
 unfold Y7 at h
 split at h
 · rename_i l0 he
   cases h
   exact ⟨l0,he,rfl⟩
 · cases h
theorem RowOk.ren {B B':Nat→Prop} {E E':Env} {r q:Nat} {W:Row} {ν:Nat→Option Nat} (h:RowOk B E r W) (hm:(E'.m q).Same (E.m r)) (hgv:W.k=0→(E'.m q).gv=(E.m r).gv)
  (hcap:(E.m r).al=true→∃ arr fz,E'.w.heap[(E.m r).blk]?=some (.cells arr W.t fz)∧E.w.heap[(E.m r).blk]?=some (.cells arr W.t fz)) (hB:(E.m r).al=true→¬B' (E.m r).blk) (hnI:(E.m r).al=true→¬E'.I (E.m r).blk)
  (hI:∀ b,E.I b→E'.I b∧E'.w.heap[b]?=E.w.heap[b]?) (hν:∀ r p q,tab E.H r=some p→ν r=some q→tab E'.H q=some p∧(E'.m q).Same (E.m r)):RowOk B' E' q (Ui ν W):=by
 have hT:∀ {x:AV} {v:Value},VR E.w E.I E.m (dt W (tab E.H)) x v→VR E'.w E'.I E'.m (dt W (tab E'.H)) (cnd W.pf x (AM.ren ν x)) v:=fun {x v} hv=>by
  unfold dt at*
  cases hp:W.pf with
  | true=>
   simp only [hp,if_true,cnd_true] at hv ⊢
   exact VR.mono (fun _=>true) hI x Fb Fb v (fun r p hp=>by simp [Fb] at hp) (.inl rfl) hv
  | false=>
   simp only [hp,Bool.false_eq_true,if_false,cnd_false] at hv ⊢
   exact VP hI x _ _ v hν hv
 have hpf:(Ui ν W).pf=W.pf:=rfl
 refine ⟨fun h1=>by rw [hm.al];exact h.al h1,fun i hi=>?_,h.bx,fun l h0 hp hl=>?_,fun ha=>?_,fun h1 h2=>by rw [hm.al] at h2;rw [hm.cap];exact h.nn h1 h2⟩
 · have:=h.len i hi
   rw [ZJ]
   show _=W.k
   cases W.pf with
   | true=>exact this
   | false=>simpa [SX] using this
 · obtain ⟨l0,hl0,rfl⟩:=dZ (W:=W) hp hl
   rw [hgv h0]
   exact qE hI l0 _ _ _ hν (h.gh l0 h0 hp hl0)
 · rw [hm.al] at ha
   rw [hm.blk,hm.cap]
   obtain ⟨k1,k2,k3,arr,fz,k4,k5,k6,k6',k7⟩:=h.mem ha
   obtain ⟨arr',fz',e1,e2⟩:=hcap ha
   rw [k4] at e2
   cases e2
   refine ⟨hB ha,hnI ha,k3,arr,fz,e1,k5,k6,k6',fun i hi j x hx=>?_⟩
   show ∃ v,arr[i*W.k+j]?=some v∧VR E'.w E'.I E'.m (dt W (tab E'.H)) x v∧_
   cases hp:W.pf with
   | true=>
    have hx'':(W.els i)[j]?=some x:=by simpa [ZJ,hp] using hx
    obtain ⟨v,hv,hvr,h1⟩:=k7 i hi j x hx''
    have:=hT hvr
    rw [hp,cnd_true] at this
    exact ⟨v,hv,this,h1⟩
   | false=>
    have hx'':(kJ ν (W.els i))[j]?=some x:=by simpa [ZJ,hp] using hx
    rw [RX] at hx''
    cases hy:(W.els i)[j]? with
    | none=>rw [hy] at hx'';simp at hx''
    | some y=>
     rw [hy] at hx''
     simp at hx''
     obtain ⟨v,hv,hvr,h1⟩:=k7 i hi j y hy
     have:=hT hvr
     rw [hp,cnd_false,hx''] at this
     exact ⟨v,hv,this,h1⟩
theorem MX:∀ {o:List Nat} {r q:Nat},rQ o r=some q→o[q]?=some r
 | [],r,q,h=>by simp [rQ] at h
 | x::xs,r,q,h=>by
  simp only [rQ] at h
  cases hb:Nat.beq x r with
  | true=>
   rw [hb,cnd_true] at h
   cases h
   simp [Nat.eq_of_beq_eq_true hb]
  | false=>
   rw [hb,cnd_false] at h
   split at h
   · rename_i q' hq'
     cases h
     simpa using MX hq'
   · cases h
theorem memN_iff {r:Nat}:∀ {o:List Nat},AZ r o=true↔r∈o
 | []=>by simp [AZ]
 | x::xs=>by
  simp only [AZ]
  cases hb:Nat.beq x r with
  | true=>simp [Nat.eq_of_beq_eq_true hb]
  | false=>
   have:x≠r:=Nat.ne_of_beq_eq_false hb
   simp only [cnd_false,List.mem_cons,memN_iff (o:=xs)]
   exact ⟨.inr,fun h=>h.resolve_left (Ne.symm this)⟩
theorem Yn:∀ {rs o:List Nat},o.Nodup→(IM o rs).Nodup
 | [],o,h=>h
 | r::rs,o,h=>by
  simp only [IM]
  cases hb:AZ r o with
  | true=>exact Yn h
  | false=>
   refine Yn ?_
   rw [List.nodup_append]
   refine ⟨h,by simp,fun a ha b hb'=>?_⟩
   simp at hb'
   subst hb'
   intro e
   subst e
   rw [memN_iff.2 ha] at hb
   cases hb
theorem ZN {H:ia}:∀ {f p:Nat} {o:List Nat},o.Nodup→(D5 H f p o).Nodup
 | 0,p,o,h=>h
 | f+1,p,o,h=>by
  simp only [D5]
  split
  · exact ZN (Yn h)
  · exact h
theorem Gr (l:List AV) (H:ia):(order l H).Nodup:=ZN (Yn (by simp))
theorem QT:∀ {o:List Nat} {r i j:Nat},o.Nodup→o[i]?=some r→o[j]?=some r→i=j
 | [],r,i,j,_,h,_=>by simp at h
 | x::xs,r,0,0,_,_,_=>rfl
 | x::xs,r,0,j+1,hn,h,k=>by
  simp at h k
  exact absurd (h▸List.mem_of_getElem? k) (List.nodup_cons.1 hn).1
 | x::xs,r,i+1,0,hn,h,k=>by
  simp at h k
  exact absurd (k▸List.mem_of_getElem? h) (List.nodup_cons.1 hn).1
 | x::xs,r,i+1,j+1,hn,h,k=>by
  simp at h k
  rw [QT (List.nodup_cons.1 hn).2 h k]
theorem YX (o:List Nat) (H:ia) (q:Nat):(XX o H)[q]?=(o[q]?).map fun r=>(Mj H r).map (Ui (rQ o)):=by simp [XX]
theorem rowAtH_some {H:ia} {r:Nat} {W:Row}:Mj H r=some W↔H[r]?=some (some W):=by
 unfold Mj
 split
 · rename_i o ho;rw [ho];simp
 · rename_i ho;rw [ho];simp
theorem cJ {o:List Nat} {H:ia} {q:Nat} {W':Row} (h:(XX o H)[q]?=some (some W')):∃ r W,o[q]?=some r∧H[r]?=some (some W)∧W'=Ui (rQ o) W:=by
 rw [YX] at h
 cases ho:o[q]? with
 | none=>rw [ho] at h;simp at h
 | some r=>
  rw [ho] at h
  simp only [Option.map_some,Option.some.injEq] at h
  cases hr:Mj H r with
  | none=>rw [hr] at h;simp at h
  | some W=>
   rw [hr] at h
   simp only [Option.map_some,Option.some.injEq] at h
   exact ⟨r,W,rfl,rowAtH_some.1 hr,h.symm⟩
theorem DS {H:ia} {r:Nat} {p:Nat×Nat} (h:tab H r=some p):∃ W:Row,H[r]?=some (some W)∧p=(W.k,W.n):=by
 unfold tab at h
 split at h
 · rename_i W hW;cases h;exact ⟨W,hW,rfl⟩
 · cases h
theorem VU {H:ia} {r:Nat} {W:Row} (h:H[r]?=some (some W)):tab H r=some (W.k,W.n):=by unfold tab;rw [h]
section
variable {P:Program} {g:Glob} {B:Nat→Prop} {w0:World} {I0:Nat→Prop} {E:Env}
def T3 (E:Env) (o:List Nat):Nat→Prop:=fun b=>b<E.w.heap.size∧∀ r W,r∈o→E.H[r]?=some (some W)→(E.m r).al=true→b≠(E.m r).blk
def AO (E:Env) (o:List Nat):Env:={ w:=E.w,I:=E.I,m:=fun q=>E.m (o.getD q 0),H:=XX o E.H }
theorem SU {o:List Nat} {q r:Nat} (h:o[q]?=some r):(AO E o).m q=E.m r:=by
 simp only [AO,List.getD_eq_getElem?_getD,h,Option.getD_some]
theorem Mu {o:List Nat} {r q:Nat} {p:Nat×Nat} (hT:tab E.H r=some p) (h:rQ o r=some q):tab (AO E o).H q=some p∧((AO E o).m q).Same (E.m r):=by
 obtain ⟨W,hW,rfl⟩:=DS hT
 have hq:=MX h
 refine ⟨?_,by rw [SU hq];exact .rfl' _⟩
 have:(AO E o).H[q]?=some (some (Ui (rQ o) W)):=by
  show (XX o E.H)[q]?=_
  rw [YX,hq]
  simp [rowAtH_some.2 hW]
 rw [VU this];rfl
theorem TU (h:St g B w0 I0 E) {o:List Nat} {B':Nat→Prop} (hB:∀ r W,r∈o→E.H[r]?=some (some W)→(E.m r).al=true→¬B' (E.m r).blk):Rows B' (AO E o):=fun q W' hW'=>by
 obtain ⟨r,W,ho,hW,rfl⟩:=cJ hW'
 have hm:(AO E o).m q=E.m r:=SU ho
 refine (h.rows r W hW).ren (by rw [hm];exact .rfl' _) (fun _=>by rw [hm]) (fun ha=>?_) (fun ha=>hB r W (List.mem_of_getElem? ho) hW ha) (fun ha=>((h.rows r W hW).mem ha).2.1) (fun b hb=>⟨hb,rfl⟩) (fun r p q hT hq=>Mu hT hq)
 obtain ⟨_,_,_,arr,fz,hh,_⟩:=(h.rows r W hW).mem ha
 exact ⟨arr,fz,hh,hh⟩
theorem WX (h:St g B w0 I0 E) {o:List Nat} (hn:o.Nodup):∀ q q' W W',(AO E o).H[q]?=some (some W)→(AO E o).H[q']?=some (some W')→((AO E o).m q).al=true→((AO E o).m q').al=true→((AO E o).m q).blk=((AO E o).m q').blk→q=q':=fun q q' W W' hW hW' ha ha' hb=>by
 obtain ⟨r,V,ho,hV,rfl⟩:=cJ hW
 obtain ⟨r',V',ho',hV',rfl⟩:=cJ hW'
 rw [SU ho] at ha hb
 rw [SU ho'] at ha' hb
 have:=h.inj r r' V V' hV hV' ha ha' hb
 subst this
 exact QT hn ho ho'
theorem VX (h:St g B w0 I0 E) {o:List Nat}:∀ q W,(AO E o).H[q]?=some (some W)→W.k=0→W.pf=false→((AO E o).m q).gv=g.gs:=fun q W' hW' hk hp=>by
 obtain ⟨r,V,ho,hV,rfl⟩:=cJ hW'
 rw [SU ho]
 exact h.gse r V hV hk hp
theorem St.gc (h:St g B w0 I0 E) {o:List Nat} (hn:o.Nodup):St g B w0 I0 (AO E o):=
 ⟨h.below,h.hB,h.hn,h.gn,h.glob,h.isz,h.imono,h.ifresh,TU h fun r W _ hW ha=>((h.rows r W hW).mem ha).1,WX h hn,VX h⟩
theorem St.sub (h:St g B w0 I0 E) {o:List Nat} (hn:o.Nodup):St g (T3 E o) E.w E.I (AO E o):=by
 exact ⟨Kept.refl _ _,fun k hk=>hk.1,fun k hk=>⟨Nat.lt_of_lt_of_le hk h.gbase,fun r W hr hW ha e=>((h.rows r W hW).mem ha).1 (e▸h.hn k hk)⟩,h.gbase,h.glob,h.isz,fun b hb=>hb,fun b hb=>.inl hb,
  TU h fun r W hr hW ha hs=>hs.2 r W hr hW ha rfl,WX h hn,VX h⟩
theorem H6 {o:List Nat} {l:List AV} {vs:List Value} (h:E.L l vs):(AO E o).L (kJ (rQ o) l) vs:=
 qE (fun b hb=>⟨hb,rfl⟩) l _ _ vs (fun r p q hT hq=>Mu hT hq) h
end
open Go Go.RowKit
theorem rR {α β:Type} (f:Nat→α→β):∀ (l:List α) (i j:Nat),(d5 f i l)[j]?=(l[j]?).map (f (i+j))
 | [],i,j=>by simp [d5]
 | x::xs,i,0=>by simp [d5]
 | x::xs,i,j+1=>by
  simp only [d5,List.getElem?_cons_succ,rR f xs (i+1) j]
  rw [show i+1+j=i+(j+1) by omega]
theorem jM {α β:Type} (f:Nat→α→β):∀ (l:List α) (i:Nat),(d5 f i l).length=l.length
 | [],i=>rfl
 | x::xs,i=>by simp only [d5,List.length_cons,jM f xs]
theorem NW:∀ {ps:List (Nat×Nat)} {r q:Nat},toQ ps r=some q→(r,q)∈ps
 | [],r,q,h=>by cases h
 | (a,b)::ps,r,q,h=>by
  simp only [toQ] at h
  cases hb:Nat.beq a r with
  | true=>rw [hb,cnd_true] at h;cases h;simp [Nat.eq_of_beq_eq_true hb]
  | false=>rw [hb,cnd_false] at h;exact List.mem_cons_of_mem _ (NW h)
theorem H3:∀ {ps:List (Nat×Nat)} {r q:Nat},toR ps q=some r→(r,q)∈ps
 | [],r,q,h=>by cases h
 | (a,b)::ps,r,q,h=>by
  simp only [toR] at h
  cases hb:Nat.beq b q with
  | true=>rw [hb,cnd_true] at h;cases h;simp [Nat.eq_of_beq_eq_true hb]
  | false=>rw [hb,cnd_false] at h;exact List.mem_cons_of_mem _ (H3 h)
def Inj (ps:List (Nat×Nat)):Prop:=∀ r q r' q',(r,q)∈ps→(r',q')∈ps→(r=r'↔q=q')
theorem L6:∀ {ps:List (Nat×Nat)} {r q:Nat},Inj ps→(r,q)∈ps→toR ps q=some r
 | [],r,q,_,h=>by cases h
 | (a,b)::ps,r,q,hi,h=>by
  simp only [toR]
  cases hb:Nat.beq b q with
  | true=>
   have:=Nat.eq_of_beq_eq_true hb
   subst this
   rw [cnd_true,(hi a b r b (by simp) h).2 rfl]
  | false=>
   have hne:=Nat.ne_of_beq_eq_false hb
   rw [cnd_false]
   refine L6 (fun r q r' q' h h'=>hi r q r' q' (List.mem_cons_of_mem _ h) (List.mem_cons_of_mem _ h')) ?_
   rcases List.mem_cons.1 h with e | e
   · cases e;exact absurd rfl hne
   · exact e
theorem J6:∀ {ps:List (Nat×Nat)} {r q:Nat},Inj ps→(r,q)∈ps→toQ ps r=some q
 | [],r,q,_,h=>by cases h
 | (a,b)::ps,r,q,hi,h=>by
  simp only [toQ]
  cases hb:Nat.beq a r with
  | true=>
   have:=Nat.eq_of_beq_eq_true hb
   subst this
   rw [cnd_true,(hi a b a q (by simp) h).1 rfl]
  | false=>
   have hne:=Nat.ne_of_beq_eq_false hb
   rw [cnd_false]
   refine J6 (fun r q r' q' h h'=>hi r q r' q' (List.mem_cons_of_mem _ h) (List.mem_cons_of_mem _ h')) ?_
   rcases List.mem_cons.1 h with e | e
   · cases e;exact absurd rfl hne
   · exact e
theorem mR:∀ {ps:List (Nat×Nat)} {r q:Nat},L0 ps r q=true→∀ a b,(a,b)∈ps→a≠r∧b≠q
 | [],r,q,_,a,b,h=>by cases h
 | (a0,b0)::ps,r,q,h,a,b,hm=>by
  simp only [L0,Bool.and_eq_true,Bool.not_eq_true'] at h
  rcases List.mem_cons.1 hm with e | e
  · cases e;exact ⟨Nat.ne_of_beq_eq_false h.1.1,Nat.ne_of_beq_eq_false h.1.2⟩
  · exact mR h.2 a b e
section
variable {P:Program} {g:Glob} {B:Nat→Prop} {w0:World} {I0:Nat→Prop} {E E':Env}
structure Pair (E E':Env) (r q:Nat):Prop where
 w:∃ W W',E.H[r]?=some (some W)∧E'.H[q]?=some (some W')∧W.box=true∧W'.box=true∧W.k=W'.k∧W.t=W'.t∧0<W.k
 al:(E.m r).al=true
 al':(E'.m q).al=true
 blk:(E'.m q).blk=(E.m r).blk
theorem kM:∀ (xs ys:List AV) (vs:List Value) (ps:List (Nat×Nat)),E.L xs vs→E'.L ys vs→Inj ps→(∀ r q,(r,q)∈ps→Pair E E' r q)→Inj (Hr E.H E'.H ps xs ys)∧∀ r q,(r,q)∈Hr E.H E'.H ps xs ys→Pair E E' r q
 | [],ys,vs,ps,_,_,hi,hp=>by cases ys<;>exact ⟨hi,hp⟩
 | a::xs,[],vs,ps,_,_,hi,hp=>by cases a<;>exact ⟨hi,hp⟩
 | a::xs,b::ys,[],ps,h,_,_,_=>by simp [Env.L,LR] at h
 | a::xs,b::ys,v::vs,ps,h,h',hi,hp=>by
  simp only [Env.L,LR] at h h'
  have rest:=kM xs ys vs ps h.2 h'.2 hi hp
  by_cases hc:∃ r i j q i' j',a=.ptr r i j∧b=.ptr q i' j'
  · obtain ⟨r,i,j,q,i',j',rfl,rfl⟩:=hc
    simp only [Hr]
    cases hb:Nat.beq i i'&&Nat.beq j j'&&O1 E.H E'.H r q&&L0 ps r q with
    | false=>exact rest
    | true=>
     rw [cnd_true]
     simp only [Bool.and_eq_true] at hb
     obtain ⟨⟨⟨h1,h2⟩,h3⟩,h4⟩:=hb
     have e1:=Nat.eq_of_beq_eq_true h1
     have e2:=Nat.eq_of_beq_eq_true h2
     subst e1 e2
     refine kM xs ys vs (ps++[(r,q)]) h.2 h'.2 (fun r1 q1 r2 q2 m1 m2=>?_) (fun r1 q1 m1=>?_)
     · rw [List.mem_append] at m1 m2
       rcases m1 with m1 | m1<;>rcases m2 with m2 | m2
       · exact hi _ _ _ _ m1 m2
       · simp at m2
         obtain ⟨rfl,rfl⟩:=m2
         have:=mR h4 _ _ m1
         exact ⟨fun e=>absurd e this.1,fun e=>absurd e this.2⟩
       · simp at m1
         obtain ⟨rfl,rfl⟩:=m1
         have:=mR h4 _ _ m2
         exact ⟨fun e=>absurd e.symm this.1,fun e=>absurd e.symm this.2⟩
       · simp at m1 m2
         obtain ⟨rfl,rfl⟩:=m1
         obtain ⟨rfl,rfl⟩:=m2
         simp
     · rw [List.mem_append] at m1
       rcases m1 with m1 | m1
       · exact hp _ _ m1
       · simp at m1
         obtain ⟨rfl,rfl⟩:=m1
         have hv:=h.1
         have hv':=h'.1
         simp only [VR] at hv hv'
         obtain ⟨k,n,hT,_,_,ha,hv⟩:=hv
         obtain ⟨k',n',hT',_,_,ha',hv'⟩:=hv'
         unfold O1 at h3
         split at h3
         · rename_i W W' hW hW'
           simp only [Bool.and_eq_true] at h3
           refine ⟨⟨W,W',rowAtH_some.1 hW,rowAtH_some.1 hW',h3.1.1.1.1,h3.1.1.1.2,Nat.eq_of_beq_eq_true h3.1.1.2,Nat.eq_of_beq_eq_true h3.1.2,by have:=Nat.le_of_ble_eq_true h3.2;omega⟩,ha,ha',?_⟩
           rw [hv] at hv'
           simp only [Value.pointer.injEq,Option.some.injEq,Addr.mk.injEq] at hv'
           exact hv'.1.symm
         · cases h3
  · have:Hr E.H E'.H ps (a::xs) (b::ys)=Hr E.H E'.H ps xs ys:=by
     cases a<;>cases b<;>first
      | rfl
      | exact absurd ⟨_,_,_,_,_,_,rfl,rfl⟩ hc
    rw [this]
    exact rest
theorem MM {H H':ia} {o:List Nat} {ps:List (Nat×Nat)} {r:Nat} (hr:r<H.length):(jH H H' o ps)[r]?=some (match toQ ps r with
  | some q=>(Mj H' q).map (Ui (pJ ps H.length))
  | none=>cnd (AZ r o) none ((Mj H r).map (Ui (OV o ps)))):=by
 unfold jH
 rw [List.getElem?_append_left (by rw [jM];exact hr),rR,List.getElem?_eq_getElem hr,Nat.zero_add]
 simp only [Option.map_some,Option.some.injEq]
 have:Mj H r=H[r]:=by unfold Mj;rw [List.getElem?_eq_getElem hr]
 rw [this]
 cases toQ ps r<;>rfl
theorem gT {H H':ia} {o:List Nat} {ps:List (Nat×Nat)} {q:Nat}:(jH H H' o ps)[H.length+q]?=(H'[q]?).map fun W=>match toR ps q with
  | some _=>none
  | none=>W.map (Ui (pJ ps H.length)):=by
 unfold jH
 rw [List.getElem?_append_right (by rw [jM];omega),jM,rR,Nat.zero_add,Nat.add_sub_cancel_left]
 cases toR ps q<;>rfl
def iT (E E':Env):Nat→Info:=fun r=>if r<E.H.length then E.m r else E'.m (r - E.H.length)
theorem St.back (h:St g B w0 I0 E) {o:List Nat} {ps:List (Nat×Nat)} (h':St g (T3 E o) E.w E.I E') (hi:Inj ps) (hp:∀ r q,(r,q)∈ps→Pair E E' r q):
  let E2:Env:={ w:=E'.w,I:=E'.I,m:=iT E E',H:=jH E.H E'.H o ps }
  St g B w0 I0 E2∧Ext (qR o ps) E E2∧(∀ x v,E'.V x v→E2.V (ren (pJ ps E.H.length) x) v):=by
 intro E2
 have hB:∀ b,B b→T3 E o b:=fun b hb=>⟨h.base b hb,fun r W hr hW ha e=>((h.rows r W hW).mem ha).1 (e▸hb)⟩
 have hold:∀ b,T3 E o b→E'.w.heap[b]?=E.w.heap[b]?:=fun b hb=>h'.below.block b hb
 have hIB:∀ b,E.I b→T3 E o b:=fun b hb=>⟨h.isz b hb,fun r W hr hW ha e=>((h.rows r W hW).mem ha).2.1 (e▸hb)⟩
 have hkeepB:∀ r W,E.H[r]?=some (some W)→(E.m r).al=true→r ∉ o→T3 E o (E.m r).blk:=fun r W hW ha hr=>⟨h.lt hW ha,fun r' W' hr' hW' ha' e=>hr (h.inj r r' W W' hW hW' ha ha' e▸hr')⟩
 have hmold:∀ r,r<E.H.length→E2.m r=E.m r:=fun r hr=>by show iT E E' r=_;unfold iT;rw [if_pos hr]
 have hmnew:∀ q,E2.m (E.H.length+q)=E'.m q:=fun q=>by show iT E E' _=_;unfold iT;rw [if_neg (by omega),Nat.add_sub_cancel_left]
 have hlen:∀ r W,E.H[r]?=some (some W)→r<E.H.length:=fun r W hW=>(List.getElem?_eq_some_iff.1 hW).1
 have hpair:∀ r q,(r,q)∈ps→∃ W W',E.H[r]?=some (some W)∧E'.H[q]?=some (some W')∧W.k=W'.k∧W.n=W'.n∧0<W.k∧(E'.m q).Same (E.m r)∧E2.H[r]?=some (some (Ui (pJ ps E.H.length) W')):=fun r q hm=>by
  obtain ⟨⟨W,W',hW,hW',b1,b2,hk,ht,hk0⟩,ha,ha',hb⟩:=hp r q hm
  have n1:=(h.rows r W hW).bx b1
  have n2:=(h'.rows q W' hW').bx b2
  obtain ⟨_,_,_,arr,fz,k4,k5,_⟩:=(h.rows r W hW).mem ha
  obtain ⟨_,_,_,arr',fz',l4,l5,_⟩:=(h'.rows q W' hW').mem ha'
  obtain ⟨arr2,fz2,e1,e2⟩:=h'.below.szs _ _ _ _ k4
  rw [hb,e1] at l4
  have l4:=(Obj.cells.inj (Option.some.inj l4)).1
  subst l4
  refine ⟨W,W',hW,hW',hk,by omega,hk0,⟨by rw [ha,ha'],hb,?_⟩,?_⟩
  · rw [e2,k5,←hk] at l5
    exact (Nat.eq_of_mul_eq_mul_right hk0 l5).symm
  · show (jH E.H E'.H o ps)[r]?=_
    rw [MM (hlen r W hW),J6 hi hm]
    simp [rowAtH_some.2 hW']
 have hνb:∀ q p r,tab E'.H q=some p→pJ ps E.H.length q=some r→tab E2.H r=some p∧(E2.m r).Same (E'.m q):=fun q p r hT hr=>by
  obtain ⟨W',hW',rfl⟩:=DS hT
  unfold pJ at hr
  split at hr
  · rename_i r' hr'
    cases hr
    obtain ⟨W,W2,hW,hW2,hk,hn,_,hs,hH⟩:=hpair r q (H3 hr')
    rw [hW2] at hW'
    cases hW'
    refine ⟨by rw [VU hH];rfl,?_⟩
    rw [hmold r (hlen r W hW)]
    exact ⟨hs.al.symm,hs.blk.symm,hs.cap.symm⟩
  · rename_i hr'
    cases hr
    refine ⟨?_,by rw [hmnew];exact .rfl' _⟩
    have:E2.H[E.H.length+q]?=some (some (Ui (pJ ps E.H.length) W')):=by
     show (jH E.H E'.H o ps)[E.H.length+q]?=_
     rw [gT,hW']
     simp [hr']
    rw [VU this];rfl
 have hνk:∀ r p r',tab E.H r=some p→OV o ps r=some r'→tab E2.H r'=some p∧E2.m r'=E.m r:=fun r p r' hT hr=>by
  obtain ⟨W,hW,rfl⟩:=DS hT
  unfold OV at hr
  obtain ⟨hd,hr⟩:=sa hr
  cases hr
  refine ⟨?_,hmold r (hlen r W hW)⟩
  cases hq:toQ ps r with
  | some q=>
   obtain ⟨W1,W',hW1,hW',hk,hn,_,_,hH⟩:=hpair r q (NW hq)
   rw [hW] at hW1
   cases hW1
   rw [VU hH]
   show some (W'.k,W'.n)=_
   rw [hk,hn]
  | none=>
   have hno:AZ r o=false:=by
    unfold qR at hd
    cases hm:AZ r o with
    | false=>rfl
    | true=>rw [hm,hq] at hd;cases hd
   have:E2.H[r]?=some (some (Ui (OV o ps) W)):=by
    show (jH E.H E'.H o ps)[r]?=_
    rw [MM (hlen r W hW),hq,hno]
    simp [rowAtH_some.2 hW]
   rw [VU this];rfl
 have cases_:∀ r V,E2.H[r]?=some (some V)→(∃ q W',(r,q)∈ps∧E'.H[q]?=some (some W')∧V=Ui (pJ ps E.H.length) W')∨(∃ W,r ∉ o∧E.H[r]?=some (some W)∧V=Ui (OV o ps) W)∨
   (∃ q W',r=E.H.length+q∧toR ps q=none∧E'.H[q]?=some (some W')∧V=Ui (pJ ps E.H.length) W'):=fun r V hV=>by
  have hV:(jH E.H E'.H o ps)[r]?=some (some V):=hV
  rcases Nat.lt_or_ge r E.H.length with hr | hr
  · rw [MM hr] at hV
    split at hV
    · rename_i q hq
      cases hw:Mj E'.H q with
      | none=>rw [hw] at hV;simp at hV
      | some W'=>
       rw [hw] at hV
       simp only [Option.map_some,Option.some.injEq] at hV
       exact .inl ⟨q,W',NW hq,rowAtH_some.1 hw,hV.symm⟩
    · cases hm:AZ r o with
      | true=>rw [hm] at hV;simp at hV
      | false=>
       rw [hm,cnd_false] at hV
       cases hw:Mj E.H r with
       | none=>rw [hw] at hV;simp at hV
       | some W=>
        rw [hw] at hV
        simp only [Option.map_some,Option.some.injEq] at hV
        exact .inr (.inl ⟨W,fun hmem=>(by rw [memN_iff.2 hmem] at hm;cases hm),rowAtH_some.1 hw,hV.symm⟩)
  · obtain ⟨q,rfl⟩:∃ q,r=E.H.length+q:=⟨r - E.H.length,by omega⟩
    rw [gT] at hV
    cases hq:E'.H[q]? with
    | none=>rw [hq] at hV;simp at hV
    | some o'=>
     rw [hq] at hV
     simp only [Option.map_some,Option.some.injEq] at hV
     cases hr':toR ps q with
     | some r0=>rw [hr'] at hV;simp at hV
     | none=>
      rw [hr'] at hV
      cases o' with
      | none=>simp at hV
      | some W'=>
       simp only [Option.map_some,Option.some.injEq] at hV
       exact .inr (.inr ⟨q,W',rfl,hr',hq,hV.symm⟩)
 have hI2:∀ b,E.I b→E'.I b∧E'.w.heap[b]?=E.w.heap[b]?:=fun b hb=>⟨h'.imono b hb,hold b (hIB b hb)⟩
 have hx:Ext (qR o ps) E E2:=⟨hI2,fun r p hT hd=>by
  exact hνk r p r hT (by unfold OV;rw [hd];rfl)⟩
 have hnB:∀ q W',E'.H[q]?=some (some W')→(E'.m q).al=true→¬B (E'.m q).blk:=fun q W' hW' ha hb=>((h'.rows q W' hW').mem ha).1 (hB _ hb)
 refine ⟨⟨h.below.trans (h'.below.weaken hB),h.hB,h.hn,h.gn,h'.glob,h'.isz,fun b hb=>h'.imono b (h.imono b hb),fun b hb=>?_,fun r V hV=>?_,fun r r' V V' hV hV' ha ha' hb=>?_,fun r V hV hk hpf=>?_⟩,hx,fun x v hv=>VP (fun b hb=>⟨hb,rfl⟩) x _ _ v hνb hv⟩
 · rcases h'.ifresh b hb with h1 | h1
   · exact h.ifresh b h1
   · exact .inr fun h2=>h1 (hB b h2)
 · rcases cases_ r V hV with ⟨q,W',hm,hW',rfl⟩ | ⟨W,hr,hW,rfl⟩ | ⟨q,W',rfl,hq,hW',rfl⟩
   · obtain ⟨W,W2,hW,hW2,hk,hn,hk0,hs,hH⟩:=hpair r q hm
     rw [hW'] at hW2
     cases hW2
     have hmr:E2.m r=E.m r:=hmold r (hlen r W hW)
     refine (h'.rows q W' hW').ren (by rw [hmr];exact ⟨hs.al.symm,hs.blk.symm,hs.cap.symm⟩) (fun h0=>absurd h0 (by omega)) (fun ha=>?_) (hnB q W' hW') (fun ha=>((h'.rows q W' hW').mem ha).2.1) (fun b hb=>⟨hb,rfl⟩) (fun q p r hT hr=>hνb q p r hT hr)
     obtain ⟨_,_,_,arr,fz,hh,_⟩:=(h'.rows q W' hW').mem ha
     exact ⟨arr,fz,hh,hh⟩
   · have hmr:E2.m r=E.m r:=hmold r (hlen r W hW)
     refine (h.rows r W hW).ren (by rw [hmr];exact .rfl' _) (fun _=>by rw [hmr]) (fun ha=>?_) (fun ha=>((h.rows r W hW).mem ha).1) (fun ha hI=>?_) hI2 (fun r p r' hT hr=>by
      obtain ⟨e1,e2⟩:=hνk r p r' hT hr
      exact ⟨e1,by rw [e2];exact .rfl' _⟩)
     · obtain ⟨_,_,_,arr,fz,hh,_⟩:=(h.rows r W hW).mem ha
       exact ⟨arr,fz,by show E'.w.heap[(E.m r).blk]?=_;rw [hold _ (hkeepB r W hW ha hr)];exact hh,hh⟩
     · rcases h'.ifresh _ hI with h1 | h1
       · exact ((h.rows r W hW).mem ha).2.1 h1
       · exact h1 (hkeepB r W hW ha hr)
   · refine (h'.rows q W' hW').ren (by rw [hmnew];exact .rfl' _) (fun _=>by rw [hmnew]) (fun ha=>?_) (hnB q W' hW') (fun ha=>((h'.rows q W' hW').mem ha).2.1) (fun b hb=>⟨hb,rfl⟩) (fun q p r hT hr=>hνb q p r hT hr)
     obtain ⟨_,_,_,arr,fz,hh,_⟩:=(h'.rows q W' hW').mem ha
     exact ⟨arr,fz,hh,hh⟩
 · -- two rows never lie in one block
   have old:∀ r V,E2.H[r]?=some (some V)→(E2.m r).al=true→(∃ W,E.H[r]?=some (some W)∧(E.m r).al=true∧E2.m r=E.m r∧(r ∉ o∨∃ q W',(r,q)∈ps∧E'.H[q]?=some (some W')∧(E'.m q).al=true∧(E'.m q).blk=(E.m r).blk))∨
     ∃ q W',r=E.H.length+q∧toR ps q=none∧E'.H[q]?=some (some W')∧(E'.m q).al=true∧(E2.m r).blk=(E'.m q).blk:=fun r V hV ha=>by
    rcases cases_ r V hV with ⟨q,W',hm,hW',rfl⟩ | ⟨W,hr,hW,rfl⟩ | ⟨q,W',rfl,hq,hW',rfl⟩
    · obtain ⟨W,W2,hW,hW2,hk,hn,hk0,hs,hH⟩:=hpair r q hm
      have hmr:=hmold r (hlen r W hW)
      rw [hmr] at ha
      exact .inl ⟨W,hW,ha,hmr,.inr ⟨q,W',hm,hW',by rw [hs.al];exact ha,hs.blk⟩⟩
    · have hmr:=hmold r (hlen r W hW)
      rw [hmr] at ha
      exact .inl ⟨W,hW,ha,hmr,.inl hr⟩
    · rw [hmnew] at ha
      exact .inr ⟨q,W',rfl,hq,hW',ha,by rw [hmnew]⟩
   have mix:∀ r W,E.H[r]?=some (some W)→(E.m r).al=true→(r ∉ o∨∃ q W',(r,q)∈ps∧E'.H[q]?=some (some W')∧(E'.m q).al=true∧(E'.m q).blk=(E.m r).blk)→∀ q W',toR ps q=none→E'.H[q]?=some (some W')→(E'.m q).al=true→(E.m r).blk≠(E'.m q).blk:=fun r W hW ha hor q W' hq hW' ha' e=>by
    rcases hor with hr | ⟨q2,W2,hm,hW2,ha2,hb2⟩
    · exact ((h'.rows q W' hW').mem ha').1 (e▸hkeepB r W hW ha hr)
    · have:=h'.inj q2 q W2 W' hW2 hW' ha2 ha' (hb2.trans e)
      subst this
      rw [L6 hi hm] at hq
      cases hq
   rcases old r V hV ha with ⟨W,hW,a1,m1,o1⟩ | ⟨q,W',rfl,hq,hW',a1,b1⟩<;>rcases old r' V' hV' ha' with ⟨W2,hW2,a2,m2,o2⟩ | ⟨q2,W2',rfl,hq2,hW2',a2,b2⟩
   · rw [m1,m2] at hb
     exact h.inj r r' W W2 hW hW2 a1 a2 hb
   · rw [m1,b2] at hb
     exact absurd hb (mix r W hW a1 o1 q2 W2' hq2 hW2' a2)
   · rw [b1,m2] at hb
     exact absurd hb.symm (mix r' W2 hW2 a2 o2 q W' hq hW' a1)
   · rw [b1,b2] at hb
     rw [h'.inj q q2 W' W2' hW' hW2' a1 a2 hb]
 · rcases cases_ r V hV with ⟨q,W',hm,hW',rfl⟩ | ⟨W,hr,hW,rfl⟩ | ⟨q,W',rfl,hq,hW',rfl⟩
   · obtain ⟨W,W2,hW,hW2,hk',hn,hk0,hs,hH⟩:=hpair r q hm
     rw [hW'] at hW2
     cases hW2
     have hk2:W'.k=0:=hk
     omega
   · rw [hmold r (hlen r W hW)]
     exact h.gse r W hW hk hpf
   · rw [hmnew]
     exact h'.gse q W' hW' hk hpf
variable {R:Type} {r:R}
theorem e7 (hS:St g B w0 I0 E) {f:FuncId} {args:List AV} {vs:List Value} {out:OutS} (hargs:E.L args vs) (ha:uZ P g f (kJ (rQ (order args E.H)) args) (XX (order args E.H) E.H) out)
  {k pn:AV→ia→Option (Nat→Bool)→Option R} (h:csB E.H (order args E.H) out (Hr E.H out.H [] args out.ga) k pn=some r):
  Calls P f vs.toArray E.w fun e w'=>∃ v av E2 D,E2.w=w'∧St g B w0 I0 E2∧Ext (Option.getD D kx) E E2∧E2.V av v∧(e=.returned v∧k av E2.H D=some r∨e=.panicked [{ v,recovered:=false }]∧pn av E2.H D=some r):=by
 have hsub:=hS.sub (Gr args E.H)
 refine (ha g.gs (T3 E (order args E.H)) (AO E (order args E.H)) vs hsub rfl (H6 hargs)).mono ?_
 rintro e w' ⟨v,E',rfl,rfl,h',hH,hga,hv⟩
 obtain ⟨hi,hp⟩:=kM (E:=E) (E':=E') args out.ga vs [] hargs hga (fun _ _ _ _ hh=>by cases hh) (fun _ _ hh=>by cases hh)
 rw [hH] at hi hp
 obtain ⟨s1,s2,s3⟩:=hS.back (E':=E') (o:=order args E.H) h' hi hp
 refine ⟨v,_,{ w:=E'.w,I:=E'.I,m:=iT E E',H:=jH E.H E'.H (order args E.H) (Hr E.H out.H [] args out.ga) },some (qR (order args E.H) (Hr E.H out.H [] args out.ga)),rfl,s1,s2,s3 _ _ hv,?_⟩
 unfold csB at h
 cases hpan:out.pan with
 | true=>
  rw [hpan,cnd_true] at h
  exact .inr ⟨rfl,by rw [hH];exact h⟩
 | false=>
  rw [hpan,cnd_false] at h
  exact .inl ⟨rfl,by rw [hH];exact h⟩
theorem J4 (hS:St g B w0 I0 E) {f:FuncId} {args:List AV} {vs:List Value} {out:OutS} (hargs:E.L args vs) (ho:order args E.H=[]) (ha:uZ P g f (kJ (rQ (order args E.H)) args) (XX (order args E.H) E.H) out)
  {k pn:AV→ia→Option (Nat→Bool)→Option R} (h:csB E.H (order args E.H) out (Hr E.H out.H [] args out.ga) k pn=some r):
  Calls P f vs.toArray E.w fun e w'=>∃ v av E2 D,E2.w=w'∧St g B w0 I0 E2∧Ext (Option.getD D kx) E E2∧E2.V av v∧Below E.w.heap.size E.w w'∧(e=.returned v∧k av E2.H D=some r∨e=.panicked [{ v,recovered:=false }]∧pn av E2.H D=some r):=by
 have hsub:=hS.sub (Gr args E.H)
 refine (ha g.gs (T3 E (order args E.H)) (AO E (order args E.H)) vs hsub rfl (H6 hargs)).mono ?_
 rintro e w' ⟨v,E',rfl,rfl,h',hH,hga,hv⟩
 obtain ⟨hi,hp⟩:=kM (E:=E) (E':=E') args out.ga vs [] hargs hga (fun _ _ _ _ hh=>by cases hh) (fun _ _ hh=>by cases hh)
 rw [hH] at hi hp
 obtain ⟨s1,s2,s3⟩:=hS.back (E':=E') (o:=order args E.H) h' hi hp
 refine ⟨v,_,{ w:=E'.w,I:=E'.I,m:=iT E E',H:=jH E.H E'.H (order args E.H) (Hr E.H out.H [] args out.ga) },some (qR (order args E.H) (Hr E.H out.H [] args out.ga)),rfl,s1,s2,s3 _ _ hv,h'.below.below (fun k hk=>⟨hk,fun r W hr=>by rw [ho] at hr;cases hr⟩),?_⟩
 unfold csB at h
 cases hpan:out.pan with
 | true=>
  rw [hpan,cnd_true] at h
  exact .inr ⟨rfl,by rw [hH];exact h⟩
 | false=>
  rw [hpan,cnd_false] at h
  exact .inl ⟨rfl,by rw [hH];exact h⟩
mutual
theorem FZ {w:World} {I I':Nat→Prop} {m:Nat→Info} {T:Tab}:∀ (x:AV) (v:Value),noI x=true→VR w I m T x v→VR w I' m T x v
 | .agg l,v,hn,h=>by
  simp only [noI] at hn
  simp only [VR] at h ⊢
  obtain ⟨a,rfl,h⟩:=h
  exact ⟨a,rfl,CZ l _ hn h⟩
 | .tup l,v,hn,h=>by
  simp only [noI] at hn
  simp only [VR] at h ⊢
  obtain ⟨a,rfl,h⟩:=h
  exact ⟨a,rfl,CZ l _ hn h⟩
 | .b _,v,_,h=>by simpa only [VR] using h
 | .sl _ _,v,_,h=>by simpa only [VR] using h
 | .ptr _ _ _,v,_,h=>by simpa only [VR] using h
 | .sp _ _,v,_,h=>by simpa only [VR] using h
 | .top,v,_,_=>by simp [VR]
 | .ifc _ _,v,hn,_=>by simp [noI] at hn
 | .fn _ _,v,hn,_=>by simp [noI] at hn
 | .snap _ _ _,v,hn,_=>by simp [noI] at hn
 | .sptr _,v,hn,_=>by simp [noI] at hn
theorem CZ {w:World} {I I':Nat→Prop} {m:Nat→Info} {T:Tab}:∀ (l:List AV) (vs:List Value),UV l=true→LR w I m T l vs→LR w I' m T l vs
 | [],[],_,_=>by simp [LR]
 | [],_::_,_,h=>by simp [LR] at h
 | _::_,[],_,h=>by simp [LR] at h
 | x::xs,v::vs,hn,h=>by
  simp only [UV,Bool.and_eq_true] at hn
  simp only [LR] at h ⊢
  exact ⟨FZ x v hn.1 h.1,CZ xs vs hn.2 h.2⟩
end
theorem DX:∀ {l l':List AV},UV l=true→UV l'=true→UV (l++l')=true
 | [],_,_,h=>h
 | x::xs,_,h,h'=>by
  simp only [UV,Bool.and_eq_true] at h
  simp only [List.cons_append,UV,h.1,Bool.true_and]
  exact DX h.2 h'
theorem sR:∀ {l:List AV} {j:Nat} {x:AV},UV l=true→l[j]?=some x→noI x=true
 | [],_,_,_,h=>by simp at h
 | y::ys,0,x,hn,h=>by
  simp only [UV,Bool.and_eq_true] at hn
  simp at h;exact h▸hn.1
 | y::ys,j+1,x,hn,h=>by
  simp only [UV,Bool.and_eq_true] at hn
  simp at h;exact sR hn.2 h
theorem BV:∀ (τ:CTy) (y:El τ),yY τ=true→UV (cel τ y)=true
 | .bool,_,_=>rfl
 | .int _,_,_=>rfl
 | .flt _,_,_=>rfl
 | .str,_,_=>rfl
 | .unit,_,_=>rfl
 | .pair a b,y,h=>by
  simp only [yY,Bool.and_eq_true] at h
  exact DX (BV a y.1 h.1) (BV b y.2 h.2)
 | .sl _,_,h=>by simp [yY] at h
theorem St.less {I1:Nat→Prop} (h:St g B w0 I0 E) (h1:∀ b,I1 b→I0 b) (hr:E.H.all eO=true):St g B w0 I1 { E with I:=I1 }:=by
 refine ⟨h.below,h.hB,h.hn,h.gn,h.glob,fun b hb=>h.isz b (h.imono b (h1 b hb)),fun b hb=>hb,fun b hb=>.inl hb,fun r W hW=>?_,h.inj,h.gse⟩
 have hk:=h.rows r W hW
 have hf:eO (some W)=true:=List.all_eq_true.1 hr _ (List.mem_of_getElem? hW)
 have hels:∀ i j x,(W.els i)[j]?=some x→noI x=true:=fun i j x hx=>by
  simp only [eO] at hf
  unfold Row.els Els.at' at hx
  split at hf
  · rename_i τ xs he
    rw [he] at hx
    exact sR (BV τ (xs i) hf) hx
  · rename_i l he
    rw [he] at hx
    rw [Bool.and_eq_true] at hf
    exact sR hf.1 hx
  · cases hf
 refine ⟨hk.al,hk.len,hk.bx,fun l h0 _ hl=>?_,fun ha=>?_,hk.nn⟩
 · simp only [eO,hl,Bool.and_eq_true,Bool.not_eq_true'] at hf
   exact absurd h0 (Nat.ne_of_beq_eq_false hf.2)
 · obtain ⟨k1,k2,k3,arr,fz,k4,k5,k6,k6',k7⟩:=hk.mem ha
   refine ⟨k1,fun hb=>k2 (h.imono _ (h1 _ hb)),k3,arr,fz,k4,k5,k6,k6',fun i hi j x hx=>?_⟩
   obtain ⟨v,hv,hx',h9⟩:=k7 i hi j x hx
   exact ⟨v,hv,FZ x v (hels i j x hx) hx',h9⟩
theorem f7 (hS:St g B w0 I0 E) {f:FuncId} {args:List AV} {vs:List Value} {out:OutS} (hargs:E.L args vs) (ha:uZ P g f (args.map (Qt E.H)) [] out) (hp:Ud (args.map (Qt E.H))=true) (hf:ZV out=true)
  {k pn:AV→ia→Option (Nat→Bool)→Option R} (h:csB E.H [] out [] k pn=some r):
  Calls P f vs.toArray E.w fun e w'=>∃ v av E2 D,E2.w=w'∧St g B w0 I0 E2∧Ext (Option.getD D kx) E E2∧E2.V av v∧(e=.returned v∧k av E2.H D=some r∨e=.panicked [{ v,recovered:=false }]∧pn av E2.H D=some r):=by
 have hB:(fun k=>k<E.w.heap.size)=T3 E []:=funext fun b=>propext ⟨fun hb=>⟨hb,fun _ _ hr=>by cases hr⟩,fun hb=>hb.1⟩
 have hgn:g.n≤E.w.heap.size:=Nat.le_trans hS.gn hS.below.size
 have hS1:St { g with gs:=g.gs } (fun k=>k<E.w.heap.size) E.w (b9 E.w) { w:=E.w,I:=b9 E.w,m:=E.m,H:=[] }:=
  ⟨Kept.refl _ _,fun k hk=>hk,fun k hk=>Nat.lt_of_lt_of_le hk hgn,hgn,hS.glob,fun b hb=>hb,fun b hb=>hb,fun b hb=>.inl hb,fun r W hW=>by simp at hW,fun r r' W W' hW=>by simp at hW,fun r W hW=>by simp at hW⟩
 have hv:=dJ hS hargs
 refine (ha g.gs _ { w:=E.w,I:=b9 E.w,m:=E.m,H:=[] } vs hS1 rfl (nab (IQ hp hv))).mono ?_
 rintro e w' ⟨v,E',rfl,rfl,h',hH,hga,hv⟩
 unfold ZV at hf
 rw [Bool.and_eq_true] at hf
 have h2:St g (T3 E []) E.w E.I { E' with I:=E.I }:=by
  rw [←hB]
  exact St.less h' (fun b hb=>hS.isz b hb) (by rw [hH];exact hf.2)
 obtain ⟨s1,s2,s3⟩:=hS.back (E':={ E' with I:=E.I }) (o:=[]) (ps:=[]) h2 (fun _ _ _ _ hm=>by cases hm) (fun _ _ hm=>by cases hm)
 have hH':({ E' with I:=E.I }:Env).H=out.H:=hH
 refine ⟨v,_,{ w:=E'.w,I:=E.I,m:=iT E { E' with I:=E.I },H:=jH E.H out.H [] [] },some (qR [] []),rfl,by rw [←hH'];exact s1,by rw [←hH'];exact s2,by rw [←hH'];exact s3 out.v v (FZ out.v v hf.1 hv),?_⟩
 unfold csB at h
 cases hpan:out.pan with
 | true=>
  rw [hpan,cnd_true] at h
  exact .inr ⟨rfl,h⟩
 | false=>
  rw [hpan,cnd_false] at h
  exact .inl ⟨rfl,h⟩
end
open Go Go.RowKit
section
variable {P:Program} {L:Tys} {g:Glob} {B:Nat→Prop} {w0:World} {I0:Nat→Prop} {E:Env} {R:Type} {r:R} {Γ:Callees R}
theorem nx {E:Env}:∀ {l l':List AV} {vs vs':List Value},E.L l vs→E.L l' vs'→E.L (l++l') (vs++vs')
 | [],_,[],_,_,h=>h
 | [],_,_::_,_,h,_=>by simp [Env.L,LR] at h
 | _::_,_,[],_,h,_=>by simp [Env.L,LR] at h
 | x::xs,_,v::vs,_,h,h'=>by
  simp only [Env.L,LR] at h
  simp only [List.cons_append,Env.L,LR]
  exact ⟨h.1,nx h.2 h'⟩
theorem aD {c:Call} {f:Operand} {ρ:Operand→Value} {fid:FuncId} {cap:Array Value} {o:Oper} (ho:o.op=.call c) (hc:c.callee=.value f) (hf:ρ f=.func (.func fid) #[] cap) (he:Enters P fid) (w:World):
  (execOp ρ o).run P w=.ok (.enter fid ((c.args.map ρ)++cap)) w:=by
 obtain ⟨dst,op,type,pos,after,guard⟩:=o
 simp only at ho
 subst ho
 obtain ⟨callee,args,ats⟩:=c
 simp only at hc
 subst hc
 simp only [execOp,resolve,Sem.run_bind,hf,Deferred.ofValue,Sem.run_pure,Result.andThen_ok,invoke]
 have:=he (#[]++Array.map ρ args++cap) w
 simpa using this
theorem wT {w:World} {I:Nat→Prop} {m:Nat→Info} {T:Tab}:∀ {l:List AV} {vs us:List Value},lQ l=some vs→LR w I m T l us→us=vs
 | [],vs,us,h,hl=>by
  simp only [lQ] at h
  cases h
  cases us with
  | nil=>rfl
  | cons _ _=>simp [LR] at hl
 | x::xs,vs,[],h,hl=>by simp [LR] at hl
 | x::xs,vs,u::us,h,hl=>by
  simp only [LR] at hl
  cases x with
  | b v=>
   simp only [lQ] at h
   split at h
   · rename_i vs' hv
     cases h
     have h1:u=v:=by simpa only [VR] using hl.1
     rw [h1,wT hv hl.2]
   · cases h
  | _=>simp [lQ] at h
theorem s6 {P:Program} {g:Glob} {Γ:Callees R} (hP:PureOk P g Γ) {E:Env} {f:FuncId} {args:List AV} {us:List Value} {k:AV→Option R} (hargs:E.L args us) (h:sab Γ f args k=some r):
  ∃ av v,k av=some r∧E.V av v∧∀ w,(callFunc f us.toArray).run P w=.ok (.value v) w:=by
 unfold sab at h
 split at h
 · rename_i g' hg
   split at h
   · rename_i vs hvs
     split at h
     · rename_i v hv
       have:=wT hvs hargs
       subst this
       exact ⟨_,v,h,V_b.2 rfl,hP.xok f g' _ v hg hv⟩
     · cases h
   · cases h
 · rename_i hg
   split at h
   · rename_i x
     cases us with
     | nil=>simp [Env.L,LR] at hargs
     | cons u us=>
      simp only [Env.L,LR] at hargs
      cases us with
      | nil=>exact ⟨_,u,h,hargs.1,hP.xid f hg u⟩
      | cons _ _=>simp [LR] at hargs
   · cases h
 · cases h
theorem eL {c:Call} {f:Operand} {ρ:Operand→Value} {fid:FuncId} {cap:Array Value} {o:Oper} {v:Value} {w:World} (ho:o.op=.call c) (hc:c.callee=.value f) (hf:ρ f=.func (.func fid) #[] cap)
  (he:(callFunc fid ((c.args.map ρ)++cap)).run P w=.ok (.value v) w):(execOp ρ o).run P w=.ok (.value v) w:=by
 obtain ⟨dst,op,type,pos,after,guard⟩:=o
 simp only at ho
 subst ho
 obtain ⟨callee,args,ats⟩:=c
 simp only at hc
 subst hc
 simp only [execOp,resolve,Sem.run_bind,hf,Deferred.ofValue,Sem.run_pure,Result.andThen_ok,invoke]
 simpa using he
theorem uY (hS:St g B w0 I0 E) (hP:PureOk P g Γ) (hG:CsOk P g Γ) {fr:List AV} {a:Act} (hfr:E.L fr a.tmps.toList) {o:Oper} {c:Call} {f:Operand} (ho:o.op=.call c) (hc:c.callee=.value f)
  {k:AV→ia→Option (Nat→Bool)→Option R} {pn:AV→ia→Option (Nat→Bool)→Option R} {next:Act→World→Prop} {Q:Exit→Act→World→Prop}
  (h:OZ Γ E.H (evA fr f) (c.args.toList.map (evA fr)) k pn=some r)
  (hk:∀ av v E' D,St g B w0 I0 E'→Ext (Option.getD D kx) E E'→E'.V av v→k av E'.H D=some r→next (a.put o.dst v) E'.w)
  (hp:∀ av v E' D,St g B w0 I0 E'→Ext (Option.getD D kx) E E'→E'.V av v→pn av E'.H D=some r→Q (.panic [{ v,recovered:=false }]) a E'.w):o.wp P a E.w next Q:=by
 have hf:=Wz hfr f
 unfold OZ at h
 split at h
 · rename_i fid cp he
   rw [he] at hf
   simp only [Env.V,VR] at hf
   obtain ⟨cap,hfv,hcap⟩:=hf
   have hargs:E.L (c.args.toList.map (evA fr)++cp) ((c.args.map a.eval)++cap).toList:=by
    rw [Array.toList_append,Array.toList_map]
    exact nx (iV (Wz hfr) _) hcap
   split at h
   · rename_i F hres
     obtain ⟨hen,hcall⟩:=hG.ans fid _ _ _ hres
     obtain ⟨out,h,hcall⟩:=hcall _ _ h
     unfold Oper.wp
     rw [aD ho hc hfv hen,Oper.upon_enter]
     have:=e7 hS hargs hcall h
     rw [Array.toArray_toList] at this
     refine this.mono ?_
     rintro e w' ⟨v,av,E',D,rfl,h1,h2,h3,⟨rfl,h4⟩ | ⟨rfl,h4⟩⟩
     · exact hk av v E' D h1 h2 h3 h4
     · exact hp av v E' D h1 h2 h3 h4
   cases hvw:Γ.vw fid&&!(Γ.isP fid) with
   | true=>
    rw [hvw,cnd_true] at h
    split at h
    · rename_i F hres
      obtain ⟨hpv,h⟩:=sa h
      obtain ⟨hen,hcall⟩:=hG.ans fid _ _ _ hres
      obtain ⟨out,h,hcall⟩:=hcall _ _ h
      obtain ⟨hfl,h⟩:=sa h
      unfold Oper.wp
      rw [aD ho hc hfv hen,Oper.upon_enter]
      have:=f7 hS hargs hcall hpv hfl h
      rw [Array.toArray_toList] at this
      refine this.mono ?_
      rintro e w' ⟨v,av,E',D,rfl,h1,h2,h3,⟨rfl,h4⟩ | ⟨rfl,h4⟩⟩
      · exact hk av v E' D h1 h2 h3 h4
      · exact hp av v E' D h1 h2 h3 h4
    · cases h
   | false=>
   rw [hvw,cnd_false] at h
   cases hfp:Γ.isP fid with
   | true=>
    rw [hfp] at h
    simp only [cnd_true] at h
    obtain ⟨hpv,h⟩:=sa h
    have hcall:=kT hS hP hfp hargs hpv h
    unfold Oper.wp
    rw [aD ho hc hfv (hP.enters fid hfp),Oper.upon_enter]
    refine hcall.mono ?_
    rintro e w' ⟨v,av,E',rfl,h1,h2,h3,h4,_,⟨rfl,h5⟩ | ⟨rfl,h5⟩⟩
    · exact hk av v E' none h1 h2 h3 (by rw [h4];exact h5)
    · exact hp av v E' none h1 h2 h3 (by rw [h4];exact h5)
   | false=>
    rw [hfp] at h
    simp only [cnd_false] at h
    cases hxs:(Γ.xc fid).isSome with
    | true=>
     rw [hxs,cnd_true] at h
     obtain ⟨av,v,h1,hV,h2⟩:=s6 hP hargs h
     unfold Oper.wp
     rw [eL ho hc hfv (by have:=h2 E.w;rwa [Array.toArray_toList] at this)]
     exact hk _ v E none hS (Ext.refl _ _) hV h1
    | false=>
     rw [hxs,cnd_false] at h
     exact ja h
 · exact ja h
theorem fT {k:AV→ia→Option (Nat→Bool)→Option R} (hS:St g B w0 I0 E) (hL:Ub P L) {t t' e ty:TypeId} {ye:Ty} (hu:P.underlying t=some (.slice e)) (hye:TyOk P e ye) {s x:AV} {vs vx:Value} (hs:E.V s vs) (hx:E.V x vx)
  (h:eT L E.H e ye t' s x k=some r):Nxt P g B w0 I0 E (do pure (Next.value (←Builtin.append_ #[t,t'] ty #[vs,vx]))) k r:=by
 unfold eT at h
 split at h
 · rename_i q
   have hx':vx=.string q:=by rw [V_b] at hx;exact hx
   subst hx'
   split at h
   · rename_i y2 hy2
     split at h
     · rename_i hstr
       have hus:P.underlying t'=some .string:=by rw [(hL t' y2 hy2).und,hstr]
       obtain ⟨hc,h⟩:=sa h
       rw [Bool.and_eq_true] at hc
       have hz:(zeroCells ye).length=ye.size:=Nat.eq_of_beq_eq_true hc.1
       have h1:ye.size=1:=Nat.eq_of_beq_eq_true hc.2
       have hzs:ye.zero.cells.size=ye.size:=by rw [←hz];exact (jF (sm (E:=E) (y:=ye))).symm
       split at h
       · rename_i r1 n
         split at h
         · rename_i W hW
           obtain ⟨hc2,h⟩:=sa h
           rw [Bool.and_eq_true] at hc2
           exact qT hS hu hus hye hW hs (Nat.eq_of_beq_eq_true hc2.1) (Nat.eq_of_beq_eq_true hc2.2) hzs h
         · exact ja h
       · rw [V_b] at hs
         obtain ⟨s1,s2⟩:=hS.ghost (W:=ff L e ye) [] rfl rfl rfl (fun l _ hp=>(by cases hp)) (fun _ hp=>(by cases hp))
         have hW1:(E.H++[some (ff L e ye)])[E.H.length]?=some (some (ff L e ye)):=by simp
         have hs1:({ E with m:=upd E.m E.H.length ⟨0,0,false,[]⟩,H:=E.H++[some (ff L e ye)] }:Env).V (.sl E.H.length 0) vs:=by
          rw [hs]
          simp only [Env.V,VR]
          refine ⟨⟨ye.size,by simp [tab,ff]⟩,?_⟩
          rw [Oc]
          simp
         have hn:=qT s1 hu hus hye (q:=q) (ty:=ty) hW1 hs1 h1 rfl hzs h
         obtain ⟨av,v,E',D,h1,h2,h3,h4,h5⟩:=hn.out
         exact ⟨av,v,E',D,h1,(s2.weaken (D':=Option.getD D kx) (fun _ _=>rfl)).trans h2,h3,h4,h5⟩
       · exact ja h
     · exact ja h
   · exact ja h
 · exact ja h
theorem LZ (hS:St g B w0 I0 E) (hL:Ub P L) {ev:Operand→AV} {ρ:Operand→Value} (hρ:∀ x,E.V (ev x) (ρ x)) {c:Call} {ty:TypeId} {k:AV→ia→Option (Nat→Bool)→Option R}
  (h:(match c.args.toList.map ev,c.argTypes.toList with
   | [s,x],[t,t']=>match Oe L t with
    | some y=>match y.u with
     | .slice e=>match Oe L e with
      | some ye=>cnd (Nat.beq t t'&&Nat.beq (zeroCells ye).length ye.size) (match s,x with
       | .sl r n,.sl r2 n2=>match E.H[r]?,E.H[r2]? with
        | some (some W),some (some W2)=>cnd (Nat.beq W2.k W.k&&Nat.beq W.t e) (Xi E.H r W ye n n2 W2.ex W2.pf k) none
        | _,_=>none
       | .sl r n,.snap σ n2 ys=>match E.H[r]? with
        | some (some W)=>cnd (Nat.beq σ.size W.k&&Nat.beq W.t e) (Xi E.H r W ye n n2 (.typ σ ys) true k) none
        | _=>none
       | .b (.slice none 0 0),.sl r2 n2=>match E.H[r2]? with
        | some (some W2)=>cnd (Nat.beq W2.k ye.size) (Xi (E.H++[some (ff L e ye)]) E.H.length (ff L e ye) ye 0 n2 W2.ex W2.pf k) none
        | _=>none
       | .b (.slice none 0 0),.snap σ n2 ys=>cnd (Nat.beq σ.size ye.size) (Xi (E.H++[some (ff L e ye)]) E.H.length (ff L e ye) ye 0 n2 (.typ σ ys) true k) none
       | _,_=>none) (eT L E.H e ye t' s x k)
      | none=>none
     | _=>none
    | none=>none
   | _,_=>none)=some r):Nxt P g B w0 I0 E (do pure (Next.value (←Builtin.append_ c.argTypes ty (c.args.map ρ)))) k r:=by
 split at h
 · rename_i s x t t' hargs htys
   obtain ⟨a1,a2,hax⟩:∃ a1 a2,c.args.toList=[a1,a2]:=by
    rcases hl:c.args.toList with _ | ⟨x1,_ | ⟨y1,_ | ⟨z,zs⟩⟩⟩<;>rw [hl] at hargs<;>simp at hargs
    exact ⟨x1,y1,rfl⟩
   rw [hax] at hargs
   simp at hargs
   have hca:c.args= #[a1,a2]:=by rw [←Array.toArray_toList (xs:=c.args),hax]
   have hct:c.argTypes= #[t,t']:=by rw [←Array.toArray_toList (xs:=c.argTypes),htys]
   have hs:=hρ a1
   have hx:=hρ a2
   rw [hargs.1] at hs
   rw [hargs.2] at hx
   split at h
   · rename_i y hy
     split at h
     · rename_i e hu
       have hu':P.underlying t=some (.slice e):=by rw [(hL t y hy).und,hu]
       split at h
       · rename_i ye hye
         cases hcc:(Nat.beq t t'&&Nat.beq (zeroCells ye).length ye.size) with
         | false=>
          rw [hcc] at h
          replace h:eT L E.H e ye t' s x k=some r:=h
          rw [hct,show c.args.map ρ= #[ρ a1,ρ a2] by rw [hca];simp]
          exact fT hS hL hu' (hL _ ye hye) hs hx h
         | true=>
         rw [hcc,cnd_true] at h
         have hc:=hcc
         rw [Bool.and_eq_true] at hc
         have ht:t=t':=Nat.eq_of_beq_eq_true hc.1
         have hz:(zeroCells ye).length=ye.size:=Nat.eq_of_beq_eq_true hc.2
         have hzs:ye.zero.cells.size=ye.size:=by rw [←hz];exact (jF (sm (E:=E) (y:=ye))).symm
         subst ht
         have hmap:c.args.map ρ= #[ρ a1,ρ a2]:=by rw [hca];simp
         rw [hmap,hct]
         cases s with
         | sl r1 n=>cases x with
          | sl r2 n2=>
           dsimp only at h
           split at h
           · rename_i W W2 hW hW2
             obtain ⟨hc2,h⟩:=sa h
             rw [Bool.and_eq_true] at hc2
             have hkk:W2.k=W.k:=Nat.eq_of_beq_eq_true hc2.1
             have hWt:W.t=e:=Nat.eq_of_beq_eq_true hc2.2
             have hk2:=hS.rows r2 W2 hW2
             simp only [Env.V,VR] at hx
             obtain ⟨⟨kk,hT⟩,hx⟩:=hx
             obtain ⟨rfl,rfl⟩:=ft hW2 hT
             by_cases hal:(E.m r2).al=true
             · rw [if_pos hal] at hx
               obtain ⟨c2,hv,hnc,_⟩:=hx
               rw [hv]
               obtain ⟨k1,k2,k3,arr,fz,k4,k5,k6,k6',k7⟩:=hk2.mem hal
               refine FC hS hu' (hL _ ye hye) hW hs (fun h0=>⟨_,rfl,fun i hi=>(hk2.len i hi).trans hkk,fun i hi j x hx=>?_⟩) hWt hzs h
               obtain ⟨v,b1,b2,b3⟩:=k7 i hi j x hx
               refine ⟨v,?_,?_,b3⟩
               · rw [nr,Nat.zero_add,←hkk]
                 simp [World.cell?,k4,b1]
               · unfold dt at b2
                 cases hp:W2.pf with
                 | true=>rw [if_pos hp] at b2;exact b2
                 | false=>rw [if_neg (by rw [hp];simp)] at b2;exact b2
             · rw [if_neg hal] at hx
               obtain ⟨⟨A0,hv,_⟩,hn⟩:=hx
               rw [hv]
               rw [hn] at h
               exact FC (A:=A0) (c2:=0) hS hu' (hL _ ye hye) hW hs (fun h0=>absurd h0 (by omega)) hWt hzs h
           · exact ja h
          | snap σ n2 ys=>
           dsimp only at h
           split at h
           · rename_i W hW
             obtain ⟨hc2,h⟩:=sa h
             rw [Bool.and_eq_true] at hc2
             have hkk:σ.size=W.k:=Nat.eq_of_beq_eq_true hc2.1
             have hWt:W.t=e:=Nat.eq_of_beq_eq_true hc2.2
             rw [Env.V,mr] at hx
             obtain ⟨A,c2,hv,hnc,hx⟩:=hx
             rw [hv]
             refine FC hS hu' (hL _ ye hye) hW hs (fun h0=>?_) hWt hzs h
             obtain ⟨ad,rfl,hsp,hb,hall⟩:=hx h0
             refine ⟨ad,rfl,fun i hi=>(hall i hi).1.trans hkk,fun i hi j x hx=>?_⟩
             obtain ⟨v,b1,b2,b3⟩:=xK (hall i hi).2 j x hx
             exact ⟨v,by rw [←hkk];exact b1,b2,b3⟩
           · exact ja h
          | _=>dsimp only at h;exact ja h
         | b bv=>
          have nil_:bv=.slice none 0 0→Nxt P g B w0 I0 E (do pure (Next.value (←Builtin.append_ #[t,t] ty #[ρ a1,ρ a2]))) k r:=fun hbv=>by
           subst hbv
           rw [V_b] at hs
           obtain ⟨s1,s2⟩:=hS.ghost (W:=ff L e ye) [] rfl rfl rfl (fun l _ hp=>(by cases hp)) (fun _ hp=>(by cases hp))
           have hW1:(E.H++[some (ff L e ye)])[E.H.length]?=some (some (ff L e ye)):=by simp
           have hs1:({ E with m:=upd E.m E.H.length ⟨0,0,false,[]⟩,H:=E.H++[some (ff L e ye)] }:Env).V (.sl E.H.length 0) (ρ a1):=by
            rw [hs]
            simp only [Env.V,VR]
            refine ⟨⟨ye.size,by simp [tab,ff]⟩,?_⟩
            rw [Oc]
            simp
           have hx1:=s2.V (Lj _) hx
           have fin:∀ {vs:Value},Nxt P g B w0 I0 { E with m:=upd E.m E.H.length ⟨0,0,false,[]⟩,H:=E.H++[some (ff L e ye)] } (do pure (Next.value (←Builtin.append_ #[t,t] ty #[ρ a1,vs]))) k r→Nxt P g B w0 I0 E (do pure (Next.value (←Builtin.append_ #[t,t] ty #[ρ a1,vs]))) k r:=fun {vs} hn=>by
            obtain ⟨av,v,E',D,h1,h2,h3,h4,h5⟩:=hn.out
            exact ⟨av,v,E',D,h1,(s2.weaken (D':=Option.getD D kx) (fun _ _=>rfl)).trans h2,h3,h4,h5⟩
           cases x with
           | sl r2 n2=>
            replace h:(match E.H[r2]? with
             | some (some W2)=>cnd (Nat.beq W2.k ye.size) (Xi (E.H++[some (ff L e ye)]) E.H.length (ff L e ye) ye 0 n2 W2.ex W2.pf k) none
             | _=>none)=some r:=h
            split at h
            · rename_i W2 hW2
              obtain ⟨hc2,h⟩:=sa h
              have hkk:W2.k=ye.size:=Nat.eq_of_beq_eq_true hc2
              have hk2:=hS.rows r2 W2 hW2
              have hx0:=hx
              simp only [Env.V,VR] at hx
              obtain ⟨⟨kk,hT⟩,hx⟩:=hx
              obtain ⟨rfl,rfl⟩:=ft hW2 hT
              refine fin ?_
              by_cases hal:(E.m r2).al=true
              · rw [if_pos hal] at hx
                obtain ⟨c2,hv,hnc,_⟩:=hx
                rw [hv]
                obtain ⟨k1,k2,k3,arr,fz,k4,k5,k6,k6',k7⟩:=hk2.mem hal
                refine FC s1 hu' (hL _ ye hye) hW1 hs1 (fun h0=>⟨_,rfl,fun i hi=>(hk2.len i hi).trans hkk,fun i hi j x hx=>?_⟩) rfl hzs h
                obtain ⟨v,b1,b2,b3⟩:=k7 i hi j x hx
                refine ⟨v,?_,?_,b3⟩
                · rw [nr,Nat.zero_add]
                  show E.w.cell? ⟨_,i*ye.size+j,none⟩=_
                  rw [←hkk]
                  simp [World.cell?,k4,b1]
                · unfold dt at b2
                  cases hp:W2.pf with
                  | true=>rw [if_pos hp] at b2;exact VR.mono (fun _=>true) (fun b hb=>⟨hb,rfl⟩) x Fb Fb v (fun r p hp=>by simp [Fb] at hp) (.inl rfl) b2
                  | false=>rw [if_neg (by rw [hp];simp)] at b2;exact s2.V (Lj _) b2
              · rw [if_neg hal] at hx
                obtain ⟨⟨A0,hv,_⟩,hn⟩:=hx
                rw [hv]
                rw [hn] at h
                exact FC (A:=A0) (c2:=0) s1 hu' (hL _ ye hye) hW1 hs1 (fun h0=>absurd h0 (by omega)) rfl hzs h
            · exact ja h
           | snap σ n2 ys=>
            replace h:cnd (Nat.beq σ.size ye.size) (Xi (E.H++[some (ff L e ye)]) E.H.length (ff L e ye) ye 0 n2 (.typ σ ys) true k) none=some r:=h
            obtain ⟨hc2,h⟩:=sa h
            have hkk:σ.size=ye.size:=Nat.eq_of_beq_eq_true hc2
            refine (show ∀ {vs:Value},ρ a2=vs→Nxt P g B w0 I0 E (do pure (Next.value (←Builtin.append_ #[t,t] ty #[ρ a1,vs]))) k r from fun {vs} hvs=>fin ?_) rfl
            rw [Env.V,mr] at hx1
            obtain ⟨A,c2,hv,hnc,hx⟩:=hx1
            rw [←hvs,hv]
            refine FC s1 hu' (hL _ ye hye) hW1 hs1 (fun h0=>?_) rfl hzs h
            obtain ⟨ad,rfl,hsp,hb,hall⟩:=hx h0
            refine ⟨ad,rfl,fun i hi=>(hall i hi).1.trans hkk,fun i hi j x hx=>?_⟩
            obtain ⟨v,b1,b2,b3⟩:=xK (hall i hi).2 j x hx
            exact ⟨v,by show E.w.cell? (ad.add (i*ye.size+j))=_;rw [←hkk];exact b1,b2,b3⟩
           | _=>exact ja (show none=some r from h)
          cases bv with
          | slice A n c=>
           cases A with
           | some _=>cases x<;>exact ja (show none=some r from h)
           | none=>
            cases n with
            | succ _=>cases x<;>exact ja (show none=some r from h)
            | zero=>
             cases c with
             | succ _=>cases x<;>exact ja (show none=some r from h)
             | zero=>exact nil_ rfl
          | _=>cases x<;>exact ja (show none=some r from h)
         | _=>cases x<;>exact ja (show none=some r from h)
       · exact ja h
     · exact ja h
   · exact ja h
 · exact ja h
theorem iX (hS:St g B w0 I0 E) (hL:Ub P L) {ev:Operand→AV} {ρ:Operand→Value} (hρ:∀ x,E.V (ev x) (ρ x)) {t:TypeId} {x hi mx:Operand} {lo:Option Operand} {k:AV→ia→Option (Nat→Bool)→Option R}
  (h:(match Oe L t with
  | some y=>match y.u with
   | .slice e=>match Oe L e with
    | some ye=>cnd (Nab (ev x)&&mab (lo.map ev)&&UW (ev hi)&&UW (ev mx)) (k (.sl E.H.length 0) (E.H++[some (vL L e ye)]) none) none
    | none=>none
   | _=>none
  | none=>none)=some r):∃ av v E',St g B w0 I0 E'∧Ext kx E E'∧E'.V av v∧k av E'.H none=some r∧(Instr.sliceAt t (ρ x) (lo.map ρ) (some (ρ hi)) (some (ρ mx))).run P E.w=.ok v E'.w∧E'.w=E.w:=by
 have zA:∀ o,UW (ev o)=true→∃ ki,ρ o=.int ki 0:=fun o ho=>by
  have:=hρ o
  unfold UW at ho
  split at ho
  · rename_i ki he
    rw [he,V_b] at this
    exact ⟨ki,this⟩
  · cases ho
 split at h
 · rename_i y hy
   split at h
   · rename_i e hu
     have hu':P.underlying t=some (.slice e):=by rw [(hL t y hy).und,hu]
     split at h
     · rename_i ye hye
       obtain ⟨hc,h⟩:=sa h
       simp only [Bool.and_eq_true] at hc
       obtain ⟨⟨⟨h1,h2⟩,h3⟩,h4⟩:=hc
       obtain ⟨k3,e3⟩:=zA hi h3
       obtain ⟨k4,e4⟩:=zA mx h4
       have hsl:∃ A n c,ρ x=.slice A n c:=by
        have hx:=hρ x
        unfold Nab at h1
        split at h1
        · rename_i he
          rw [he] at hx
          simp only [Env.V,VR] at hx
          obtain ⟨_,hx⟩:=hx
          split at hx
          · obtain ⟨c,hx,_⟩:=hx;exact ⟨_,_,_,hx⟩
          · obtain ⟨⟨A,hx,_⟩,_⟩:=hx;exact ⟨_,_,_,hx⟩
        · rename_i he
          rw [he,Env.V,mr] at hx
          obtain ⟨A,c,hx,_⟩:=hx;exact ⟨_,_,_,hx⟩
        · rename_i he
          rw [he,V_b] at hx
          exact ⟨_,_,_,hx⟩
        · cases h1
       obtain ⟨A,n,c,e0⟩:=hsl
       obtain ⟨s1,s2⟩:=hS.ghostC (W:=vL L e ye) [] 1 (fun hc=>(by cases hc)) rfl rfl rfl (fun l _ hp=>(by cases hp)) (fun _ hp=>(by cases hp))
       refine ⟨_,.slice A 0 0,_,s1,s2,?_,h,?_,rfl⟩
       · simp only [Env.V,VR]
         refine ⟨⟨ye.size,by simp [tab,vL,ff]⟩,?_⟩
         rw [Oc]
         simp
       · have sb:∀ (ki:IntKind) (y:Nat) (code:BoundsCode),(Instr.sliceBound (.int ki 0) y code).run P E.w=.ok 0 E.w:=fun ki y code=>by
          unfold Instr.sliceBound
          simp [asIntOf]
         have hb:(Instr.sliceBounds true n c (lo.map ρ) (some (.int k3 0)) (some (.int k4 0))).run P E.w=.ok (0,0,0) E.w:=by
          cases lo with
          | none=>simp [Instr.sliceBounds,sb]
          | some l=>
           obtain ⟨k2,e2⟩:=zA l h2
           simp [Instr.sliceBounds,sb,e2]
         rw [e0,e3,e4]
         unfold Instr.sliceAt
         simp only [Sem.run_bind,run_underlying hu',Result.andThen_ok,Instr.slice,hb]
         simp [nc (hL _ ye hye)]
     · exact ja h
   · exact ja h
 · exact ja h
theorem F1 {l:List Operand} {ev:Operand→AV} {x:AV} (h:l.map ev=[x]):∃ a,l=[a]∧ev a=x:=by
 rcases l with _ | ⟨a,_ | ⟨b,l⟩⟩<;>simp at h
 exact ⟨a,rfl,h⟩
theorem H1 {l:List Operand} {ev:Operand→AV} {x y:AV} (h:l.map ev=[x,y]):∃ a b,l=[a,b]∧ev a=x∧ev b=y:=by
 rcases l with _ | ⟨a,_ | ⟨b,_ | ⟨c,l⟩⟩⟩<;>simp at h
 exact ⟨a,b,rfl,h⟩
theorem LK (hS:St g B w0 I0 E) (hL:Ub P L) {ev:Operand→AV} {ρ:Operand→Value} (hρ:∀ x,E.V (ev x) (ρ x)) {c:Call} {ty:TypeId} {k:AV→ia→Option (Nat→Bool)→Option R}
  (h:(match c.args.toList.map ev with
   | [.sl r n]=>cnd (lA L ty&&e5 E.H r) (k (.sp r n) E.H none) none
   | [.b (.slice none 0 0)]=>k (.b (.pointer none)) E.H none
   | _=>none)=some r):∃ av v E',St g B w0 I0 E'∧Ext kx E E'∧E'.V av v∧k av E'.H none=some r∧(Builtin.unsafeSliceData_ c.argTypes ty (c.args.map ρ)).run P E.w=.ok v E'.w∧Below E.w.heap.size E.w E'.w:=by
 split at h
 · rename_i r' n he
   obtain ⟨a,hl,ha⟩:=F1 he
   have hca:c.args.map ρ= #[ρ a]:=by rw [←Array.toArray_toList (xs:=c.args),hl];simp
   rw [hca]
   obtain ⟨hc,h⟩:=sa h
   obtain ⟨hc,hnil⟩:=(Bool.and_eq_true _ _▸hc:_∧_)
   obtain ⟨e,i,hu,_⟩:=tN hL hc
   have hx:=hρ a
   rw [ha] at hx
   have hx0:=hx
   simp only [Env.V,VR] at hx
   obtain ⟨⟨kk,hT⟩,hx⟩:=hx
   obtain ⟨W,hW,hkn⟩:=DS hT
   by_cases hal:(E.m r').al=true
   · rw [if_pos hal] at hx
     obtain ⟨c',hv,hnc,hcc⟩:=hx
     rw [hv]
     rcases Nat.eq_zero_or_pos c' with h0 | h0
     · subst h0
       obtain ⟨_,_,_,arr,fz,hh,_⟩:=(hS.rows r' W hW).mem hal
       have hrun:=Lib.run_unsafeSliceData_zero (P:=P) E.w c.argTypes ty e hu ⟨(E.m r').blk,0,none⟩ n (W.t,arr.size) (by simp [World.shape?,hh])
       have hbl:Below E.w.heap.size E.w (E.w.alloc (.view ⟨(E.m r').blk,0,none⟩ e)):=(Below.refl _ _).alloc (Nat.le_refl _) _
       obtain ⟨s1,s2⟩:=hS.grow (I':=E.I) hbl (fun b hb=>hb) (fun b hb=>.inl hb) (fun b hb=>Nat.lt_of_lt_of_le (hS.isz b hb) hbl.size)
       refine ⟨_,_,_,s1,s2,?_,h,hrun,hbl⟩
       simp only [Env.V,VR]
       exact ⟨⟨kk,hT⟩,_,rfl,fun hn=>by omega⟩
     · have hrun:=Lib.run_unsafeSliceData_row (P:=P) E.w c.argTypes ty ⟨(E.m r').blk,0,none⟩ n c' (by omega)
       refine ⟨_,_,E,hS,Ext.refl _ _,?_,h,hrun,Below.refl _ _⟩
       simp only [Env.V,VR]
       exact ⟨⟨kk,hT⟩,_,rfl,fun hn=>⟨hal,rfl⟩⟩
   · rw [if_neg hal] at hx
     obtain ⟨⟨A0,hv,hA0⟩,hn⟩:=hx
     have hcap:(E.m r').cap=0:=by
      unfold e5 at hnil
      rw [hW] at hnil
      simp only [Bool.or_eq_true,Bool.not_eq_true'] at hnil
      rcases hnil with hnil | hnil
      · exact (hS.rows r' W hW).nn hnil (by simpa using hal)
      · exact absurd ((hS.rows r' W hW).al (.inr hnil)) hal
     rw [hv,hA0 hcap]
     refine ⟨_,_,E,hS,Ext.refl _ _,?_,h,Lib.run_unsafeSliceData_nil (P:=P) E.w c.argTypes ty 0 0,Below.refl _ _⟩
     simp only [Env.V,VR]
     exact ⟨⟨kk,hT⟩,_,rfl,fun h0=>by omega⟩
 · rename_i he
   obtain ⟨a,hl,ha⟩:=F1 he
   have hca:c.args.map ρ= #[ρ a]:=by rw [←Array.toArray_toList (xs:=c.args),hl];simp
   rw [hca]
   have hx:=hρ a
   rw [ha,V_b] at hx
   rw [hx]
   exact ⟨_,_,E,hS,Ext.refl _ _,V_b.2 rfl,h,Lib.run_unsafeSliceData_nil (P:=P) E.w c.argTypes ty 0 0,Below.refl _ _⟩
 · exact ja h
theorem GV (hS:St g B w0 I0 E) (hL:Ub P L) {ev:Operand→AV} {ρ:Operand→Value} (hρ:∀ x,E.V (ev x) (ρ x)) {c:Call} {ty:TypeId} {k:AV→ia→Option (Nat→Bool)→Option R}
  (h:(match c.args.toList.map ev with
   | [.sl r n]=>cnd (lA L ty&&e5 E.H r) (k (.sp r n) E.H none) none
   | [.b (.slice none 0 0)]=>k (.b (.pointer none)) E.H none
   | _=>none)=some r):Nxt P g B w0 I0 E (do pure (Next.value (←Builtin.unsafeSliceData_ c.argTypes ty (c.args.map ρ)))) k r:=by
 obtain ⟨av,v,E',h1,h2,h3,h4,h5,_⟩:=LK hS hL hρ h
 exact ⟨av,v,E',none,h1,h2,h3,h4,.inl (zh h5)⟩
theorem FU (w:World):∀ (xs:List Int) (a:Addr) (acc:BA),(∀ (j:Nat) x,xs[j]?=some x→w.cell? (a.add j)=some (.int .u8 x))→
  (loadBytes a acc xs.length).run P w=.ok (xs.foldl (fun r c=>r.push (UInt8.ofNat c.toNat)) acc) w
 | [],a,acc,_=>by simp [loadBytes]
 | x::l,a,acc,h=>by
  have h0:w.cell? a=some (.int .u8 x):=by
   have:=h 0 x rfl
   simpa [Addr.add] using this
  have ih:=FU w l (a.add 1) (acc.push x.toNat.toUInt8) (fun j y hy=>by
   have:=h (j+1) y (by simpa using hy)
   have e:(a.add 1).add j=a.add (j+1):=by
    unfold Addr.add
    by_cases hj:j=0
    · subst hj;simp
    · simp [hj];omega
   rw [e];exact this)
  simp only [List.length_cons,loadBytes,Sem.run_bind,run_load,h0,Result.andThen,List.foldl_cons]
  exact ih
theorem qS (w:World) (pt it ty e:TypeId) (hp:P.underlying pt=some (.pointer e)) (hc:P.cellsOf e=1) (g cells:Nat) (hsh:w.shape? g=some (e,cells)) (xs:List Int) (h0:xs≠[]) (hn:xs.length≤cells) (h63:xs.length≤9223372036854775807)
  (hcell:∀ (j:Nat) x,xs[j]?=some x→w.cell? ((⟨g,0,none⟩:Addr).add j)=some (.int .u8 x)):
  (Builtin.unsafeString_ #[pt,it] ty #[.pointer (some ⟨g,0,none⟩),.int .i64 xs.length]).run P w=.ok (.string (xs.foldl (fun r c=>r.push (UInt8.ofNat c.toNat)) ByteArray.empty)) (w.freeze ⟨g,0,none⟩ xs.length):=by
 have hl:xs.length≠0:=by simpa using h0
 have hlb:=FU (P:=P) w xs ⟨g,0,none⟩ .empty hcell
 have hlies:=Lib.liesAt_bytes (P:=P) hc (cells / P.cellsOf e) xs.length (by rw [hc];simpa using hn)
 have h63':¬(9223372036854775807:Int)<(xs.length:Int):=by omega
 have hdef:Builtin.unsafeString_ #[pt,it] ty #[.pointer (some ⟨g,0,none⟩),.int .i64 xs.length]=
   (do
    let n ←asInt (.int .i64 xs.length)
    if n<0 then runtimePanic (.error "unsafe.String: len out of range")
    if n>IntKind.i64.max then unsupported (.unsafePointer "String: a length above the largest int")
    if n=0 then pure (.string .empty)
    else if ←variablesAt ⟨g,0,none⟩ (←elemOf pt) n.toNat then do
     let s ←loadBytes ⟨g,0,none⟩ .empty n.toNat
     freeze ⟨g,0,none⟩ n.toNat
     pure (.string s)
    else unsupported (.unsafePointer "String: not so many bytes at ptr")):=rfl
 rw [hdef]
 have hmax:IntKind.i64.max=9223372036854775807:=rfl
 have hneg:¬(xs.length:Int)<0:=by omega
 simp [asInt,asIntOf,hmax,h63',hneg,hl,variablesAt,hsh,elemOf,run_underlying hp,hlies,hlb]
theorem St.frz (h:St g B w0 I0 E) {r':Nat} {W:Row} (hW:E.H[r']?=some (some W)) (hal:(E.m r').al=true) (n:Nat):
  St g B w0 I0 { E with w:=E.w.freeze ⟨(E.m r').blk,0,none⟩ n,H:=tD E.H r' }∧Ext (fun q=>!(Nat.beq q r')) E { E with w:=E.w.freeze ⟨(E.m r').blk,0,none⟩ n,H:=tD E.H r' }:=by
 have hrl:r'<E.H.length:=(List.getElem?_eq_some_iff.1 hW).1
 have hget:∀ q,(tD E.H r')[q]?=if q=r' then some none else (vp (fun q=>!(Nat.beq q r')) E.H)[q]?:=fun q=>by
  unfold tD
  rw [List.getElem?_set]
  by_cases hq:q=r'
  · subst hq;rw [if_pos rfl,if_pos (by simpa [vp] using hrl),if_pos rfl]
  · rw [if_neg (Ne.symm hq),if_neg hq]
 have hback:∀ q V,(tD E.H r')[q]?=some (some V)→q≠r'∧∃ V0,E.H[q]?=some (some V0)∧V=Ry (fun q=>!(Nat.beq q r')) V0:=fun q V' hV=>by
  rw [hget] at hV
  by_cases hq:q=r'
  · rw [if_pos hq] at hV;cases hV
  · rw [if_neg hq,ef] at hV
    cases ho:E.H[q]? with
    | none=>rw [ho] at hV;cases hV
    | some o=>cases o with
     | none=>rw [ho] at hV;cases hV
     | some V=>rw [ho] at hV;exact ⟨hq,V,rfl,by simpa using hV.symm⟩
 obtain ⟨s1,s2⟩:=h.cut (D:=fun q=>!(Nat.beq q r')) (H':=tD E.H r') (fun q V' hV=>by
  obtain ⟨h1,V,h2,h3⟩:=hback q V' hV
  exact ⟨ne_iff.2 h1,V,h2,h3⟩) (fun q V hV hd=>by
  have hq:=ne_iff.1 hd
  rw [hget,if_neg hq,ef,hV];rfl)
 obtain ⟨k1,k2,k3,arr,fz,k4,k5,_⟩:=(h.rows r' W hW).mem hal
 have hother:∀ b,b≠(E.m r').blk→(E.w.freeze ⟨(E.m r').blk,0,none⟩ n).heap[b]?=E.w.heap[b]?:=fun b hb=>by
  unfold World.freeze
  split
  · rfl
  · simp only [Array.getElem?_modify]
    rw [if_neg (Ne.symm hb)]
 have hsize:(E.w.freeze ⟨(E.m r').blk,0,none⟩ n).heap.size=E.w.heap.size:=by
  unfold World.freeze
  split
  · rfl
  · simp
 have hself:∃ fz',(E.w.freeze ⟨(E.m r').blk,0,none⟩ n).heap[(E.m r').blk]?=some (.cells arr W.t fz'):=by
  unfold World.freeze
  split
  · exact ⟨fz,k4⟩
  · simp only [Array.getElem?_modify,if_true,k4,Option.map_some]
    exact ⟨_,rfl⟩
 have hos:(E.w.freeze ⟨(E.m r').blk,0,none⟩ n).os=E.w.os∧(E.w.freeze ⟨(E.m r').blk,0,none⟩ n).tape=E.w.tape∧(E.w.freeze ⟨(E.m r').blk,0,none⟩ n).output=E.w.output:=by
  unfold World.freeze
  split<;>exact ⟨rfl,rfl,rfl⟩
 have hkept:Kept B w0 (E.w.freeze ⟨(E.m r').blk,0,none⟩ n):=h.below.trans ⟨hos.1,hos.2.1,hos.2.2,by omega,fun k hk=>hother k (fun e=>k1 (e▸hk)),fun k arr0 t0 fz0 hk=>by
  by_cases hb:k=(E.m r').blk
  · subst hb
    rw [k4] at hk
    cases hk
    obtain ⟨fz',hf⟩:=hself
    exact ⟨arr,fz',hf,rfl⟩
  · exact ⟨arr0,fz0,by rw [hother k hb];exact hk,rfl⟩⟩
 have hx:Ext kx { E with H:=tD E.H r' } { E with w:=E.w.freeze ⟨(E.m r').blk,0,none⟩ n,H:=tD E.H r' }:=⟨fun b hb=>⟨hb,hother b (fun e=>k2 (e▸hb))⟩,fun q p hp _=>⟨hp,rfl⟩⟩
 refine ⟨⟨hkept,h.hB,h.hn,h.gn,g.stab E.w _ ⟨hos.1,hos.2.1,hos.2.2,by rw [hsize];exact Nat.le_refl _,fun k hk=>hother k (fun e=>k1 (e▸h.hn k hk))⟩ h.glob,fun b hb=>by show b<_;rw [hsize];exact h.isz b hb,h.imono,h.ifresh,fun q V hV=>?_,s1.inj,s1.gse⟩,s2.trans (hx.weaken (fun _ _=>rfl))⟩
 by_cases ha:(E.m q).al=true
 · obtain ⟨hq,V0,hV0,_⟩:=hback q V hV
   exact (s1.rows q V hV).ext hx rfl (hother _ (fun e=>hq (h.inj q r' V0 W hV0 hW ha hal e))) (fun h1 _=>h1) (.inr fun _ _ _ _ _=>Lj _) (fun _ _ _=>Zb _)
 · exact ⟨fun h1=>absurd ((s1.rows q V hV).al h1) ha,(s1.rows q V hV).len,(s1.rows q V hV).bx,fun l h0 hp hl=>hx.L (Zb l) ((s1.rows q V hV).gh l h0 hp hl),fun h1=>absurd h1 ha,(s1.rows q V hV).nn⟩
theorem O5 {H:ia} {r:Nat} {W W':Row} (hW:H[r]?=some (some W)) (hk:W'.k=W.k) (hn:W'.n=W.n):tab (H.set r (some W'))=tab H:=by
 funext q
 unfold tab
 rw [List.getElem?_set]
 by_cases hq:r=q
 · subst hq
   rw [if_pos rfl,if_pos (List.getElem?_eq_some_iff.1 hW).1,hW]
   show some (W'.k,W'.n)=some (W.k,W.n)
   rw [hk,hn]
 · rw [if_neg hq]
theorem St.mark (h:St g B w0 I0 E) {r':Nat} {W:Row} (hW:E.H[r']?=some (some W)) (hal:(E.m r').al=true) (hcv:W.cv=false) (hmn:W.mn=false) {arr:Array Value} {t0:TypeId} {fz0:Nat×Nat} (harr:E.w.heap[(E.m r').blk]?=some (.cells arr t0 fz0)):
  St g B w0 I0 { E with w:=E.w.freeze ⟨(E.m r').blk,arr.size,none⟩ 1,H:=E.H.set r' (some { W with cv:=true }) }∧Ext kx E { E with w:=E.w.freeze ⟨(E.m r').blk,arr.size,none⟩ 1,H:=E.H.set r' (some { W with cv:=true }) }:=by
 obtain ⟨k1,k2,k3,arr1,fz,k4,k5,k6,k6',k7⟩:=(h.rows r' W hW).mem hal
 rw [harr] at k4
 have e4:=Obj.cells.inj (Option.some.inj k4)
 obtain ⟨e41,e42,e43⟩:=e4
 subst e41 e42 e43
 have hfz:fz0=(0,0):=k6' (by unfold Row.fzn;rw [hcv];rfl)
 subst hfz
 have hother:∀ b,b≠(E.m r').blk→(E.w.freeze ⟨(E.m r').blk,arr.size,none⟩ 1).heap[b]?=E.w.heap[b]?:=fun b hb=>by
  unfold World.freeze
  rw [if_neg (by decide)]
  simp only [Array.getElem?_modify]
  rw [if_neg (Ne.symm hb)]
 have hsize:(E.w.freeze ⟨(E.m r').blk,arr.size,none⟩ 1).heap.size=E.w.heap.size:=by
  unfold World.freeze
  rw [if_neg (by decide)]
  simp
 have hself:(E.w.freeze ⟨(E.m r').blk,arr.size,none⟩ 1).heap[(E.m r').blk]?=some (.cells arr W.t (arr.size,arr.size+1)):=by
  unfold World.freeze
  rw [if_neg (by decide)]
  simp only [Array.getElem?_modify,if_true,harr,Option.map_some]
  rfl
 have hos:(E.w.freeze ⟨(E.m r').blk,arr.size,none⟩ 1).os=E.w.os∧(E.w.freeze ⟨(E.m r').blk,arr.size,none⟩ 1).tape=E.w.tape∧(E.w.freeze ⟨(E.m r').blk,arr.size,none⟩ 1).output=E.w.output:=by
  unfold World.freeze
  rw [if_neg (by decide)]
  exact ⟨rfl,rfl,rfl⟩
 have hkept:Kept B w0 (E.w.freeze ⟨(E.m r').blk,arr.size,none⟩ 1):=h.below.trans ⟨hos.1,hos.2.1,hos.2.2,by omega,fun k hk=>hother k (fun e=>k1 (e▸hk)),fun k arr0 t0 fz0 hk=>by
  by_cases hb:k=(E.m r').blk
  · subst hb
    rw [harr] at hk
    cases hk
    exact ⟨arr,_,hself,rfl⟩
  · exact ⟨arr0,fz0,by rw [hother k hb];exact hk,rfl⟩⟩
 have ht:tab (E.H.set r' (some { W with cv:=true }))=tab E.H:=O5 hW rfl rfl
 have hx:Ext kx E { E with w:=E.w.freeze ⟨(E.m r').blk,arr.size,none⟩ 1,H:=E.H.set r' (some { W with cv:=true }) }:=⟨fun b hb=>⟨hb,hother b (fun e=>k2 (e▸hb))⟩,fun q p hp _=>⟨by show tab (E.H.set r' (some { W with cv:=true })) q=_;rw [ht];exact hp,rfl⟩⟩
 have hget:∀ q V,(E.H.set r' (some { W with cv:=true }))[q]?=some (some V)→(q≠r'∧E.H[q]?=some (some V))∨(q=r'∧V={ W with cv:=true }):=fun q V hV=>by
  rw [List.getElem?_set] at hV
  by_cases hq:r'=q
  · subst hq
    rw [if_pos rfl,if_pos (List.getElem?_eq_some_iff.1 hW).1] at hV
    cases hV
    exact .inr ⟨rfl,rfl⟩
  · rw [if_neg hq] at hV
    exact .inl ⟨Ne.symm hq,hV⟩
 have old:∀ q V,(E.H.set r' (some { W with cv:=true }))[q]?=some (some V)→∃ V0,E.H[q]?=some (some V0):=fun q V hV=>by
  rcases hget q V hV with ⟨_,hV⟩ | ⟨hqr,_⟩
  · exact ⟨V,hV⟩
  · rw [hqr];exact ⟨W,hW⟩
 refine ⟨⟨hkept,h.hB,h.hn,h.gn,g.stab E.w _ ⟨hos.1,hos.2.1,hos.2.2,by rw [hsize];exact Nat.le_refl _,fun k hk=>hother k (fun e=>k1 (e▸h.hn k hk))⟩ h.glob,fun b hb=>by show b<_;rw [hsize];exact h.isz b hb,h.imono,h.ifresh,fun q V hV=>?_,fun q q' V V' hV hV' ha ha' hb=>?_,fun q V hV hz hp=>?_⟩,hx⟩
 · rcases hget q V hV with ⟨hq,hV⟩ | ⟨hqr,hV2⟩
   · by_cases ha:(E.m q).al=true
     · exact (h.rows q V hV).ext hx rfl (hother _ (fun e=>hq (h.inj q r' V W hV hW ha hal e))) (fun h1 _=>h1) (.inr fun _ _ _ _ _=>Lj _) (fun _ _ _=>Zb _)
     · exact ⟨fun h1=>absurd ((h.rows q V hV).al h1) ha,(h.rows q V hV).len,(h.rows q V hV).bx,fun l h0 hp hl=>hx.L (Zb l) ((h.rows q V hV).gh l h0 hp hl),fun h1=>absurd h1 ha,(h.rows q V hV).nn⟩
   · subst hV2
     rw [hqr]
     have hk0:=h.rows r' W hW
     refine ⟨hk0.al,hk0.len,hk0.bx,fun l h0 hp hl=>hx.L (Zb l) (hk0.gh l h0 hp hl),fun _=>⟨k1,k2,k3,arr,_,hself,k5,.inl (Nat.le_refl _),fun hf=>?_,fun i hi j x hxx=>?_⟩,fun h1=>by cases h1⟩
     · unfold Row.fzn at hf
       simp only [hmn] at hf
       cases hf
     · obtain ⟨v,h1,h2,h3⟩:=k7 i hi j x hxx
       exact ⟨v,h1,EG (W:=W) hx (.inr (Lj _)) h2,h3⟩
 · obtain ⟨V0,hV0⟩:=old q V hV
   obtain ⟨V1,hV1⟩:=old q' V' hV'
   exact h.inj q q' V0 V1 hV0 hV1 ha ha' hb
 · rcases hget q V hV with ⟨_,hV⟩ | ⟨hqr,hV2⟩
   · exact h.gse q V hV hz hp
   · subst hV2
     rw [hqr]
     exact h.gse r' W hW hz hp
theorem u9 (hS:St g B w0 I0 E) (hL:Ub P L) {s e:TypeId} {ys ye:Ty} (hs:Oe L s=some ys) (hu:ys.u=.slice e) (he:Oe L e=some ye) (hue:ye.u=.int .u8) {r' n:Nat} {W:Row} (hW:E.H[r']?=some (some W)) {v:Value} (hv:E.V (.sl r' n) v)
  {k:AV→ia→Option (Nat→Bool)→Option R} (h:cnd (Nat.blt 0 n&&!W.cv&&!W.mn) (k (.sl r' n) (E.H.set r' (some { W with cv:=true })) none) none=some r):
  Nxt P g B w0 I0 E (do pure (Next.value (←convert s s v))) k r:=by
 obtain ⟨hc,h⟩:=sa h
 simp only [Bool.and_eq_true,Bool.not_eq_true'] at hc
 obtain ⟨⟨hn,hcv⟩,hmn⟩:=hc
 have hn:0<n:=Nat.le_of_ble_eq_true hn
 have hv0:=hv
 simp only [Env.V,VR] at hv
 obtain ⟨⟨kk,hT⟩,hv⟩:=hv
 obtain ⟨rfl,rfl⟩:=ft hW hT
 have hal:(E.m r').al=true:=(hS.rows r' W hW).al (.inl hn)
 rw [if_pos hal] at hv
 obtain ⟨c,rfl,_,_⟩:=hv
 obtain ⟨_,_,_,arr,fz,k4,_⟩:=(hS.rows r' W hW).mem hal
 obtain ⟨s1,s2⟩:=hS.mark hW hal hcv hmn k4
 have hsh:E.w.shape? (E.m r').blk=some (W.t,arr.size):=by unfold World.shape?;rw [k4]
 have hu':P.underlying s=some (.slice e):=by rw [(hL s ys hs).und,hu]
 have hue':P.underlying e=some (.int .u8):=by rw [(hL e ye he).und,hue]
 refine ⟨_,_,_,none,s1,s2,s2.V (Lj _) hv0,h,.inl ?_⟩
 simp [convert,run_underlying hu',run_underlying hue',markStringish,hsh]
theorem u5 (hL:Ub P L) {t e:TypeId} (h:oR L t e=true):P.underlying t=some (.pointer e)∧P.cellsOf e=1:=by
 unfold oR at h
 split at h
 · rename_i y hy
   split at h
   · rename_i e' hu
     rw [Bool.and_eq_true] at h
     have he:e'=e:=Nat.eq_of_beq_eq_true h.1
     subst he
     split at h
     · rename_i ye hye
       obtain ⟨i,hi,_,hs,_⟩:=(hL e' ye hye).info
       have h1:ye.size=1:=Nat.eq_of_beq_eq_true h.2
       exact ⟨by rw [(hL t y hy).und,hu],by simp [Program.cellsOf,hi,hs,h1]⟩
     · simp at h
   · cases h
 · cases h
theorem UO (hS:St g B w0 I0 E) (hL:Ub P L) {ev:Operand→AV} {ρ:Operand→Value} (hρ:∀ x,E.V (ev x) (ρ x)) {c:Call} {ty:TypeId} {k:AV→ia→Option (Nat→Bool)→Option R}
  (h:(match c.args.toList.map ev,c.argTypes.toList with
   | [.sp r n,.b (.int .i64 m)],[t,_]=>cnd (lA L t) (match E.H[r]? with
    | some (some ⟨e,1,_,.typ (.int .u8) xs,_,true,_,_⟩)=>cnd (oR L t e) (if m=(n:Int)∧m≤9223372036854775807 then k (.b (.string (Oh n xs))) ((vp (fun q=>!(Nat.beq q r)) E.H).set r none) (some fun q=>!(Nat.beq q r)) else none) none
    | _=>none) none
   | [.b (.pointer none),.b (.int .i64 m)],[_,_]=>if m=0 then k (.b (.string ⟨#[]⟩)) E.H none else none
   | _,_=>none)=some r):Nxt P g B w0 I0 E (do pure (Next.value (←Builtin.unsafeString_ c.argTypes ty (c.args.map ρ)))) k r:=by
 split at h
 · rename_i r' n m t t2 he ht
   obtain ⟨a,b,hl,ha,hb⟩:=H1 he
   have hca:c.args.map ρ= #[ρ a,ρ b]:=by rw [←Array.toArray_toList (xs:=c.args),hl];simp
   have hct:c.argTypes= #[t,t2]:=by rw [←Array.toArray_toList (xs:=c.argTypes),ht]
   rw [hca,hct]
   obtain ⟨_,h⟩:=sa h
   have hx:=hρ a
   have hy:=hρ b
   rw [ha] at hx
   rw [hb,V_b] at hy
   split at h
   · rename_i e nn xs mn bx cv hW
     obtain ⟨hc,h⟩:=sa h
     obtain ⟨hu,hc1⟩:=u5 hL hc
     obtain ⟨⟨hm,hm63⟩,h'⟩:=Zj h
     clear h
     subst hm
     obtain ⟨zs,hzs⟩:∃ zs:Nat→Int,zs=xs:=⟨xs,rfl⟩
     simp only [Env.V,VR] at hx
     obtain ⟨⟨kk,hT⟩,p,hv,hp⟩:=hx
     have hkn:kk=1∧n=nn:=by simp only [tab,hW] at hT;cases hT;exact ⟨rfl,rfl⟩
     obtain ⟨rfl,rfl⟩:=hkn
     rw [hv,hy]
     rcases Nat.eq_zero_or_pos n with h0 | h0
     · subst h0
       obtain ⟨s1,s2⟩:=hS.freeze hW
       obtain ⟨s1,s2⟩:=hS.cut (D:=fun q=>!(Nat.beq q r')) (H':=tD E.H r') (fun q V' hV=>by
        have:(tD E.H r')[q]?=some (some V'):=hV
        unfold tD at this
        rw [List.getElem?_set] at this
        split at this
        · split at this<;>cases this
        · rename_i hq
          rw [ef] at this
          cases ho:E.H[q]? with
          | none=>rw [ho] at this;cases this
          | some o=>cases o with
           | none=>rw [ho] at this;cases this
           | some V=>rw [ho] at this;exact ⟨ne_iff.2 (Ne.symm hq),V,rfl,by simpa using this.symm⟩) (fun q V hV hd=>by
        have hq:=ne_iff.1 hd
        show (tD E.H r')[q]?=_
        unfold tD
        rw [List.getElem?_set,if_neg (Ne.symm hq),ef,hV];rfl)
       exact ⟨_,_,_,some fun q=>!(Nat.beq q r'),s1,s2,V_b.2 rfl,h',.inl (zh (Lib.run_unsafeString_none (P:=P) E.w t t2 ty p))⟩
     · obtain ⟨hal,rfl⟩:=hp h0
       have hk0:=hS.rows r' _ hW
       obtain ⟨k1,k2,k3,arr,fz,k4,k5,_,_,k7⟩:=hk0.mem hal
       obtain ⟨ys,hys⟩:∃ ys:List Int,ys=(List.range n).map zs:=⟨_,rfl⟩
       have hlen:ys.length=n:=by rw [hys];simp
       have hrun:=qS (P:=P) E.w t t2 ty e hu hc1 (E.m r').blk arr.size (by simp [World.shape?,k4]) ys (by intro e0;rw [e0] at hlen;simp at hlen;omega) (by rw [hlen,k5];simpa using k3) (by rw [hlen];omega) (fun j x hj=>by
        rw [hys,List.getElem?_map] at hj
        have hj':j<n:=by
         rcases Nat.lt_or_ge j n with h' | h'
         · exact h'
         · rw [List.getElem?_eq_none (by simpa using h')] at hj;cases hj
        rw [List.getElem?_range hj'] at hj
        have hj:zs j=x:=by simpa using hj
        rw [hzs] at hj
        subst hj
        obtain ⟨v,h1,h2,_⟩:=k7 j hj' 0 (.b (.int .u8 (xs j))) rfl
        simp only [dt,VR] at h2
        subst h2
        rw [nr,Nat.zero_add]
        simp only [Nat.mul_one,Nat.add_zero] at h1
        simp [World.cell?,k4,h1])
       rw [hlen,hys,hzs] at hrun
       obtain ⟨s1,s2⟩:=hS.frz hW hal n
       exact ⟨_,_,_,some fun q=>!(Nat.beq q r'),s1,s2,V_b.2 rfl,h',.inl (zh hrun)⟩
   · exact ja h
 · rename_i m t t2 he ht
   obtain ⟨a,b,hl,ha,hb⟩:=H1 he
   have hca:c.args.map ρ= #[ρ a,ρ b]:=by rw [←Array.toArray_toList (xs:=c.args),hl];simp
   have hct:c.argTypes= #[t,t2]:=by rw [←Array.toArray_toList (xs:=c.argTypes),ht]
   rw [hca,hct]
   have hx:=hρ a
   have hy:=hρ b
   rw [ha,V_b] at hx
   rw [hb,V_b] at hy
   rw [hx,hy]
   obtain ⟨rfl,h⟩:=Zj h
   exact ⟨_,_,E,none,hS,Ext.refl _ _,V_b.2 rfl,h,.inl (zh (Lib.run_unsafeString_none (P:=P) E.w t t2 ty none))⟩
 · exact ja h
theorem iN (hS:St g B w0 I0 E) (hL:Ub P L) (hP:PureOk P g Γ) (hG:CsOk P g Γ) {fr:List AV} {a:Act} (hfr:E.L fr a.tmps.toList) {o:Oper}
  {k:AV→ia→Option (Nat→Bool)→Option R} {pn:AV→ia→Option (Nat→Bool)→Option R} {next:Act→World→Prop} {Q:Exit→Act→World→Prop}
  (h:opE L Γ E.H (evA fr) o k pn=some r)
  (hk:∀ av v E' D,St g B w0 I0 E'→Ext (Option.getD D kx) E E'→E'.V av v→k av E'.H D=some r→next (a.put o.dst v) E'.w)
  (hp:∀ av v E' D,St g B w0 I0 E'→Ext (Option.getD D kx) E E'→E'.V av v→pn av E'.H D=some r→Q (.panic [{ v,recovered:=false }]) a E'.w):o.wp P a E.w next Q:=by
 have hρ:=Wz hfr
 have pure_:∀ {op:Op},o.op=op→opP L E.H (evA fr) op (fun v=>k v E.H none)=some r→o.wp P a E.w next Q:=fun {op} ho hh=>(o5 (o:=o) hS hL hρ (by rw [ho];exact hh)).wp hk
 unfold opE at h
 split at h
 · rename_i ho
   split at h
   · rename_i y hy
     split at h
     · rename_i e hu
       split at h
       · rename_i ye hye
         refine Nxt.wp ?_ hk
         have:=q7 (P:=P) (ye:=ye) (e:=e) hS h
         simpa [execOp,ho,Act.eval] using this
       · exact ja h
     · exact ja h
   · exact ja h
 · rename_i t ho
   refine Nxt.wp ?_ hk
   have:=m7 (P:=P) hS hL h
   simpa [execOp,ho] using this
 · rename_i t x ho
   refine Nxt.wp ?_ hk
   have:=Gab (P:=P) hS hL h (hρ x)
   simpa [execOp,ho] using this
 · rename_i t parts ho
   refine Nxt.wp ?_ hk
   have:=n7 (P:=P) hS hL hρ h
   simpa [execOp,ho] using this
 · rename_i t len parts ho
   refine Nxt.wp ?_ hk
   have:=rT (P:=P) hS hL hρ h
   simpa [execOp,ho] using this
 · rename_i t xa xb ho
   refine Nxt.wp ?_ hk
   have:=s9 (P:=P) hS hL h (hρ xa) (hρ xb)
   simpa [execOp,ho] using this
 · rename_i t ad x ho
   refine Nxt.wp ?_ hk
   have:=u7 (P:=P) hS hL h (hρ ad) (O7 (hρ x))
   simpa [execOp,ho] using this
 · rename_i s d x ho
   split at h
   · rename_i str he
     have hx:=hρ x
     rw [he,V_b] at hx
     split at h
     · rename_i us yd hs hd
       split at h
       · rename_i e hu
         have hu':P.underlying d=some (.slice e):=by rw [(hL d yd hd).und,hu]
         split at h
         · rename_i ye hye
           split at h
           · rename_i hue
             have hue':P.underlying e=some (.int .u8):=by rw [(hL e ye hye).und,hue]
             refine Nxt.wp ?_ hk
             have:=o7 (P:=P) hS hL hs hu' hue' h
             simpa [execOp,ho,hx] using this
           · exact ja h
         · exact ja h
       · rename_i hu
         have hu':P.underlying d=some .string:=by rw [(hL d yd hd).und,hu]
         refine Nxt.wp ⟨_,_,E,none,hS,Ext.refl _ _,V_b.2 rfl,h,.inl ?_⟩ hk
         simp [execOp,ho,hx,convert,run_underlying (hL s us hs).und,run_underlying hu']
       · exact ja h
     · exact ja h
   · rename_i r' n he
     cases hsd:Nat.beq s d with
     | false=>rw [hsd,cnd_false,ho] at h;exact pure_ ho h
     | true=>
      rw [hsd,cnd_true] at h
      obtain rfl:=Nat.eq_of_beq_eq_true hsd
      have hx:=hρ x
      rw [he] at hx
      split at h
      · rename_i ys hys
        split at h
        · rename_i e hu
          split at h
          · rename_i ye W hye hW
            split at h
            · rename_i hue
              refine Nxt.wp ?_ hk
              have:=u9 (P:=P) hS hL hys hu hye hue hW hx h
              simpa [execOp,ho] using this
            · exact ja h
          · exact ja h
        · exact ja h
      · exact ja h
   · rw [ho] at h;exact pure_ ho h
 · rename_i c ho
   split at h
   · rename_i hc
     refine Nxt.wp ?_ hk
     have:=LZ (P:=P) (ty:=o.type) hS hL hρ h
     obtain ⟨dst,op,type,pos,after,guard⟩:=o
     simp only at ho
     subst ho
     obtain ⟨callee,args,ats⟩:=c
     simp only at hc
     subst hc
     simpa [execOp,resolve,invoke,builtin] using this
   · rename_i f hc
     exact uY hS hP hG hfr ho hc h hk hp
   · rename_i hc
     refine Nxt.wp ?_ hk
     have:=GV (P:=P) (ty:=o.type) hS hL hρ h
     obtain ⟨dst,op,type,pos,after,guard⟩:=o
     simp only at ho
     subst ho
     obtain ⟨callee,args,ats⟩:=c
     simp only at hc
     subst hc
     simpa [execOp,resolve,invoke,builtin] using this
   · rename_i hc
     refine Nxt.wp ?_ hk
     have:=UO (P:=P) (ty:=o.type) hS hL hρ h
     obtain ⟨dst,op,type,pos,after,guard⟩:=o
     simp only at ho
     subst ho
     obtain ⟨callee,args,ats⟩:=c
     simp only at hc
     subst hc
     simpa [execOp,resolve,invoke,builtin] using this
   · rw [ho] at h;exact pure_ ho h
 · rename_i t x lo hi ho
   split at h
   · rename_i r' n he
     refine Nxt.wp ?_ hk
     have:=s7 (P:=P) hS hL hρ he h
     simpa [execOp,ho] using this
   · exact pure_ ho h
 · rename_i t x lo hi mx ho
   obtain ⟨av,v,E',h1,h2,h3,h4,h5,_⟩:=iX (P:=P) hS hL hρ h
   have h6:Nxt P g B w0 I0 E (do pure (Next.value (←Instr.sliceAt t (a.eval x) (lo.map a.eval) (some (a.eval hi)) (some (a.eval mx))))) k r:=⟨av,v,E',none,h1,h2,h3,h4,.inl (zh h5)⟩
   refine Nxt.wp ?_ hk
   simpa [execOp,ho] using h6
 · rename_i x ho
   have hx:=hρ x
   split at h
   · rename_i t v he
     rw [he] at hx
     have hx0:=hx
     simp only [Env.V,VR] at hx
     obtain ⟨u,hv,_⟩:=hx
     unfold Oper.wp
     have:(execOp a.eval o).run P E.w=.halt (.panic (a.eval x)) E.w:=by simp [execOp,ho,hv,Instr.panic]
     rw [this,Oper.upon_panic]
     exact hp _ _ E none hS (Ext.refl _ _) hx0 h
   · exact ja h
 · exact pure_ rfl h
theorem O4 (hS:St g B w0 I0 E) (hL:Ub P L) {t:TypeId} {k:AV→ia→Option (Nat→Bool)→Option R} (h:(match Oe L t with
  | some y=>cnd (Nat.beq (zeroCells y).length y.size&&Nat.blt 0 y.size&&gN (zeroCells y)) (k (.ptr E.H.length 0 0) (E.H++[some ⟨t,y.size,1,.box (zeroCells y),false,true,true,false⟩]) none) none
  | none=>none)=some r):∃ av v E',St g B w0 I0 E'∧Ext kx E E'∧E'.V av v∧k av E'.H none=some r∧(Instr.alloc t true (.tuple #[])).run P E.w=.ok v E'.w∧Below E.w.heap.size E.w E'.w:=by
 split at h
 · rename_i y hy
   obtain ⟨hc,h⟩:=sa h
   simp only [Bool.and_eq_true] at hc
   have h1:(zeroCells y).length=y.size:=Nat.eq_of_beq_eq_true hc.1.1
   have h2:0<y.size:=by have:=Nat.le_of_ble_eq_true hc.1.2;omega
   obtain ⟨E',hS',hx,hH,hw,hv⟩:=zO hS (t:=t) (W:=⟨t,y.size,1,.box (zeroCells y),false,true,true,false⟩) (v:=y.zero) (cs:=zeroCells y) rfl rfl rfl h1.symm h2 (by simpa [dt] using sm (E:=E) (y:=y)) (lJ hc.2 (sm (E:=E) (y:=y)))
   refine ⟨_,_,E',hS',hx,hv,by rw [hH];exact h,?_,by rw [hw];exact (Below.refl _ _).alloc (Nat.le_refl _) _⟩
   unfold Instr.alloc
   rw [Sem.run_bind,Yg (hL t y hy)]
   simp only [Result.andThen_ok,Sem.run_bind,cK,Sem.run_pure,hw]
 · exact ja h
theorem qQ (hS:St g B w0 I0 E) (hL:Ub P L) (hP:PureOk P g Γ) (hG:CsOk P g Γ) {fr:List AV} {a:Act} (hfr:E.L fr a.tmps.toList) {o:Oper} (hg:LT Γ E.H (evA fr) o.op=true)
  {k:AV→ia→Option (Nat→Bool)→Option R} {pn:AV→ia→Option (Nat→Bool)→Option R} {next:Act→World→Prop} {Q:Exit→Act→World→Prop}
  (h:opE L Γ E.H (evA fr) o k pn=some r)
  (hk:∀ av v E' D,St g B w0 I0 E'→Ext (Option.getD D kx) E E'→E'.V av v→k av E'.H D=some r→Below E.w.heap.size E.w E'.w→next (a.put o.dst v) E'.w)
  (hp:∀ av v E' D,St g B w0 I0 E'→Ext (Option.getD D kx) E E'→E'.V av v→pn av E'.H D=some r→Q (.panic [{ v,recovered:=false }]) a E'.w):o.wp P a E.w next Q:=by
 have hρ:=Wz hfr
 obtain ⟨dst,op,type,pos,after,guard⟩:=o
 unfold LT at hg
 simp only at hg
 split at hg
 · rename_i c
   obtain ⟨callee,args,ats⟩:=c
   split at hg
   · rename_i hc
     simp only at hc
     subst hc
     obtain ⟨av,v,E',h1,h2,h3,h4,h5,h6⟩:=LK (P:=P) (L:=L) (c:=⟨.builtin .unsafeSliceData,args,ats⟩) (ty:=type) hS hL hρ h
     have h7:(execOp a.eval ⟨dst,.call ⟨.builtin .unsafeSliceData,args,ats⟩,type,pos,after,guard⟩).run P E.w=.ok (.value v) E'.w:=by
      have:=zh h5
      simpa [execOp,resolve,invoke,builtin] using this
     unfold Oper.wp
     rw [h7]
     exact hk av v E' none h1 h2 h3 h4 h6
   · rename_i f hc
     simp only at hc
     subst hc
     have h':OZ Γ E.H (evA fr f) (args.toList.map (evA fr)) k pn=some r:=h
     have hf:=hρ f
     unfold OZ at h'
     split at hg
     · rename_i fid cp he
       rw [he] at hf h'
       simp only at h'
       simp only [Env.V,VR] at hf
       obtain ⟨cap,hfv,hcap⟩:=hf
       have hargs:E.L (args.toList.map (evA fr)++cp) ((args.map a.eval)++cap).toList:=by
        rw [Array.toList_append,Array.toList_map]
        exact nx (iV (Wz hfr) _) hcap
       split at hg
       · rename_i F hres
         rw [hres] at h'
         simp only at h'
         obtain ⟨hen,hcall⟩:=hG.ans fid _ _ _ hres
         obtain ⟨out,h',hcall⟩:=hcall _ _ h'
         unfold Oper.wp
         rw [aD (c:=⟨.value f,args,ats⟩) rfl rfl hfv hen,Oper.upon_enter]
         have:=J4 hS hargs (List.isEmpty_iff.1 hg) hcall h'
         rw [Array.toArray_toList] at this
         refine this.mono ?_
         rintro e w' ⟨v,av,E',D,rfl,h1,h2,h3,hb,⟨rfl,h4⟩ | ⟨rfl,h4⟩⟩
         · exact hk av v E' D h1 h2 h3 h4 hb
         · exact hp av v E' D h1 h2 h3 h4
       rename_i hg1
       have hfp:=hg
       rw [hg1] at h'
       simp only at h'
       rw [hfp] at h'
       simp only [Bool.not_true,Bool.and_false,cnd_false,cnd_true] at h'
       obtain ⟨hpv,h'⟩:=sa h'
       have hcall:=kT hS hP hfp hargs hpv h'
       unfold Oper.wp
       rw [aD (c:=⟨.value f,args,ats⟩) rfl rfl hfv (hP.enters fid hfp),Oper.upon_enter]
       refine hcall.mono ?_
       rintro e w' ⟨v,av,E',rfl,h1,h2,h3,h4,hb,⟨rfl,h5⟩ | ⟨rfl,h5⟩⟩
       · exact hk av v E' none h1 h2 h3 (by rw [h4];exact h5) hb
       · exact hp av v E' none h1 h2 h3 (by rw [h4];exact h5)
     · cases hg
   · cases hg
 · rename_i t ad
   have h':opP L E.H (evA fr) (.load t ad) (fun v=>k v E.H none)=some r:=h
   obtain ⟨av,v,hk',hv,hr⟩:=jN (P:=P) hL hS.rows hS.isz hρ (o:=⟨dst,.load t ad,type,pos,after,guard⟩) h'
   unfold Oper.wp
   rw [hr E.w (Below.refl _ _)]
   exact hk av v E none hS (Ext.refl _ _) hv hk' (Below.refl _ _)
 · rename_i t
   obtain ⟨av,v,E',h1,h2,h3,h4,h5,h6⟩:=O4 (P:=P) (L:=L) (k:=k) hS hL h
   have h7:(execOp a.eval ⟨dst,.alloc t,type,pos,after,guard⟩).run P E.w=.ok (.value v) E'.w:=by
    have:=zh h5
    simpa [execOp] using this
   unfold Oper.wp
   rw [h7]
   exact hk av v E' none h1 h2 h3 h4 h6
 · rename_i t x lo hi mx
   obtain ⟨av,v,E',h1,h2,h3,h4,h5,hw⟩:=iX (P:=P) (L:=L) (k:=k) hS hL hρ h
   have h7:(execOp a.eval ⟨dst,.slice t x lo (some hi) (some mx),type,pos,after,guard⟩).run P E.w=.ok (.value v) E'.w:=by
    have:=zh h5
    simpa [execOp] using this
   unfold Oper.wp
   rw [h7]
   exact hk av v E' none h1 h2 h3 h4 (by rw [hw];exact Below.refl _ _)
 · cases hg
end
open Go Go.RowKit
section
variable {P:Program} {L:Tys} {g:Glob} {B:Nat→Prop} {w0:World} {I0:Nat→Prop} {R:Type} {r:R} {Γ:Callees R}
theorem dw {E:Env} {fr:List AV} {a:Act} (h:E.L fr a.tmps.toList) {av:AV} {v:Value} (hv:E.V av v) (d:Option Tmp):E.L (eV fr d av) (a.put d v).tmps.toList:=by
 cases d with
 | none=>exact h
 | some d=>
  simp only [eV,Act.put,Array.toList_setIfInBounds]
  refine KS (by simp only [List.length_set];exact Gi h) fun j x u hx hu=>?_
  rw [List.getElem?_set] at hx hu
  by_cases hj:d=j
  · subst hj
    have hl:=Gi h
    by_cases hd:d<fr.length
    · simp only [if_true,hd] at hx
      simp only [if_true,hl▸hd] at hu
      cases hx;cases hu;exact hv
    · simp only [if_true,hd,if_false] at hx
      cases hx
  · rw [if_neg hj] at hx hu
    obtain ⟨u',hu',hr⟩:=kh h j x hx
    rw [hu] at hu';cases hu';exact hr
theorem LS {E:Env} {fr:List AV} {vs:List Value} (h:E.L fr vs) {d:Nat} {v:Value} (hv:vs[d]?=some v) {x:AV} (hx:E.V x v):E.L (fr.set d x) vs:=by
 refine KS (by rw [List.length_set];exact Gi h) fun j y u hy hu=>?_
 rw [List.getElem?_set] at hy
 by_cases hj:d=j
 · subst hj
   rw [hv] at hu
   cases hu
   split at hy
   · split at hy
     · cases hy;exact hx
     · cases hy
   · rename_i hn;exact absurd rfl hn
 · rw [if_neg hj] at hy
   obtain ⟨u',hu',hr⟩:=kh h j y hy
   rw [hu] at hu';cases hu';exact hr
theorem Sh {E:Env} {ops:Array Oper} {fr:List AV} {o:Oper} {y n:List AV→Option R} {a:Act} (hfr:E.L fr a.tmps.toList) (h:rH ops fr o y n=some r):
  ∃ fr',E.L fr' a.tmps.toList∧((Region.wanted o (yielded ops a.tmps)=true∧y fr'=some r)∨(Region.wanted o (yielded ops a.tmps)=false∧n fr'=some r)):=by
 unfold rH at h
 unfold Region.wanted
 split at h
 · rename_i hg
   rw [hg]
   exact ⟨fr,hfr,.inl ⟨rfl,h⟩⟩
 · rename_i j b hg
   rw [hg]
   simp only
   split at h
   · rename_i d hd
     split at h
     · rename_i c hc
       obtain ⟨v,hv,hx⟩:=kh hfr d _ hc
       simp only [VR] at hx
       subst hx
       have hv0:=hv
       have hy:yielded ops a.tmps j=some c:=by
        rw [Array.getElem?_toList] at hv
        unfold yielded
        rw [hd]
        simp only [Option.bind_some]
        rw [hv]
       rw [hy]
       split at h
       · rename_i hcb
         subst hcb
         exact ⟨_,LS hfr hv0 (V_b.2 rfl),.inl ⟨by simp,h⟩⟩
       · rename_i hcb
         exact ⟨_,LS hfr hv0 (V_b.2 (by cases c<;>cases b<;>simp_all)),.inr ⟨by simpa using hcb,h⟩⟩
     · rename_i u hnb hc
       obtain ⟨v,hv,hx⟩:=kh hfr d _ hc
       simp only [VR] at hx
       subst hx
       have hy:yielded ops a.tmps j=none:=by
        rw [Array.getElem?_toList] at hv
        unfold yielded
        rw [hd]
        simp only [Option.bind_some]
        rw [hv]
        cases v with
        | bool c=>exact absurd rfl (hnb c)
        | _=>rfl
       rw [hy]
       exact ⟨fr,hfr,.inr ⟨rfl,h⟩⟩
     · exact ja h
   · exact ja h
theorem Jb (a:Act) (d:Option Tmp) (v:Value):(a.put d v).defers=a.defers:=by cases d<;>rfl
theorem rx (hL:Ub P L) (hP:PureOk P g Γ) (hG:CsOk P g Γ) {ops:Array Oper} {Q:Exit→Act→World→Prop} {ds:List Deferred} {k:List AV→ia→Option R} {pn:AV→List AV→ia→Option R}
  (hk:∀ fr (E:Env) (a:Act),St g B w0 I0 E→E.L fr a.tmps.toList→a.defers=ds→k fr E.H=some r→Q .normal a E.w)
  (hp:∀ av v fr (E:Env) (a:Act),St g B w0 I0 E→E.L fr a.tmps.toList→E.V av v→a.defers=ds→pn av fr E.H=some r→Q (.panic [{ v,recovered:=false }]) a E.w):
  ∀ (l:List Oper) (fr:List AV) (E:Env) (a:Act),St g B w0 I0 E→E.L fr a.tmps.toList→a.defers=ds→QM L Γ ops k pn l fr E.H=some r→wpList P ops Q l a E.w
 | [],fr,E,a,hS,hfr,hd,h=>hk fr E a hS hfr hd h
 | o::rest,fr,E,a,hS,hfr,hd,h=>by
  simp only [QM] at h
  unfold wpList
  obtain ⟨fr,hfr,⟨hw,h⟩ | ⟨hw,h⟩⟩:=Sh (a:=a) hfr h
  · rw [if_pos hw]
    refine .inl (iN hS hL hP hG hfr h (fun av v E' D hS' hx hv hh=>?_) (fun av v E' D hS' hx hv hh=>hp av v _ E' a hS' (by
     cases D with
     | none=>exact hx.L (Zb fr) hfr
     | some D=>exact hx.L (Ck fr) (cw fr _ _ hfr)) hv hd hh))
    refine rx hL hP hG hk hp rest _ E' _ hS' (dw ?_ hv o.dst) (by rw [Jb];exact hd) hh
    cases D with
    | none=>exact hx.L (Zb fr) hfr
    | some D=>exact hx.L (Ck fr) (cw fr _ _ hfr)
  · rw [if_neg (by rw [hw];simp)]
    exact rx hL hP hG hk hp rest _ E _ hS (dw hfr (V_b.2 rfl) o.dst) (by rw [Jb];exact hd) h
def toV:AV→Value
 | .b v=>v
 | .ifc t (.agg l)=>.iface t (.agg (l.map fun x=>match x with
  | .b v=>v
  | _=>undef).toArray)
 | .agg l=>.agg (l.map fun x=>match x with
  | .b v=>v
  | _=>undef).toArray
 | .tup l=>.tuple (l.map fun x=>match x with
  | .b v=>v
  | _=>undef).toArray
 | _=>undef
theorem nX {w:World} {I:Nat→Prop} {m:Nat→Info} {T:Tab} {x:AV} {v:Value} (hf:pH x=true) (h:VR w I m T x v):v=toV x:=by
 have hl:∀ {l:List AV} {vs:List Value},(l.all fun x=>match x with
   | .b _=>true
   | _=>false)=true→LR w I m T l vs→vs=l.map fun x=>match x with
   | .b v=>v
   | _=>undef:=fun {l}=>by
  induction l with
  | nil=>intro vs _ h;cases vs<;>simp_all [LR]
  | cons y ys ih=>
   intro vs hall h
   cases vs with
   | nil=>simp [LR] at h
   | cons u us=>
    simp only [List.all_cons,Bool.and_eq_true] at hall
    simp only [LR] at h
    rw [ih hall.2 h.2]
    have h1:=hall.1
    have h2:=h.1
    cases y<;>simp at h1
    simp only [VR] at h2
    rw [h2];rfl
 cases x with
 | b u=>simp only [VR] at h;exact h
 | agg l=>simp only [VR] at h;obtain ⟨a,rfl,h⟩:=h;simp only [toV];rw [←hl hf h]
 | tup l=>simp only [VR] at h;obtain ⟨a,rfl,h⟩:=h;simp only [toV];rw [←hl hf h]
 | ifc t y=>
  cases y with
  | agg l=>simp only [VR] at h;obtain ⟨u,rfl,a,rfl,h⟩:=h;simp only [toV];rw [←hl hf h]
  | _=>simp [pH] at hf
 | _=>simp [pH] at hf
theorem St.at_ {E:Env} (h:St g B w0 I0 E) {w':World} (hw:Below E.w.heap.size E.w w'):St g B w0 I0 { E with w:=w' }∧Ext kx E { E with w:=w' }:=
 h.grow (I':=E.I) hw (fun b h=>h) (fun b h=>.inl h) (fun b hb=>Nat.lt_of_lt_of_le (h.isz b hb) hw.size)
theorem Q1 (hL:Ub P L) (hP:PureOk P g Γ) {E:Env} (hS:St g B w0 I0 E) {fr:List AV} {a:Act} (hfr:E.L fr a.tmps.toList) {o:Oper} {k:AV→Option R} (h:opQ L Γ E.H (evA fr) o k=some r):
  ∃ av v,k av=some r∧E.V av v∧∀ w',Below E.w.heap.size E.w w'→o.quietAt P a (fun w'=>Below E.w.heap.size E.w w') w' v:=by
 have pure_:opP L E.H (evA fr) o.op k=some r→∃ av v,k av=some r∧E.V av v∧∀ w',Below E.w.heap.size E.w w'→o.quietAt P a (fun w'=>Below E.w.heap.size E.w w') w' v:=fun h=>by
  obtain ⟨av,v,h1,h2,h3⟩:=jN hL hS.rows hS.isz (Wz hfr) h
  exact ⟨av,v,h1,h2,fun w' hw=>by unfold Oper.quietAt;rw [h3 w' hw];exact ⟨rfl,rfl⟩⟩
 unfold opQ at h
 split at h
 · rename_i c ho
   split at h
   · rename_i f hc
     have hf:=Wz hfr f
     split at h
     · rename_i fid cp he
       rw [he] at hf
       simp only [Env.V,VR] at hf
       obtain ⟨cap,hfv,hcap⟩:=hf
       cases hxs:(Γ.xc fid).isSome with
       | true=>
        rw [hxs,cnd_true] at h
        have hargs:E.L (c.args.toList.map (evA fr)++cp) ((c.args.map a.eval)++cap).toList:=by
         rw [Array.toList_append,Array.toList_map]
         exact nx (iV (Wz hfr) _) hcap
        obtain ⟨av,v,h1,hV,h2⟩:=s6 hP hargs h
        refine ⟨_,v,h1,hV,fun w' hw=>?_⟩
        unfold Oper.quietAt
        rw [eL ho hc hfv (by have:=h2 w';rwa [Array.toArray_toList] at this)]
        exact ⟨rfl,rfl⟩
       | false=>
       rw [hxs,cnd_false] at h
       obtain ⟨hcond,h⟩:=sa h
       rw [Bool.and_eq_true] at hcond
       have hargs:E.L (c.args.toList.map (evA fr)++cp) ((c.args.map a.eval)++cap).toList:=by
        rw [Array.toList_append,Array.toList_map]
        exact nx (iV (Wz hfr) _) hcap
       obtain ⟨av,hk,hpav,ha⟩:=(hP.ans fid _ _ _ r hcond.1 h).resolve_right (fun ⟨_,h,_⟩=>by cases h)
       obtain ⟨hfl,hk⟩:=sa hk
       have hflat:∀ {w:World} {I:Nat→Prop} {m:Nat→Info} {v:Value},VR w I m Fb av v→E.V av (toV av):=fun {w I m v} hv=>by
        have:=nX hfl hv
        subst this
        exact mX hfl hv
       have hcalls:∀ w',Below E.w.heap.size E.w w'→Calls P fid ((c.args.map a.eval)++cap) w' (fun e w''=>e=.returned (toV av)∧Below E.w.heap.size E.w w''∧E.V av (toV av)):=fun w' hw=>by
        obtain ⟨s1,s2⟩:=hS.at_ hw
        have hv:=dJ s1 (s2.L (Zb _) hargs)
        refine (ha w' (b9 w') _ (fun b h=>h) s1.glob s1.gbase (nab (IQ hcond.2 hv))).mono ?_
        rintro e w'' ⟨v,I',rfl,hb,_,_,_,h4⟩
        exact ⟨by rw [nX (x:=av) hfl h4];rfl,hw.trans (hb.mono hw.size),hflat h4⟩
       have hVav:E.V av (toV av):=by
        cases av with
        | b v=>exact V_b.2 rfl
        | agg l=>
         simp only [Env.V,VR,toV]
         refine ⟨_,rfl,?_⟩
         simp only [List.toList_toArray]
         exact flat_list hfl
        | tup l=>
         simp only [Env.V,VR,toV]
         refine ⟨_,rfl,?_⟩
         simp only [List.toList_toArray]
         exact flat_list hfl
        | ifc t y=>
         cases y with
         | agg l=>
          simp only [Env.V,VR,toV]
          refine ⟨_,rfl,_,rfl,?_⟩
          simp only [List.toList_toArray]
          exact flat_list hfl
         | _=>simp [pH] at hfl
        | _=>simp [pH] at hfl
       refine ⟨av,toV av,hk,hVav,fun w' hw=>?_⟩
       unfold Oper.quietAt
       rw [aD ho hc hfv (hP.enters fid hcond.1)]
       exact ⟨rfl,(hcalls w' hw).mono fun e w'' hh=>⟨hh.1,hh.2.1⟩⟩
     · exact ja h
   · exact pure_ h
 · exact pure_ h
where
 flat_list {w:World} {I:Nat→Prop} {m:Nat→Info} {T:Tab}:∀ {l:List AV},(l.all fun x=>match x with
   | .b _=>true
   | _=>false)=true→LR w I m T l (l.map fun x=>match x with
   | .b v=>v
   | _=>undef)
  | [],_=>by simp [LR]
  | x::xs,h=>by
   simp only [List.all_cons,Bool.and_eq_true] at h
   simp only [List.map_cons,LR]
   refine ⟨?_,flat_list h.2⟩
   have h1:=h.1
   cases x<;>simp at h1
   simp [VR]
theorem vF (hL:Ub P L) (hP:PureOk P g Γ) {ops:Array Oper} {Q:Act→Prop} {ds:List Deferred} {k:List AV→Option R} {E:Env} (hS:St g B w0 I0 E)
  (hk:∀ fr (a:Act),E.L fr a.tmps.toList→a.defers=ds→k fr=some r→Q a):
  ∀ (l:List Oper) (fr:List AV) (a:Act),E.L fr a.tmps.toList→a.defers=ds→B0 L Γ E.H ops k l fr=some r→wpQuiet P ops (fun w'=>Below E.w.heap.size E.w w') Q l a
 | [],fr,a,hfr,hd,h=>hk fr a hfr hd h
 | o::rest,fr,a,hfr,hd,h=>by
  simp only [B0] at h
  unfold wpQuiet
  obtain ⟨fr,hfr,⟨hw,h⟩ | ⟨hw,h⟩⟩:=Sh (a:=a) hfr h
  · rw [if_pos hw]
    obtain ⟨av,v,h1,h2,h3⟩:=Q1 hL hP hS hfr h
    exact ⟨v,h3,vF hL hP hS hk rest _ _ (dw hfr h2 o.dst) (by rw [Jb];exact hd) h1⟩
  · rw [if_neg (by rw [hw];simp)]
    exact vF hL hP hS hk rest _ _ (dw hfr (V_b.2 rfl) o.dst) (by rw [Jb];exact hd) h
theorem Um {pu:List Nat} (hL:Ub P L) (hP:PureOk P g Γ) (hG:CsOk P g Γ) {ops:Array Oper} {dd:List Nat} {Q Q':Exit→Act→World→Prop} {ds:List Deferred} {k:List AV→ia→Option R} {pn:AV→List AV→ia→Option R} {W0:World}
  (hQ':∀ e a w,Q' e a w=match e with
   | .panic c=>∀ a':Act,a'.defers=a.defers→a'.tmps.size=a.tmps.size→Q (.panic c) a' w
   | e=>Q e a w)
  (hk:∀ fr (E:Env) (a:Act),St g B w0 I0 E→E.L fr a.tmps.toList→a.defers=ds→k fr E.H=some r→Q .normal a E.w)
  (hp:∀ av v fr (E:Env) (a:Act),St g B w0 I0 E→fr.length=a.tmps.size→E.V av v→a.defers=ds→pn av fr E.H=some r→Q (.panic [{ v,recovered:=false }]) a E.w):
  ∀ (m:Nat) (l:Array Bool) (fuel:Nat) (fr:List AV) (E:Env) (a:Act),m≤fuel→St g B w0 I0 E→E.L fr a.tmps.toList→a.defers=ds→sT L Γ ops dd pu k pn m l fr E.H=some r→
   PrintLast.wpAnyLast P .any ops Q' (fun w'=>Below W0.heap.size W0 w') dd fuel l a E.w
 | 0,l,fuel,fr,E,a,hfu,hS,hfr,hd,h=>by
  simp only [sT] at h
  obtain ⟨hr,h⟩:=sa h
  refine PrintLast.wpAnyLast_done (by simpa using hr) ?_ fuel
  rw [hQ']
  exact hk fr E a hS hfr hd h
 | m+1,l,0,fr,E,a,hfu,hS,hfr,hd,h=>by omega
 | m+1,l,fuel+1,fr,E,a,hfu,hS,hfr,hd,h=>by
  have hfu':m≤fuel:=by omega
  simp only [sT] at h
  cases hre:(Region.ready .any ops l==[]) with
  | true=>
   rw [hre,cnd_true] at h
   refine PrintLast.wpAnyLast_done (by simpa using hre) ?_ (fuel+1)
   rw [hQ']
   exact hk fr E a hS hfr hd h
  | false=>
  rw [hre,cnd_false] at h
  split at h
  · rename_i i hfi
    split at h
    · cases h
    · rename_i o ho
      obtain ⟨hc,h⟩:=sa h
      rw [Bool.and_eq_true] at hc
      have hQp:∀ (v:Value) c a w,Q' (.panic c) (a.put o.dst v) w→Q' (.panic c) a w:=fun v c a w hh=>by
       rw [hQ'] at hh ⊢
       exact fun a' ha' hs'=>hh a' (by rw [ha',Jb]) (by rw [hs'];cases o.dst<;>simp [Act.put])
      have hrd:J9 o.op=false:=by simpa using hc.2
      obtain ⟨fr,hfr,⟨hw,h⟩ | ⟨hw,h⟩⟩:=Sh (a:=a) hfr h
      · obtain ⟨av,v,h1,h2,h3⟩:=IC hL hS.rows hS.isz (fun _=>True) (Wz hfr) (fun hh=>by rw [hrd] at hh;cases hh) h
        exact PrintLast.pure_ (l.setIfInBounds i true) ho rfl hc.1 (hQp v) (.inl ⟨hw,fun w=>h3 w trivial⟩) rfl (Um hL hP hG hQ' hk hp m _ fuel _ E _ hfu' hS (dw hfr h2 o.dst) (by rw [Jb];exact hd) h1)
      · exact PrintLast.pure_ (l.setIfInBounds i true) ho rfl hc.1 (hQp undef) (.inr ⟨hw,rfl⟩) rfl (Um hL hP hG hQ' hk hp m _ fuel _ E _ hfu' hS (dw hfr (V_b.2 rfl) o.dst) (by rw [Jb];exact hd) h)
  · refine ⟨fun hr=>?_,fun i hi=>?_⟩
    · rw [hr] at hre;cases hre
    · have h:=dT h _ (List.mem_map_of_mem hi)
      split at h
      · cases h
      · rename_i o ho
        unfold wpOp
        rw [ho]
        simp only
        obtain ⟨fr,hfr,⟨hw,h⟩ | ⟨hw,h⟩⟩:=Sh (a:=a) hfr h
        · rw [if_pos hw]
          obtain ⟨hc,h⟩:=sa h
          cases hin:dd.contains i with
          | true=>
           have hin':i∈dd:=by simpa using hin
           refine .inl (iN hS hL hP hG hfr h (fun av v E' D hS' hx hv hh=>⟨fun hn=>absurd hin' hn,?_⟩) (fun av v E' D hS' hx hv hh=>?_))
           · refine Um hL hP hG hQ' hk hp m _ fuel _ E' _ hfu' hS' (dw ?_ hv o.dst) (by rw [Jb];exact hd) hh
             cases D with
             | none=>exact hx.L (Zb fr) hfr
             | some D=>exact hx.L (Ck fr) (cw fr _ _ hfr)
           · rw [hQ']
             exact fun a' ha' hs'=>hp av v _ E' a' hS' (by rw [hs',←Array.length_toList,←Gi hfr];cases D<;>simp [wZ,Yu]) hv (by rw [ha'];exact hd) hh
          | false=>
           have hg:LT Γ E.H (evA fr) o.op=true:=by rw [hin] at hc;simpa using hc
           refine .inl (qQ hS hL hP hG hfr hg h (fun av v E' D hS' hx hv hh hb=>⟨fun _ hS0=>Below.trans hS0 (hb.mono (Below.size hS0)),?_⟩) (fun av v E' D hS' hx hv hh=>?_))
           · refine Um hL hP hG hQ' hk hp m _ fuel _ E' _ hfu' hS' (dw ?_ hv o.dst) (by rw [Jb];exact hd) hh
             cases D with
             | none=>exact hx.L (Zb fr) hfr
             | some D=>exact hx.L (Ck fr) (cw fr _ _ hfr)
           · rw [hQ']
             exact fun a' ha' hs'=>hp av v _ E' a' hS' (by rw [hs',←Array.length_toList,←Gi hfr];cases D<;>simp [wZ,Yu]) hv (by rw [ha'];exact hd) hh
        · rw [if_neg (by rw [hw];simp)]
          exact ⟨fun _ h=>h,Um hL hP hG hQ' hk hp m _ fuel _ E _ hfu' hS (dw hfr (V_b.2 rfl) o.dst) (by rw [Jb];exact hd) h⟩
theorem xg (hL:Ub P L) (hP:PureOk P g Γ) (hG:CsOk P g Γ) {ops:Array Oper} {dd:List Nat} {Q Q':Exit→Act→World→Prop} {ds:List Deferred} {k:List AV→ia→Option R} {pn:AV→List AV→ia→Option R} {W0:World}
  (hQ':∀ e a w,Q' e a w=match e with
   | .panic c=>∀ a':Act,a'.defers=a.defers→a'.tmps.size=a.tmps.size→Q (.panic c) a' w
   | e=>Q e a w)
  (hk:∀ fr (E:Env) (a:Act),St g B w0 I0 E→E.L fr a.tmps.toList→a.defers=ds→k fr E.H=some r→Q .normal a E.w)
  (hp:∀ av v fr (E:Env) (a:Act),St g B w0 I0 E→fr.length=a.tmps.size→E.V av v→a.defers=ds→pn av fr E.H=some r→Q (.panic [{ v,recovered:=false }]) a E.w):
  ∀ (s:List (Nat×Nat)) (eff:Bool) (l:Array Bool) (fuel:Nat) (fr:List AV) (E:Env) (a:Act),s.length≤fuel→(eff=false→E.w=W0)→St g B w0 I0 E→E.L fr a.tmps.toList→a.defers=ds→VO L Γ ops dd k pn s eff l fr E.H=some r→
   PrintLast.wpAnyLast P .any ops Q' (fun w'=>Below W0.heap.size W0 w') dd fuel l a E.w
 | [],eff,l,fuel,fr,E,a,hfu,he,hS,hfr,hd,h=>by
  simp only [VO] at h
  obtain ⟨hr,h⟩:=sa h
  refine PrintLast.wpAnyLast_done (by simpa using hr) ?_ fuel
  rw [hQ']
  exact hk fr E a hS hfr hd h
 | (i,md)::rest,eff,l,0,fr,E,a,hfu,he,hS,hfr,hd,h=>by simp at hfu
 | (i,md)::rest,eff,l,fuel+1,fr,E,a,hfu,he,hS,hfr,hd,h=>by
  have hfu':rest.length≤fuel:=by simpa using hfu
  simp only [VO] at h
  cases hm5:(Nat.beq md 5 || Nat.beq md 8) with
  | true=>
   rw [hm5,cnd_true] at h
   exact Um hL hP hG hQ' hk hp (rest.length+1) l (fuel+1) fr E a (by omega) hS hfr hd h
  | false=>
  rw [hm5,cnd_false] at h
  split at h
  · cases h
  · rename_i o ho
    cases hmd:Nat.beq md 2 with
    | true=>
     rw [hmd,cnd_true] at h
     obtain ⟨hc,h⟩:=sa h
     rw [Bool.and_eq_true] at hc
     refine PrintLast.last_ (l.setIfInBounds i true) ho rfl hc.1 (by simpa using hc.2) fun K hK=>?_
     obtain ⟨fr,hfr,⟨hw,h⟩ | ⟨hw,h⟩⟩:=Sh (a:=a) hfr h
     · rw [if_pos hw]
       refine iN hS hL hP hG hfr h (fun av v E' D hS' hx hv hh=>hK _ _ ?_) (fun av v E' D hS' hx hv hh=>?_)
       · refine xg hL hP hG hQ' hk hp rest true _ fuel _ E' _ hfu' (fun h=>by cases h) hS' (dw ?_ hv o.dst) (by rw [Jb];exact hd) hh
         cases D with
         | none=>exact hx.L (Zb fr) hfr
         | some D=>exact hx.L (Ck fr) (cw fr _ _ hfr)
       · rw [hQ']
         exact fun a' ha' hs'=>hp av v _ E' a' hS' (by rw [hs',←Array.length_toList,←Gi hfr];cases D<;>simp [wZ,Yu]) hv (by rw [ha'];exact hd) hh
     · rw [if_neg (by rw [hw];simp)]
       exact hK _ _ (xg hL hP hG hQ' hk hp rest true _ fuel _ E _ hfu' (fun h=>by cases h) hS (dw hfr (V_b.2 rfl) o.dst) (by rw [Jb];exact hd) h)
    | false=>
     rw [hmd,cnd_false] at h
     cases hm3:Nat.beq md 3 with
     | true=>
      rw [hm3,cnd_true] at h
      obtain ⟨hc,h⟩:=sa h
      rw [Bool.and_eq_true] at hc
      obtain ⟨c1,_⟩:=hc
      simp only [PrintLast.readyB,Bool.and_eq_true,beq_iff_eq] at c1
      refine PrintLast.wpAnyLast_all c1.1 (by simp) fun j hj=>?_
      have hj':j=i:=List.mem_singleton.mp hj
      subst hj'
      unfold wpOp
      rw [ho]
      simp only
      obtain ⟨fr,hfr,⟨hw,h⟩ | ⟨hw,h⟩⟩:=Sh (a:=a) hfr h
      · rw [if_pos hw]
        obtain ⟨hg,h⟩:=sa h
        refine .inl (qQ hS hL hP hG hfr hg h (fun av v E' D hS' hx hv hh hb=>⟨fun _ hS0=>Below.trans hS0 (hb.mono (Below.size hS0)),?_⟩) (fun av v E' D hS' hx hv hh=>?_))
        · refine xg hL hP hG hQ' hk hp rest true _ fuel _ E' _ hfu' (fun h=>by cases h) hS' (dw ?_ hv o.dst) (by rw [Jb];exact hd) hh
          cases D with
          | none=>exact hx.L (Zb fr) hfr
          | some D=>exact hx.L (Ck fr) (cw fr _ _ hfr)
        · rw [hQ']
          exact fun a' ha' hs'=>hp av v _ E' a' hS' (by rw [hs',←Array.length_toList,←Gi hfr];cases D<;>simp [wZ,Yu]) hv (by rw [ha'];exact hd) hh
      · rw [if_neg (by rw [hw];simp)]
        exact ⟨fun _ h=>h,xg hL hP hG hQ' hk hp rest true _ fuel _ E _ hfu' (fun h=>by cases h) hS (dw hfr (V_b.2 rfl) o.dst) (by rw [Jb];exact hd) h⟩
     | false=>
     rw [hm3,cnd_false] at h
     obtain ⟨hc,h⟩:=sa h
     have hQp:∀ (v:Value) c a w,Q' (.panic c) (a.put o.dst v) w→Q' (.panic c) a w:=fun v c a w hh=>by
      rw [hQ'] at hh ⊢
      exact fun a' ha' hs'=>hh a' (by rw [ha',Jb]) (by rw [hs'];cases o.dst<;>simp [Act.put])
     cases hm0:Nat.beq md 0 with
     | true=>
      rw [hm0,cnd_true,Bool.and_eq_true] at hc
      have hrd:J9 o.op=false:=by simpa using hc.2
      obtain ⟨fr,hfr,⟨hw,h⟩ | ⟨hw,h⟩⟩:=Sh (a:=a) hfr h
      · obtain ⟨av,v,h1,h2,h3⟩:=IC hL hS.rows hS.isz (fun _=>True) (Wz hfr) (fun hh=>by rw [hrd] at hh;cases hh) h
        exact PrintLast.pure_ (l.setIfInBounds i true) ho rfl hc.1 (hQp v) (.inl ⟨hw,fun w=>h3 w trivial⟩) rfl (xg hL hP hG hQ' hk hp rest eff _ fuel _ E _ hfu' he hS (dw hfr h2 o.dst) (by rw [Jb];exact hd) h1)
      · exact PrintLast.pure_ (l.setIfInBounds i true) ho rfl hc.1 (hQp undef) (.inr ⟨hw,rfl⟩) rfl (xg hL hP hG hQ' hk hp rest eff _ fuel _ E _ hfu' he hS (dw hfr (V_b.2 rfl) o.dst) (by rw [Jb];exact hd) h)
     | false=>
      rw [hm0,cnd_false,Bool.and_eq_true] at hc
      have hef:eff=false:=by simpa using hc.2
      have hW:=he hef
      have hS0:Below W0.heap.size W0 E.w:=by rw [hW];exact Below.refl _ _
      obtain ⟨fr,hfr,⟨hw,h⟩ | ⟨hw,h⟩⟩:=Sh (a:=a) hfr h
      · obtain ⟨av,v,h1,h2,h3⟩:=IC hL hS.rows hS.isz (fun w'=>Below W0.heap.size W0 w') (Wz hfr) (fun _ w hh=>by rw [hW];exact hh) h
        exact PrintLast.take_ (l.setIfInBounds i true) ho rfl hc.1 (hQp v) (.inl ⟨hw,h3⟩) hS0 rfl (xg hL hP hG hQ' hk hp rest eff _ fuel _ E _ hfu' he hS (dw hfr h2 o.dst) (by rw [Jb];exact hd) h1)
      · exact PrintLast.take_ (l.setIfInBounds i true) ho rfl hc.1 (hQp undef) (.inr ⟨hw,rfl⟩) hS0 rfl (xg hL hP hG hQ' hk hp rest eff _ fuel _ E _ hfu' he hS (dw hfr (V_b.2 rfl) o.dst) (by rw [Jb];exact hd) h)
structure KOK (P:Program) (g:Glob) (B:Nat→Prop) (w0:World) (I0:Nat→Prop) (ds:List Deferred) (Q:Exit→Act→World→Prop) (k:XE→List AV→ia→Option R) (r:R):Prop where
 nrm:∀ fr (E:Env) (a:Act),St g B w0 I0 E→E.L fr a.tmps.toList→a.defers=ds→k .normal fr E.H=some r→Q .normal a E.w
 ext:∀ id fr (E:Env) (a:Act),St g B w0 I0 E→E.L fr a.tmps.toList→a.defers=ds→k (.exit id) fr E.H=some r→Q (.exit id) a E.w
 ret:∀ fr (E:Env) (a:Act),St g B w0 I0 E→E.L fr a.tmps.toList→a.defers=ds→k .ret fr E.H=some r→Q .ret a E.w
 pan:∀ av v fr (E:Env) (a:Act),St g B w0 I0 E→E.L fr a.tmps.toList→E.V av v→a.defers=ds→k (.panic av) fr E.H=some r→Q (.panic [{ v,recovered:=false }]) a E.w
theorem Y0 {E:Env} (i:Nat) {x:AV} {v:Value} (h:E.V x v):∀ hs:List (Nat×Option CTy),E.V (EY hs i x) v
 | []=>by simp [EY,Env.V,VR]
 | (j,o)::hs=>by
  simp only [EY]
  cases Nat.beq j i with
  | true=>
   cases o with
   | none=>exact h
   | some τ=>exact uR h
  | false=>exact Y0 i h hs
theorem QV {E:Env} (live:List (Nat×Option CTy)):∀ (i:Nat) (fr:List AV) (vs:List Value),E.L fr vs→E.L (xH live i fr) vs
 | _,[],vs,h=>by simpa only [xH] using h
 | _,_::_,[],h=>by simp [Env.L,LR] at h
 | i,x::xs,v::vs,h=>by
  simp only [Env.L,LR] at h
  simp only [xH,Env.L,LR]
  exact ⟨Y0 i h.1 live,QV live (i+1) xs vs h.2⟩
theorem RF {E:Env} (hS:St g B w0 I0 E) {fr:List AV} {vs:List Value} (hfr:E.L fr vs) {live:List (Nat×Option CTy)} {k:List AV→ia→Option R} (h:S3 live fr E.H k=some r):
  ∃ fr' E',St g B w0 I0 E'∧E'.L fr' vs∧E'.w=E.w∧k fr' E'.H=some r∧∀ x v,Ew x=true→E.V x v→E'.V x v:=by
 have hn:(gcO (xH live 0 fr) E.H).Nodup:=Yn (Gr _ _)
 exact ⟨_,AO E (gcO (xH live 0 fr) E.H),hS.gc hn,qE (fun b hb=>⟨hb,rfl⟩) _ _ _ vs (fun r p q hT hq=>Mu hT hq) (QV live 0 fr vs hfr),rfl,h,fun x v hp hv=>ox (Cab (qM hp hv))⟩
theorem w5:∀ x:AV,Ew (kd (fun _=>false) x)=true:=fun x=>KP x
section
variable {E E2:Env} {r':Nat} {s:AV} (hx:Ext (fun q=>!(Nat.beq q r')) E E2) (hs:∀ n v,E.V (.sl r' n) v→E2.V s v)
include hx hs
mutual
theorem J0:∀ (x:AV) (v:Value),E.V x v→E2.V (frS r' s x) v
 | .agg l,v,h=>by
  simp only [Env.V,VR] at h
  obtain ⟨a,rfl,h⟩:=h
  simp only [frS,Env.V,VR]
  exact ⟨a,rfl,yT l _ h⟩
 | .tup l,v,h=>by
  simp only [Env.V,VR] at h
  obtain ⟨a,rfl,h⟩:=h
  simp only [frS,Env.V,VR]
  exact ⟨a,rfl,yT l _ h⟩
 | .fn f l,v,h=>by
  simp only [Env.V,VR] at h
  obtain ⟨a,rfl,h⟩:=h
  simp only [frS,Env.V,VR]
  exact ⟨a,rfl,yT l _ h⟩
 | .ifc t x,v,h=>by
  simp only [Env.V,VR] at h
  obtain ⟨y,rfl,h⟩:=h
  simp only [frS,Env.V,VR]
  exact ⟨y,rfl,J0 x y h⟩
 | .sl q n,v,h=>by
  simp only [frS]
  cases hb:Nat.beq q r' with
  | true=>rw [Nat.eq_of_beq_eq_true hb] at h;exact hs n v h
  | false=>exact hx.V (by simp [rf,hb]) h
 | .ptr q i j,v,h=>by
  simp only [frS]
  cases hb:Nat.beq q r' with
  | true=>simp [Env.V,VR]
  | false=>exact hx.V (by simp [rf,hb]) h
 | .sp q n,v,h=>by
  simp only [frS]
  cases hb:Nat.beq q r' with
  | true=>simp [Env.V,VR]
  | false=>exact hx.V (by simp [rf,hb]) h
 | .b u,v,h=>by simp only [frS];exact hx.V (by simp [rf]) h
 | .snap τ n e,v,h=>by simp only [frS];exact hx.V (by simp [rf]) h
 | .sptr l,v,h=>by simp only [frS];exact hx.V (by simp [rf]) h
 | .top,v,h=>by simp [frS,Env.V,VR]
theorem yT:∀ (l:List AV) (vs:List Value),E.L l vs→E2.L (frL r' s l) vs
 | [],[],_=>by simp [frL,Env.L,LR]
 | [],_::_,h=>by simp [Env.L,LR] at h
 | _::_,[],h=>by simp [Env.L,LR] at h
 | x::xs,v::vs,h=>by
  simp only [Env.L,LR] at h
  simp only [frL,Env.L,LR]
  exact ⟨J0 x v h.1,yT xs vs h.2⟩
end
end
theorem KV {k:List AV→ia→Option R} {vs:List Value}:∀ (is:List Nat) {E:Env} {fr:List AV},St g B w0 I0 E→E.L fr vs→I9 is fr E.H k=some r→∃ fr' E',St g B w0 I0 E'∧E'.L fr' vs∧E'.w=E.w∧k fr' E'.H=some r
 | [],E,fr,hS,hfr,h=>⟨fr,E,hS,hfr,rfl,h⟩
 | i::is,E,fr,hS,hfr,h=>by
  simp only [I9] at h
  split at h
  · rename_i r' n hi
    split at h
    · rename_i W hW
      have hW:=rowAtH_some.1 hW
      split at h
      · rename_i τ xs hex
        obtain ⟨hc,h⟩:=sa h
        rw [Bool.and_eq_true] at hc
        obtain ⟨s1,s2⟩:=hS.freeze hW
        have hs:∀ n v,E.V (.sl r' n) v→({ E with I:=R3 E r',H:=tD E.H r' }:Env).V (.snap τ W.n xs) v:=fun n v hv=>by
         have hn:n=W.n:=by
          have:=hv
          simp only [Env.V,VR] at this
          obtain ⟨⟨kk,hT⟩,_⟩:=this
          exact (ft hW hT).2
         subst hn
         exact HC hS hW hex hc.1 (Nat.eq_of_beq_eq_true hc.2) hv
        obtain ⟨fr2,E2,h1,h2,h3,h4⟩:=KV is s1 (yT s2 hs fr vs hfr) h
        exact ⟨fr2,E2,h1,h2,h3,h4⟩
      · cases h
    · cases h
  · exact KV is hS hfr h
theorem zX {hint:Hint R} {cur:Nat} {q:Option Nat} {k:List AV→ia→Option R} {fr:List AV} {E:Env} {vs:List Value} (hS:St g B w0 I0 E) (hfr:E.L fr vs) (h:W4 hint cur q k fr E.H=some r):
  ∃ fr' E',St g B w0 I0 E'∧E'.L fr' vs∧E'.w=E.w∧k fr' E'.H=some r:=by
 unfold W4 at h
 split at h
 · obtain ⟨fr',E',h1,h2,h3,h4,_⟩:=RF hS hfr h
   obtain ⟨fr2,E2,i1,i2,i3,i4⟩:=KV _ h1 h2 h4
   exact ⟨fr2,E2,i1,i2,i3.trans h3,i4⟩
 · exact ⟨fr,E,hS,hfr,rfl,h⟩
theorem MW {E:Env} {fr:List AV} {vs:List Value} (hS:St g B w0 I0 E) (h:E.L fr vs):oab fr E.H:=by
 have key:∀ {T:Tab} {q n:Nat} {v:Value},(T=tab E.H∨T=Fb)→VR E.w E.I E.m T (.sl q n) v→∃ W,E.H[q]?=some (some W)∧W.n=n:=fun {T q n v} hT hv=>by
  simp only [VR] at hv
  obtain ⟨⟨k,hk⟩,_⟩:=hv
  rcases hT with rfl | rfl
  · unfold tab at hk
    split at hk
    · rename_i W hW
      cases hk
      exact ⟨W,hW,rfl⟩
    · cases hk
  · cases hk
 refine ⟨fun q n hm=>?_,fun q W l hW hb he q' n hm=>?_⟩
 · obtain ⟨j,hj⟩:=List.getElem?_of_mem hm
   obtain ⟨v,_,hv⟩:=kh h j _ hj
   exact key (.inl rfl) hv
 · have hk:=hS.rows q W hW
   rcases hb with hb | ⟨hb,hb2⟩
   rotate_left
   · obtain ⟨j,hj⟩:=List.getElem?_of_mem hm
     obtain ⟨v,_,hv⟩:=kh (hk.gh l hb hb2 he) j _ hj
     exact key (.inl rfl) hv
   have hn:W.n=1:=hk.bx hb
   obtain ⟨_,_,_,_,_,_,_,_,_,hx⟩:=hk.mem (hk.al (.inl (by omega)))
   obtain ⟨j,hj⟩:=List.getElem?_of_mem hm
   obtain ⟨v,_,hv,_⟩:=hx 0 (by omega) j (.sl q' n) (by unfold Row.els;rw [he];exact hj)
   refine key ?_ hv
   unfold dt
   split
   · exact .inr rfl
   · exact .inl rfl
theorem ZX {E:Env} {fr:List AV} {vs:List Value} (h:E.L fr vs):∀ q n,AV.sl q n∈fr→∃ W,E.H[q]?=some (some W)∧W.n=n:=fun q n hm=>by
 obtain ⟨j,hj⟩:=List.getElem?_of_mem hm
 obtain ⟨v,_,hv⟩:=kh h j _ hj
 simp only [VR] at hv
 obtain ⟨⟨k,hk⟩,_⟩:=hv
 unfold tab at hk
 split at hk
 · rename_i W hW
   cases hk
   exact ⟨W,hW,rfl⟩
 · cases hk
theorem CX (live:List (Nat×Option CTy)):∀ (i:Nat) (fr:List AV),(xH live i fr).length=fr.length
 | _,[]=>rfl
 | i,x::xs=>by simp only [xH,List.length_cons,CX live (i+1) xs]
theorem PT {D:Nat→Bool}:∀ (i:Nat) (fr:List AV),∀ x∈kds D (xH [] i fr),x=.top
 | _,[],x,h=>by simp [xH,kds] at h
 | i,y::ys,x,h=>by
  simp only [xH,kds,EY,kd,List.mem_cons] at h
  exact h.elim id (PT (i+1) ys x)
theorem I3 {E:Env}:∀ {l:List AV} {vs:List Value},l.length=vs.length→(∀ x∈l,x=.top)→E.L l vs
 | [],[],_,_=>by simp [Env.L,LR]
 | [],_::_,h,_=>by simp at h
 | _::_,[],h,_=>by simp at h
 | x::xs,v::vs,h,hx=>by
  simp only [Env.L,LR]
  refine ⟨?_,I3 (by simpa using h) fun y hy=>hx y (List.mem_cons_of_mem _ hy)⟩
  rw [hx x List.mem_cons_self]
  simp [VR]
theorem GC (hL:Ub P L) (hP:PureOk P g Γ) (hG:CsOk P g Γ) (hm:P.follows .mixedOrders=true) {hint:Hint R} {n:Nat} {ds:List Deferred} (c:Code):
  ∀ (cur:Nat) (_:ta L Γ hint n c cur) (k:XE→List AV→ia→Option R) (Q:Exit→Act→World→Prop) (fr:List AV) (E:Env) (a:Act),sD L Γ hint n c cur k fr E.H=some r→St g B w0 I0 E→E.L fr a.tmps.toList→a.defers=ds→KOK P g B w0 I0 ds Q k r→c.wp P Q a E.w:=by
 induction c with
 | skip=>intro cur hR k Q fr E a h hS hfr hd hk;simp only [sD] at h;exact wp_skip (hk.nrm fr E a hS hfr hd h)
 | label l=>intro cur hR k Q fr E a h hS hfr hd hk;simp only [sD] at h;exact wp_label (hk.nrm fr E a hS hfr hd h)
 | region id ops draw=>
  intro cur hR k Q fr E a h hS hfr hd hk
  cases draw with
  | false=>
   simp only [sD] at h
   exact wp_region_list (rx hL hP hG (fun fr E a hS hfr hd h=>hk.nrm fr E a hS hfr hd h) (fun av v fr E a hS hfr hv hd h=>by
    unfold Fab at h
    split at h
    · obtain ⟨fr',E',h1,h2,h3,h4,h5⟩:=RF hS hfr h
      exact h3▸hk.pan _ v _ E' a h1 h2 (h5 _ _ (w5 _) (MQ _ _ _ hv)) hd h4
    · obtain ⟨s1,s2⟩:=hS.cut (D:=fun _=>false) (H':=[]) (fun r W h=>by simp at h) (fun r W _ h=>by cases h)
      exact hk.pan _ v _ { E with H:=[] } a s1 (s2.L (Ck _) (cw _ _ _ (QV [] 0 fr _ hfr))) (s2.V (KP _) (MQ _ _ _ hv)) hd h) ops.toList fr E a hS hfr hd h)
  | true=>
   simp only [sD] at h
   split at h
   · rename_i s hs
     obtain ⟨hlen,h⟩:=sa h
     obtain ⟨s1,s2⟩:=hS.at_ (w':={ E.w with drawn:=E.w.drawn+1 }) ⟨rfl,rfl,rfl,Nat.le_refl _,fun _ _=>rfl⟩
     refine wp_mono (Q:=fun e a w=>match e with
      | .panic c=>∀ a':Act,a'.defers=a.defers→a'.tmps.size=a.tmps.size→Q (.panic c) a' w
      | e=>Q e a w) (PrintLast.wp_region_last hm (S:=fun w'=>Below E.w.heap.size { E.w with drawn:=E.w.drawn+1 } w') (ds:=(s.filter fun p=>Nat.beq p.2 2 || Nat.beq p.2 5).map (·.1)) ?_) (fun e a w hh=>by
       cases e with
       | panic c=>exact hh a rfl rfl
       | _=>exact hh)
     exact xg (ds:=ds) (W0:={ E.w with drawn:=E.w.drawn+1 }) (Q:=Q) hL hP hG (fun e a w=>by cases e<;>rfl) (fun fr E a hS hfr hd h=>hk.nrm fr E a hS hfr hd h) (fun av v fr E a hS hl hv hd h=>by
      obtain ⟨s1,s2⟩:=hS.cut (D:=fun _=>false) (H':=[]) (fun r W h=>by simp at h) (fun r W _ h=>by cases h)
      exact hk.pan _ v _ { E with H:=[] } a s1 (I3 (by rw [Yu,CX];rw [hl,Array.length_toList]) (PT 0 fr)) (s2.V (KP _) (MQ _ _ _ hv)) hd h) s false _ _ fr { E with w:={ E.w with drawn:=E.w.drawn+1 } } a (Nat.le_of_ble_eq_true hlen) (fun _=>rfl) s1 (s2.L (Zb _) hfr) hd h
   obtain ⟨hB,h⟩:=sa h
   refine wp_region_quiet (C:=fun w'=>Below E.w.heap.size E.w w') hm hB ⟨rfl,rfl,rfl,Nat.le_refl _,fun _ _=>rfl⟩ ?_
   refine vF (ds:=ds) hL hP hS (fun fr' a' hfr' hd' h' w' hw'=>?_) ops.toList fr a hfr hd h
   obtain ⟨s1,s2⟩:=hS.at_ hw'
   exact hk.nrm fr' { E with w:=w' } a' s1 (s2.L (Zb _) hfr') hd' h'
 | seq x y ihx ihy=>
  intro cur hR k Q fr E a h hS hfr hd hk
  simp only [sD] at h
  simp only [ta] at hR
  cases hj:hint.jn (kQ y) with
  | none=>
   rw [hj] at h hR
   refine wp_seq (ihx cur hR.1 _ _ fr E a h hS hfr hd ⟨fun fr' E' a' h1 h2 h3 h4=>?_,fun id fr' E' a' h1 h2 h3 h4=>hk.ext id fr' E' a' h1 h2 h3 h4,fun fr' E' a' h1 h2 h3 h4=>hk.ret fr' E' a' h1 h2 h3 h4,fun av v fr' E' a' h1 h2 h3 h4 h5=>hk.pan av v fr' E' a' h1 h2 h3 h4 h5⟩)
   exact ihy cur hR.2 k Q fr' E' a' h4 h1 h2 h3 hk
  | some f=>
   rw [hj] at h hR
   obtain ⟨⟨hRx,hRy⟩,hJ⟩:=hR
   simp only at h
   obtain ⟨fr2,E2,s1,s2,s3,s4,_⟩:=RF hS hfr h
   have h':=hJ f hj _ _ _ _ (MW s1 s2) s4
   rw [←s3]
   refine wp_seq (ihx cur hRx _ _ fr2 E2 a h' s1 s2 hd ⟨fun fr' E' a' h1 h2 h3 h4=>?_,fun id fr' E' a' h1 h2 h3 h4=>hk.ext id fr' E' a' h1 h2 h3 h4,fun fr' E' a' h1 h2 h3 h4=>hk.ret fr' E' a' h1 h2 h3 h4,fun av v fr' E' a' h1 h2 h3 h4 h5=>hk.pan av v fr' E' a' h1 h2 h3 h4 h5⟩)
   simp only [H7] at h4
   obtain ⟨fr3,E3,t1,t2,t3,t4,_⟩:=RF h1 h2 h4
   rw [←t3]
   exact ihy cur hRy k Q fr3 E3 a' t4 t1 t2 h3 hk
 | cond c x y ihx ihy=>
  intro cur hR k Q fr E a h hS hfr hd hk
  simp only [sD] at h
  split at h
  · rename_i b he
    have hc:=Wz hfr c
    rw [he,V_b] at hc
    have hset:E.L (Xab fr c b) a.tmps.toList:=by
     cases c with
     | tmp d=>
      refine LS hfr (v:=.bool b) ?_ (V_b.2 rfl)
      have hc':a.tmps.getD d undef=.bool b:=hc
      rw [Array.getElem?_toList]
      cases hg:a.tmps[d]? with
      | none=>rw [Array.getD_eq_getD_getElem?,hg] at hc';simp [undef] at hc'
      | some v=>rw [Array.getD_eq_getD_getElem?,hg] at hc';simpa using hc'
     | _=>exact hfr
    split at h
    · rename_i hb
      subst hb
      exact wp_cond_true hc (ihx cur hR.1 k Q _ E a h hS hset hd hk)
    · rename_i hb
      have:b=false:=by simpa using hb
      subst this
      exact wp_cond_false hc (ihy cur hR.2 k Q _ E a h hS hset hd hk)
  · exact ja h
 | block id c ih=>
  intro cur hR k Q fr E a h hS hfr hd hk
  simp only [sD] at h
  refine wp_block (ih id hR _ _ fr E a h hS hfr hd ⟨fun fr' E' a' h1 h2 h3 h4=>hk.nrm fr' E' a' h1 h2 h3 h4,fun j fr' E' a' h1 h2 h3 h4=>?_,fun fr' E' a' h1 h2 h3 h4=>hk.ret fr' E' a' h1 h2 h3 h4,fun av v fr' E' a' h1 h2 h3 h4 h5=>hk.pan av v fr' E' a' h1 h2 h3 h4 h5⟩)
  simp only [Exit.inBlock]
  cases hj:Nat.beq j id with
  | true=>
   have:j=id:=Nat.eq_of_beq_eq_true hj
   rw [if_pos this]
   simp only [hj,cnd_true] at h4
   exact hk.nrm fr' E' a' h1 h2 h3 h4
  | false=>
   have:j≠id:=Nat.ne_of_beq_eq_false hj
   rw [if_neg this]
   simp only [hj,cnd_false] at h4
   exact hk.ext j fr' E' a' h1 h2 h3 h4
 | loop c ih=>
  intro cur hR k Q fr E a h hS hfr hd hk
  simp only [sD] at h
  have key:∀ (q:Nat) (fr:List AV) (E:Env) (a:Act),NT (hint.live cur) (fun k fr H=>sD L Γ hint n c cur k fr H) k q fr E.H=some r→St g B w0 I0 E→E.L fr a.tmps.toList→a.defers=ds→Code.rounds P c Q q a E.w:=by
   intro q
   induction q with
   | zero=>intro fr E a h;simp only [NT] at h;exact ja h
   | succ q ihq=>
    intro fr E a h hS hfr hd
    simp only [NT] at h
    rw [rounds_succ]
    refine ih cur hR.2 _ _ fr E a h hS hfr hd ⟨fun fr' E' a' h1 h2 h3 h4=>?_,fun id fr' E' a' h1 h2 h3 h4=>hk.ext id fr' E' a' h1 h2 h3 h4,fun fr' E' a' h1 h2 h3 h4=>hk.ret fr' E' a' h1 h2 h3 h4,fun av v fr' E' a' h1 h2 h3 h4 h5=>hk.pan av v fr' E' a' h1 h2 h3 h4 h5⟩
    obtain ⟨fr2,E2,s1,s2,s3,s4,_⟩:=RF h1 h2 h4
    exact s3▸ihq fr2 E2 a' s4 s1 s2 h3
  have run_:∀ (f:(XE→List AV→ia→Option R)→List AV→ia→Option R),hint.run cur=some f→∀ (fr:List AV) (E:Env) (a:Act),St g B w0 I0 E→E.L fr a.tmps.toList→a.defers=ds→
    S3 (hint.live cur) fr E.H (f k)=some r→Code.rounds P c Q n a E.w:=fun f hf fr E a hS hfr hd h=>by
   obtain ⟨fr2,E2,s1,s2,s3,s4,_⟩:=RF hS hfr h
   have:=hR.1 f hf _ _ _ _ (MW s1 s2) s4
   exact s3▸key n _ E2 a this s1 s2 hd
  split at h
  · rename_i f hf
    cases hpl:hint.pl cur with
    | true=>
     rw [hpl,cnd_true] at h
     refine wp_loop_rounds (n+1) ?_
     rw [rounds_succ]
     refine ih cur hR.2 _ _ fr E a h hS hfr hd ⟨fun fr' E' a' h1 h2 h3 h4=>?_,fun id fr' E' a' h1 h2 h3 h4=>hk.ext id fr' E' a' h1 h2 h3 h4,fun fr' E' a' h1 h2 h3 h4=>hk.ret fr' E' a' h1 h2 h3 h4,fun av v fr' E' a' h1 h2 h3 h4 h5=>hk.pan av v fr' E' a' h1 h2 h3 h4 h5⟩
     exact run_ f hf fr' E' a' h1 h2 h3 h4
    | false=>
     rw [hpl,cnd_false] at h
     exact wp_loop_rounds n (run_ f hf fr E a hS hfr hd h)
  · obtain ⟨fr2,E2,s1,s2,s3,s4,_⟩:=RF hS hfr h
    exact wp_loop_rounds n (s3▸key n _ E2 a s4 s1 s2 hd)
 | rangeFunc f ps x y _ _=>intro cur hR k Q fr E a h;simp only [sD] at h;exact ja h
 | exit id=>
  intro cur hR k Q fr E a h hS hfr hd hk
  simp only [sD] at h
  obtain ⟨fr',E',h1,h2,h3,h4⟩:=zX hS hfr h
  exact wp_exit (h3▸hk.ext id fr' E' a h1 h2 hd h4)
 | scope c _=>intro cur hR k Q fr E a h;simp only [sD] at h;exact ja h
 | goto l=>intro cur hR k Q fr E a h;simp only [sD] at h;exact ja h
 | ret=>
  intro cur hR k Q fr E a h hS hfr hd hk
  simp only [sD] at h
  obtain ⟨fr',E',h1,h2,h3,h4⟩:=zX hS hfr h
  exact wp_ret (h3▸hk.ret fr' E' a h1 h2 hd h4)
 | refuse w=>intro cur hR k Q fr E a h;simp only [sD] at h;exact ja h
end
open Go Go.RowKit
theorem TyOk.of_info {P:Program} {t:TypeId} {z:Value} {s b:Nat} (h:(P.info? t).map (fun i=>(i.zero,i.size,i.bytes))=some (some z,s,b)):∃ i,P.info? t=some i∧i.zero=some z∧i.size=s∧i.bytes=b:=by
 cases hi:P.info? t with
 | none=>rw [hi] at h;cases h
 | some i=>rw [hi] at h;simp at h;exact ⟨i,rfl,h.1,h.2.1,h.2.2⟩
def ST (P:Program):Nat→Tys→Prop
 | _,[]=>True
 | t,none::ys=>ST P (t+1) ys
 | t,some y::ys=>TyOk P t y∧ST P (t+1) ys
theorem CJ {P:Program}:∀ {L:Tys} {q:Nat},ST P q L→∀ t y,Oe L t=some y→TyOk P (q+t) y
 | [],q,_,t,y,h=>by simp [Oe] at h
 | none::ys,q,h,0,y,hy=>by simp [Oe] at hy
 | some z::ys,q,h,0,y,hy=>by simp [Oe] at hy;subst hy;exact h.1
 | none::ys,q,h,t+1,y,hy=>by
  have:=CJ (q:=q+1) h t y (by simpa [Oe] using hy)
  rwa [show q+(t+1)=q+1+t by omega]
 | some z::ys,q,h,t+1,y,hy=>by
  have:=CJ (q:=q+1) h.2 t y (by simpa [Oe] using hy)
  rwa [show q+(t+1)=q+1+t by omega]
theorem M1 {P:Program} {L:Tys} (h:ST P 0 L):Ub P L:=fun t y hy=>by
 have:=CJ h t y hy
 rwa [Nat.zero_add] at this
structure Entry where
 f:FuncId
 pc:{R:Type}→List AV→(AV→Option R)→(AV→Option R)→Option R
 x:Option XFun
 c:Option ((R:Type)→List AV→ia→Option ((OutS→Option R)→Option R)):=none
structure EntryOk (P:Program) (g:Glob) (e:Entry):Prop where
 enters:e.x=none→Enters P e.f
 xok:∀ h vs v,e.x=some (.flat h)→h vs=some v→∀ w,(callFunc e.f vs.toArray).run P w=.ok (.value v) w
 xid:e.x=some .ident→∀ x w,(callFunc e.f #[x]).run P w=.ok (.value x) w
 cs:∀ run,e.c=some run→e.x=none∧∀ R args H F k r,run R args H=some F→F k=some r→∃ out,k out=some r∧uZ P g e.f args H out
 ans:e.x=none→e.c=none→∀ (R:Type) (args:List AV) (kk pk:AV→Option R) (r:R),e.pc args kk pk=some r→(∃ av,kk av=some r∧Ew av=true∧Ans P g e.f args (.ret av))∨(∃ av,pk av=some r∧Ew av=true∧Ans P g e.f args (.pan av))
def DY:List Entry→FuncId→Option Entry
 | [],_=>none
 | e::es,f=>cnd (Nat.beq e.f f&&e.c.isNone) (some e) (DY es f)
def k9 (R:Type):List Entry→FuncId→List AV→ia→Option ((OutS→Option R)→Option R)
 | [],_,_,_=>none
 | e::es,f,args,H=>cnd (Nat.beq e.f f) (match e.c with
  | some c=>match c R args H with
   | some r=>some r
   | none=>k9 R es f args H
  | none=>k9 R es f args H) (k9 R es f args H)
def Callees.keep {R:Type} (Γ:Callees R):Callees R:={ Γ with kn:=true }
def Callees.view {R:Type} (Γ:Callees R) (fs:List Nat):Callees R:={ Γ with vw:=fun f=>fs.any (Nat.beq f) }
def da (R:Type) (es:List Entry):Callees R where
 isP f:=match DY es f with
  | some e=>e.x.isNone
  | none=>false
 xc f:=match DY es f with
  | some e=>e.x
  | none=>none
 pc f args kk pk:=match DY es f with
  | some e=>e.pc args kk pk
  | none=>none
 cs:=k9 R es
inductive AllOk (P:Program) (g:Glob):List Entry→Prop
 | nil:AllOk P g []
 | cons {e:Entry} {es:List Entry} (h:EntryOk P g e) (hs:AllOk P g es):AllOk P g (e::es)
section
variable {P:Program} {g:Glob} {L:Tys}
theorem wH:∀ {es:List Entry} {f:FuncId} {e:Entry},AllOk P g es→DY es f=some e→e.f=f∧e.c=none∧EntryOk P g e
 | [],f,e,_,h=>by cases h
 | e0::es,f,e,hall,h=>by
  cases hall with
  | cons h0 hs=>
   simp only [DY] at h
   cases hb:Nat.beq e0.f f&&e0.c.isNone with
   | true=>rw [hb] at h;simp only [cnd_true] at h;cases h;rw [Bool.and_eq_true] at hb;exact ⟨Nat.eq_of_beq_eq_true hb.1,by simpa using hb.2,h0⟩
   | false=>rw [hb] at h;exact wH hs h
theorem pS {R:Type}:∀ {es:List Entry} {f:FuncId} {args:List AV} {H:ia} {F:(OutS→Option R)→Option R},AllOk P g es→k9 R es f args H=some F→Enters P f∧∀ k r,F k=some r→∃ out,k out=some r∧uZ P g f args H out
 | [],f,args,H,res,_,h=>by cases h
 | e0::es,f,args,H,res,hall,h=>by
  cases hall with
  | cons h0 hs=>
   simp only [k9] at h
   cases hb:Nat.beq e0.f f with
   | false=>rw [hb] at h;exact pS hs h
   | true=>
    rw [hb,cnd_true] at h
    have hf:=Nat.eq_of_beq_eq_true hb
    subst hf
    split at h
    · rename_i c hc
      obtain ⟨hx,hcs⟩:=h0.cs c hc
      split at h
      · rename_i r0 hr0
        cases h
        exact ⟨h0.enters hx,fun k r hk=>hcs R args H _ k r hr0 hk⟩
      · exact pS hs h
    · exact pS hs h
theorem ao {R:Type} {es:List Entry} (h:AllOk P g es):PureOk P g (da R es):=by
 refine ⟨fun f hf=>?_,fun f h' vs v hx hv=>?_,fun f hx=>?_,fun f args kk pk r hf hr=>?_⟩
 · simp only [da] at hf
   split at hf
   · rename_i e he
     obtain ⟨rfl,_,hk⟩:=wH h he
     exact hk.enters (by simpa using hf)
   · cases hf
 · simp only [da] at hx
   split at hx
   · rename_i e he
     obtain ⟨rfl,_,hk⟩:=wH h he
     exact hk.xok h' vs v hx hv
   · cases hx
 · simp only [da] at hx
   split at hx
   · rename_i e he
     obtain ⟨rfl,_,hk⟩:=wH h he
     exact hk.xid hx
   · cases hx
 · simp only [da] at hf hr
   split at hf
   · rename_i e he
     obtain ⟨rfl,hc,hk⟩:=wH h he
     rw [he] at hr
     exact hk.ans (by simpa using hf) hc R args kk pk r hr
   · cases hf
theorem jw {R:Type} {es:List Entry} (h:AllOk P g es):CsOk P g (da R es):=⟨fun f args H res hr=>pS h hr⟩
def MK (ntmps:Nat) (args:List AV):List AV:=args++List.replicate (ntmps - args.length) (.b undef)
def Vab (L:Tys) (fr:List AV) (H:ia):ResultVar→Option AV
 | .tmp t=>some (fr.getD t (.b undef))
 | .cell a t=>match Oe L t,fr.getD a (.b undef) with
  | some y,.ptr r i j=>match H[r]? with
   | some (some W)=>xL y (W.els i) j some
   | _=>none
  | _,_=>none
def JP (L:Tys) (fr:List AV) (H:ia):List ResultVar→Option (List AV)
 | []=>some []
 | x::xs=>match Vab L fr H x,JP L fr H xs with
  | some a,some l=>some (a::l)
  | _,_=>none
def aw:List AV→AV
 | [x]=>x
 | l=>.tup l
noncomputable def fnA {R:Type} (L:Tys) (Γ:Callees R) (hint:Hint R) (n:Nat) (fn:Func) (args:List AV) (H:ia) (k:AV→ia→Option R) (pn:AV→ia→Option R):Option R:=
 match fn.body with
 | some c=>sD L Γ hint n c 0 (fun e fr H=>match e with
  | .normal=>match JP L fr H fn.results.toList with
   | some l=>k (aw l) H
   | none=>none
  | .ret=>match JP L fr H fn.results.toList with
   | some l=>k (aw l) H
   | none=>none
  | .panic v=>pn v H
  | .exit _=>none) (MK fn.ntmps args) H
 | none=>none
variable {B:Nat→Prop} {w0:World} {I0:Nat→Prop} {R:Type} {r:R}
theorem TX (hL:Ub P L) {E:Env} (hS:St g B w0 I0 E) {fr:List AV} {tmps:Array Value} (hfr:E.L fr tmps.toList):∀ {rs:List ResultVar} {l:List AV},JP L fr E.H rs=some l→∃ vs:List Value,(rs.mapM (m:=Sem) fun
   | .tmp t=>pure (tmps.getD t undef)
   | .cell a t=>do loadVar t (←asAddr (tmps.getD a undef))).run P E.w=.ok vs E.w∧E.L l vs
 | [],l,h=>by simp only [JP] at h;cases h;exact ⟨[],rfl,by simp [Env.L,LR]⟩
 | x::xs,l,h=>by
  simp only [JP] at h
  split at h
  · rename_i a l' ha hl
    cases h
    obtain ⟨vs,h1,h2⟩:=TX hL hS hfr hl
    have htmp:∀ t,E.V (fr.getD t (.b undef)) (tmps.getD t undef):=fun t=>Wz (a:={ tmps,defers:=[] }) hfr (.tmp t)
    have key:∃ v,(match x with
      | .tmp t=>(pure (tmps.getD t undef):Sem Value)
      | .cell a t=>do loadVar t (←asAddr (tmps.getD a undef))).run P E.w=.ok v E.w∧E.V a v:=by
     cases x with
     | tmp t=>simp only [Vab] at ha;cases ha;exact ⟨_,rfl,htmp t⟩
     | cell q t=>
      simp only [Vab] at ha
      split at ha
      · rename_i _ _ y r' i j hy he
        have hq:=htmp q
        rw [he] at hq
        have hload:=P6 (P:=P) (k:=some) (r:=a) (ev:=fun _=>.ptr r' i j) (ρ:=fun _=>tmps.getD q undef) (t:=t) (a:=.tmp 0) hL hS.rows hS.isz (fun _=>hq) (by
         simp only [opP,hy]
         exact ha)
        obtain ⟨av,v,e1,e2,e3⟩:=hload
        cases e1
        refine ⟨v,?_,e2⟩
        have:=e3 E.w (Below.refl _ _)
        simp only [Env.V,VR] at hq
        obtain ⟨_,_,_,_,_,_,hv⟩:=hq
        unfold Instr.loadAt at this
        show (do loadVar t (←asAddr (tmps.getD q undef)):Sem Value).run P E.w=_
        rw [hv] at this ⊢
        simpa [Instr.sureAddr,asAddr] using this
      · cases ha
    obtain ⟨v,k1,k2⟩:=key
    refine ⟨v::vs,?_,by simp only [Env.L,LR];exact ⟨k2,h2⟩⟩
    simp only [List.mapM_cons,Sem.run_bind,Sem.run_pure]
    rw [k1]
    simp only [Result.andThen_ok,h1,Sem.run_pure]
  · cases h
theorem Sw (hL:Ub P L) {E:Env} (hS:St g B w0 I0 E) {fr:List AV} {tmps:Array Value} (hfr:E.L fr tmps.toList) {fn:Func} {l:List AV} (h:JP L fr E.H fn.results.toList=some l):
  ∃ v,(results fn tmps).run P E.w=.ok v E.w∧E.V (aw l) v:=by
 obtain ⟨vs,h1,h2⟩:=TX hL hS hfr h
 have hm:(fn.results.mapM (m:=Sem) fun
   | .tmp t=>pure (tmps.getD t undef)
   | .cell a t=>do loadVar t (←asAddr (tmps.getD a undef))).run P E.w=.ok vs.toArray E.w:=by
  rw [Array.mapM_eq_mapM_toList,Sem.run_map,h1];rfl
 have hr:(results fn tmps).run P E.w=.ok (if h:vs.toArray.size=1 then vs.toArray[0] else .tuple vs.toArray) E.w:=by
  unfold results
  rw [Sem.run_bind]
  exact Eq.trans (congrArg (fun x=>Result.andThen x _) hm) rfl
 refine ⟨_,hr,?_⟩
 rcases vs with _ | ⟨v,_ | ⟨v2,vs⟩⟩
 · cases l with
   | nil=>simp only [aw,Env.V,VR];exact ⟨#[],by simp,h2⟩
   | cons x xs=>simp [Env.L,LR] at h2
 · cases l with
   | nil=>simp [Env.L,LR] at h2
   | cons x xs=>
    cases xs with
    | nil=>simp only [Env.L,LR] at h2;exact h2.1
    | cons y ys=>simp [Env.L,LR] at h2
 · cases l with
   | nil=>simp [Env.L,LR] at h2
   | cons x xs=>
    cases xs with
    | nil=>simp [Env.L,LR] at h2
    | cons y ys=>simp only [aw,Env.V,VR];exact ⟨_,by simp,h2⟩
theorem pX (hL:Ub P L) {Γ:Callees R} (hP:PureOk P g Γ) (hG:CsOk P g Γ) (hm:P.follows .mixedOrders=true) {hint:Hint R} {n:Nat} {f:FuncId} {fn:Func} (hf:P.funcs[f]?=some fn) (hR:∀ c,fn.body=some c→ta L Γ hint n c 0)
  {args:List AV} {vs:List Value} {E:Env} (hS:St g B w0 I0 E) (hargs:E.L args vs) {k:AV→ia→Option R} {pn:AV→ia→Option R} (h:fnA L Γ hint n fn args E.H k pn=some r) {Q:Ending→World→Prop}
  (hk:∀ av v E',St g B w0 I0 E'→E'.V av v→k av E'.H=some r→Q (.returned v) E'.w)
  (hp:∀ av v E',St g B w0 I0 E'→E'.V av v→pn av E'.H=some r→Q (.panicked [{ v,recovered:=false }]) E'.w):Calls P f vs.toArray E.w Q:=by
 unfold fnA at h
 split at h
 · rename_i c hc
   refine calls_of_wp hf hc ?_
   have hlen:args.length=vs.length:=Gi hargs
   refine GC (ds:=[]) hL hP hG hm c 0 (hR c hc) _ _ _ E _ h hS ?_ rfl ⟨fun fr E' a h1 h2 h3 h4=>?_,fun id fr E' a h1 h2 h3 h4=>?_,fun fr E' a h1 h2 h3 h4=>?_,fun av v fr E' a h1 _ h2 h3 h4=>?_⟩
   · unfold MK
     simp only [Array.toList_append,Array.toList_replicate,List.size_toArray,hlen]
     refine nx hargs ?_
     generalize fn.ntmps - vs.length=q
     induction q with
     | zero=>simp [Env.L,LR]
     | succ q ih=>simp only [List.replicate_succ,Env.L,LR];exact ⟨V_b.2 rfl,ih⟩
   · simp only at h4
     split at h4
     · rename_i l hl
       obtain ⟨v,hv,hV⟩:=Sw hL h1 h2 hl
       exact ⟨h3,v,hv,hk _ v E' h1 hV h4⟩
     · cases h4
   · simp only at h4;cases h4
   · simp only at h4
     split at h4
     · rename_i l hl
       obtain ⟨v,hv,hV⟩:=Sw hL h1 h2 hl
       exact ⟨h3,v,hv,hk _ v E' h1 hV h4⟩
     · cases h4
   · exact ⟨h3,hp av v E' h1 h2 h4⟩
 · cases h
def aa (fn:Func):Code:=fn.body.getD .skip
theorem Pa {R:Type} {L:Tys} {Γ:Callees R} {hint:Hint R} {n:Nat} {fn:Func} (h:ta L Γ hint n (aa fn) 0):∀ c,fn.body=some c→ta L Γ hint n c 0:=fun c hc=>by
 have:aa fn=c:=by unfold aa;rw [hc];rfl
 exact this▸h
def Da:List Nat→Code→Code
 | [],c=>c
 | q::p,c=>match c with
  | .seq a b=>Da p (cnd (Nat.beq q 0) a b)
  | .cond _ a b=>Da p (cnd (Nat.beq q 0) a b)
  | .block _ c=>Da p c
  | .loop c=>Da p c
  | _=>.skip
def lZ {R:Type} (k:AV→Option R):AV→ia→Option R:=fun v H=>cnd (Ew (Qt H v)) (k (Qt H v)) none
theorem GW {E:Env} {c:AV→Out} {out:Out} {av:AV} {v:Value} (hS:St g B w0 I0 E) (hV:E.V av v) (h:lZ (fun v=>some (c v)) av E.H=some out):c (Qt E.H av)=out∧Ew (Qt E.H av)=true∧
  VR E.w (fun b=>E.I b∨(¬B b∧b<E.w.heap.size)) sw Fb (Qt E.H av) v:=by
 unfold lZ at h
 obtain ⟨hp,h⟩:=sa h
 refine ⟨by simpa using h,hp,?_⟩
 exact Cab (qM hp (cY hS (J:=fun b=>E.I b∨(¬B b∧b<E.w.heap.size)) (fun b hb=>.inl hb) (fun b h1 h2=>.inr ⟨h1,h2⟩) hV))
theorem ra (hL:Ub P L) {es:List Entry} (hes:AllOk P g es) (hm:P.follows .mixedOrders=true) {hint:Hint Out} {n:Nat} {f:FuncId} {fn:Func} (hf:P.funcs[f]?=some fn) (hR:∀ c,fn.body=some c→ta L (da Out es) hint n c 0) {args:List AV} {out:Out}
  (h:fnA L (da Out es) hint n fn args [] (lZ fun v=>some (.ret v)) (lZ fun v=>some (.pan v))=some out):Ans P g f args out:=by
 intro w I vs hI hg hn hargs
 have hS:St g (fun k=>k<w.heap.size) w I { w:=w,I:=I,m:=sw,H:=[] }:=⟨Kept.refl _ _,fun k h=>h,fun k hk=>Nat.lt_of_lt_of_le hk hn,hn,hg,hI,fun b h=>h,fun b h=>.inl h,fun r W h=>by simp at h,fun r r' W W' h=>by simp at h,fun r W h=>by simp at h⟩
 have htab:tab []=Fb:=by funext q;simp [tab,Fb]
 refine pX hL (ao hes) (jw hes) hm hf hR hS (args:=args) (vs:=vs) (by simp only [Env.L,htab];exact hargs) h (fun av v E' hS' hV hh=>?_) (fun av v E' hS' hV hh=>?_)
 · obtain ⟨rfl,h2,h3⟩:=GW hS' hV hh
   exact ⟨v,_,rfl,hS'.below.below (fun k h=>h),fun b hb=>.inl (hS'.imono b hb),fun b hb=>hb.elim (fun h=>(hS'.ifresh b h).imp_right Nat.le_of_not_lt) (fun h=>.inr (Nat.le_of_not_lt h.1)),fun b hb=>hb.elim (fun h=>hS'.isz b h) (fun h=>h.2),h3⟩
 · obtain ⟨rfl,h2,h3⟩:=GW hS' hV hh
   exact ⟨v,_,rfl,hS'.below.below (fun k h=>h),fun b hb=>.inl (hS'.imono b hb),fun b hb=>hb.elim (fun h=>(hS'.ifresh b h).imp_right Nat.le_of_not_lt) (fun h=>.inr (Nat.le_of_not_lt h.1)),fun b hb=>hb.elim (fun h=>hS'.isz b h) (fun h=>h.2),h3⟩
def gh1:AV→AV
 | .ptr r i j=>.ptr r i j
 | _=>.top
def Zt (args:List AV):Row:=⟨0,0,0,.box (args.map gh1),true,false,false,false⟩
def noG (H:ia):Bool:=H.all fun o=>match o with
 | some W=>!(Nat.beq W.k 0) || W.pf
 | none=>true
def hbb (pan:Bool) (ga:List AV) (v:AV) (H:ia) (o:List Nat):Option OutS:=cnd (noG (XX o H)) (some ⟨pan,kJ (rQ o) ga,ren (rQ o) v,XX o H⟩) none
def mQ:Option Row→Option (List AV)
 | some ⟨_,0,_,.box l,_,false,_,_⟩=>some l
 | _=>none
def VM (H:ia):Option (List AV):=match FT 0 H with
 | [gi]=>mQ (Mj H gi)
 | _=>none
theorem tJ {E:Env} {l:List AV} (hS:St g B w0 I0 E) (h:VM E.H=some l):E.L l g.gs:=by
 unfold VM at h
 split at h
 · rename_i gi hgi
   generalize hr:Mj E.H gi=o at h
   unfold mQ at h
   split at h
   · cases h
     have hW:=rowAtH_some.1 hr
     have hga:=(hS.rows _ _ hW).gh l rfl rfl rfl
     rwa [hS.gse _ _ hW rfl rfl] at hga
   · cases h
 · cases h
def D9 (pan:Bool) (v:AV) (H:ia):Option OutS:=match VM H with
 | some ga=>hbb pan ga v H (order (ga++[v]) H)
 | _=>none
def w6 {R:Type}:List Nat→AV→ia→(AV→ia→Option R)→Option R
 | [],v,H,k=>k v H
 | r::rs,v,H,k=>match Mj H r with
  | some W=>match W.ex with
   | .typ τ xs=>cnd (W.pf&&Nat.beq W.k τ.size) (w6 rs (frS r (.snap τ W.n xs) v) (tD H r) k) (w6 rs v H k)
   | _=>w6 rs v H k
  | none=>w6 rs v H k
theorem sJ {k:AV→ia→Option R}:∀ (rs:List Nat) {E:Env} {av:AV} {v:Value},St g B w0 I0 E→E.V av v→w6 rs av E.H k=some r→∃ E2 av2,E2.w=E.w∧St g B w0 I0 E2∧E2.V av2 v∧k av2 E2.H=some r
 | [],E,av,v,hS,hV,h=>⟨E,av,rfl,hS,hV,h⟩
 | r'::rs,E,av,v,hS,hV,h=>by
  simp only [w6] at h
  split at h
  · rename_i W hW
    have hW:=rowAtH_some.1 hW
    split at h
    · rename_i τ xs hex
      cases hc:W.pf&&Nat.beq W.k τ.size with
      | false=>rw [hc] at h;exact sJ rs hS hV h
      | true=>
       rw [hc,cnd_true] at h
       rw [Bool.and_eq_true] at hc
       obtain ⟨s1,s2⟩:=hS.freeze hW
       have hs:∀ n v,E.V (.sl r' n) v→({ E with I:=R3 E r',H:=tD E.H r' }:Env).V (.snap τ W.n xs) v:=fun n v hv=>by
        have hn:n=W.n:=by
         have:=hv
         simp only [Env.V,VR] at this
         obtain ⟨⟨kk,hT⟩,_⟩:=this
         exact (ft hW hT).2
        subst hn
        exact HC hS hW hex hc.1 (Nat.eq_of_beq_eq_true hc.2) hv
       obtain ⟨E2,av2,h1,h2,h3,h4⟩:=sJ rs s1 (J0 s2 hs av v hV) h
       exact ⟨E2,av2,h1,h2,h3,h4⟩
    · exact sJ rs hS hV h
  · exact sJ rs hS hV h
def Kab (v:AV) (i j:Nat):Option AV:=match v with
 | .tup l=>match l[i]? with
  | some (.agg cs)=>cs[j]?
  | _=>none
 | .agg cs=>cs[j]?
 | _=>none
def zab (v:AV) (i j:Nat) (x:AV):AV:=match v with
 | .tup l=>match l[i]? with
  | some (.agg cs)=>.tup (l.set i (.agg (cs.set j x)))
  | _=>v
 | .agg cs=>.agg (cs.set j x)
 | v=>v
theorem j8 {E E2:Env} (hx:Ext kx E E2) {av x:AV} {i j:Nat} {u v:Value} (h:E.V av v) (hg:Kab av i j=some (.b u)) (hn:E2.V x u):E2.V (zab av i j x) v:=by
 have agg:∀ (cs:List AV) (a:Array Value),E.L cs a.toList→cs[j]?=some (.b u)→E2.L (cs.set j x) a.toList:=fun cs a hl hj=>by
  obtain ⟨u',h1,h2⟩:=kh hl j _ hj
  simp only [VR] at h2
  subst h2
  exact LS (hx.L (Zb _) hl) h1 hn
 cases av with
 | agg cs=>
  simp only [Env.V,VR] at h
  obtain ⟨a,rfl,h⟩:=h
  simp only [zab,Env.V,VR]
  exact ⟨a,rfl,agg cs a h hg⟩
 | tup l=>
  have h0:=h
  simp only [Env.V,VR] at h
  obtain ⟨a,rfl,h⟩:=h
  simp only [Kab] at hg
  split at hg
  · rename_i cs hc
    simp only [zab,hc,Env.V,VR]
    obtain ⟨y,h1,h2⟩:=kh h i _ hc
    simp only [VR] at h2
    obtain ⟨a2,rfl,h2⟩:=h2
    refine ⟨a,rfl,LS (hx.L (Zb _) h) h1 ?_⟩
    simp only [Env.V,VR]
    exact ⟨a2,rfl,agg cs a2 h2 hg⟩
  · cases hg
 | _=>cases hg
def X1 {R:Type} (L:Tys):List (Nat×Nat×TypeId)→AV→ia→(AV→ia→Option R)→Option R
 | [],v,H,k=>k v H
 | (i,j,e)::ps,v,H,k=>match Kab v i j with
  | some (.b (.slice none 0 0))=>match Oe L e with
   | some ye=>X1 L ps (zab v i j (.sl H.length 0)) (H++[some (vL L e ye)]) k
   | none=>none
  | _=>X1 L ps v H k
theorem zR {k:AV→ia→Option R}:∀ (ps:List (Nat×Nat×TypeId)) {E:Env} {av:AV} {v:Value},St g B w0 I0 E→E.V av v→X1 L ps av E.H k=some r→∃ E2 av2,E2.w=E.w∧St g B w0 I0 E2∧E2.V av2 v∧k av2 E2.H=some r
 | [],E,av,v,hS,hV,h=>⟨E,av,rfl,hS,hV,h⟩
 | (i,j,e)::ps,E,av,v,hS,hV,h=>by
  simp only [X1] at h
  split at h
  · rename_i hg
    split at h
    · rename_i ye hye
      obtain ⟨s1,s2⟩:=hS.ghostC (W:=vL L e ye) [] 1 (fun hc=>(by cases hc)) rfl rfl rfl (fun l _ hp=>(by cases hp)) (fun _ hp=>(by cases hp))
      obtain ⟨E2,av2,h1,h2,h3,h4⟩:=zR ps s1 (j8 s2 hV hg (x:=.sl E.H.length 0) (by
       simp only [Env.V,VR]
       refine ⟨⟨ye.size,by simp [tab,vL,ff]⟩,?_⟩
       rw [Oc]
       simp)) h
      exact ⟨E2,av2,h1,h2,h3,h4⟩
    · cases h
  · exact zR ps hS hV h
def yW (H:ia) (r:Nat) (W:Row) (l:List AV) (j:Nat) (x:AV):ia:=H.set r (some { W with ex:=.box (l.set j x),pf:=false })
def K7 (L:Tys) (t j:Nat) (how:How) (r:Nat) (av:AV) (H:ia):ia:=match Mj H r with
 | some W=>cnd (Nat.beq W.t t&&W.box&&Nat.blt 0 W.k) (match W.ex with
  | .box l=>match l[j]?,how with
   | some (.b (.slice none 0 0)),.prm e=>match Oe L e with
    | some ye=>yW (H++[some (vL L e ye)]) r W l j (.sl H.length 0)
    | none=>H
   | some (.b (.slice none 0 0)),.frz τ=>yW H r W l j (.snap τ 0 (fun _=>Ba τ))
   | some (.sl q n),.frz _=>match Mj H q with
    | some V=>match V.ex with
     | .typ σ xs=>cnd (V.pf&&Nat.beq V.k σ.size&&!W.pf&&rf (fun p=>!(Nat.beq p q)) av) (match Mj (tD H q) r with
      | some W2=>match W2.ex with
       | .box l2=>yW (tD H q) r W2 l2 j (.snap σ V.n xs)
       | _=>H
      | none=>H) H
     | _=>H
    | none=>H
   | _,_=>H
  | _=>H) H
 | none=>H
def M7 (L:Tys) (t j:Nat) (how:How) (av:AV):Nat→ia→ia
 | 0,H=>H
 | r+1,H=>M7 L t j how av r (K7 L t j how r av H)
def m5 (L:Tys) (av:AV):List (TypeId×Nat×How)→ia→ia
 | [],H=>H
 | (t,j,how)::ns,H=>m5 L av ns (M7 L t j how av H.length H)
section
variable {P:Program} {L:Tys} {g:Glob} {B:Nat→Prop} {w0:World} {I0:Nat→Prop} {E:Env}
theorem l8 {H:ia} {r:Nat} {W W':Row} (hW:H[r]?=some (some W)) (hk:W'.k=W.k) (hn:W'.n=W.n):tab (H.set r (some W'))=tab H:=by
 funext q
 unfold tab
 rw [List.getElem?_set]
 by_cases hq:r=q
 · subst hq
   rw [if_pos rfl,if_pos (List.getElem?_eq_some_iff.1 hW).1,hW]
   show some (W'.k,W'.n)=some (W.k,W.n)
   rw [hk,hn]
 · rw [if_neg hq]
theorem St.red (h:St g B w0 I0 E) {r:Nat} {W:Row} (hW:E.H[r]?=some (some W)) (hk:0<W.k) (hbx:W.box=true) {l:List AV} (hl:W.ex=.box l) {j:Nat} {x:AV}
  (hx:∀ v,(∃ arr fz,E.w.heap[(E.m r).blk]?=some (.cells arr W.t fz)∧arr[j]?=some v)→E.V x v):
  St g B w0 I0 { E with H:=yW E.H r W l j x }∧Ext kx E { E with H:=yW E.H r W l j x }:=by
 have ht:tab (yW E.H r W l j x)=tab E.H:=l8 hW rfl rfl
 have hx':Ext kx E { E with H:=yW E.H r W l j x }:=⟨fun b hb=>⟨hb,rfl⟩,fun q p hp _=>⟨by show tab (yW E.H r W l j x) q=_;rw [ht];exact hp,rfl⟩⟩
 have hget:∀ q V,(yW E.H r W l j x)[q]?=some (some V)→(q≠r∧E.H[q]?=some (some V))∨(q=r∧V={ W with ex:=.box (l.set j x),pf:=false }):=fun q V hV=>by
  unfold yW at hV
  rw [List.getElem?_set] at hV
  by_cases hq:r=q
  · subst hq
    rw [if_pos rfl,if_pos (List.getElem?_eq_some_iff.1 hW).1] at hV
    cases hV
    exact .inr ⟨rfl,rfl⟩
  · rw [if_neg hq] at hV
    exact .inl ⟨Ne.symm hq,hV⟩
 have hk0:=h.rows r W hW
 refine ⟨⟨h.below,h.hB,h.hn,h.gn,h.glob,h.isz,h.imono,h.ifresh,fun q V hV=>?_,fun q q' V V' hV hV' ha ha' hb=>?_,fun q V hV hz hp=>?_⟩,hx'⟩
 · rcases hget q V hV with ⟨_,hV⟩ | ⟨hqr,hV2⟩
   · exact (h.rows q V hV).ext hx' rfl rfl (fun h1 _=>h1) (.inr fun _ _ _ _ _=>Lj _) (fun _ _ _=>Zb _)
   · subst hV2
     rw [hqr]
     refine ⟨hk0.al,fun i hi=>?_,hk0.bx,fun l' h0 _ _=>absurd h0 (by show W.k≠0;omega),fun ha=>?_,hk0.nn⟩
     · have:=hk0.len i hi
       unfold Row.els at this ⊢
       rw [hl] at this
       simpa [Els.at'] using this
     · obtain ⟨k1,k2,k3,arr,fz,k4,k5,k6,k6',k7⟩:=hk0.mem ha
       refine ⟨k1,k2,k3,arr,fz,k4,k5,k6,k6',fun i hi j' y hy=>?_⟩
       have hy:(l.set j x)[j']?=some y:=hy
       have hv:∀ y',l[j']?=some y'→∃ v,arr[i*W.k+j']?=some v∧VR E.w E.I E.m (dt W (tab E.H)) y' v∧v.oneCell'=true:=fun y' hy'=>k7 i hi j' y' (by unfold Row.els;rw [hl];exact hy')
       have hT:∀ y' v,E.V y' v→VR E.w E.I E.m (dt { W with ex:=.box (l.set j x),pf:=false } (tab (yW E.H r W l j x))) y' v:=fun y' v hv=>by
        unfold dt
        rw [if_neg (by simp),ht];exact hv
       rw [List.getElem?_set] at hy
       by_cases hj:j=j'
       · subst hj
         rw [if_pos rfl] at hy
         split at hy
         · rename_i hlt
           cases hy
           obtain ⟨v,h1,h2,h3⟩:=hv l[j] (List.getElem?_eq_getElem hlt)
           have hn:=hk0.bx hbx
           obtain rfl:i=0:=by have:i<W.n:=hi;omega
           exact ⟨v,h1,hT _ _ (hx v ⟨arr,fz,k4,by simpa using h1⟩),h3⟩
         · cases hy
       · rw [if_neg hj] at hy
         obtain ⟨v,h1,h2,h3⟩:=hv y hy
         exact ⟨v,h1,hT y v (lV h2),h3⟩
 · have old:∀ q V,(yW E.H r W l j x)[q]?=some (some V)→∃ V0,E.H[q]?=some (some V0):=fun q V hV=>by
    rcases hget q V hV with ⟨_,hV⟩ | ⟨hqr,_⟩
    · exact ⟨V,hV⟩
    · rw [hqr];exact ⟨W,hW⟩
   obtain ⟨V0,hV0⟩:=old q V hV
   obtain ⟨V1,hV1⟩:=old q' V' hV'
   exact h.inj q q' V0 V1 hV0 hV1 ha ha' hb
 · rcases hget q V hV with ⟨_,hV⟩ | ⟨hqr,hV2⟩
   · exact h.gse q V hV hz hp
   · subst hV2
     exact absurd hz (by show W.k≠0;omega)
theorem St.box_val (h:St g B w0 I0 E) {r:Nat} {W:Row} (hW:E.H[r]?=some (some W)) (hb:W.box=true) {l:List AV} (hl:W.ex=.box l) {j:Nat} {y:AV} (hy:l[j]?=some y) {v:Value}
  (hv:∃ arr fz,E.w.heap[(E.m r).blk]?=some (.cells arr W.t fz)∧arr[j]?=some v):E.V y v:=by
 have hk0:=h.rows r W hW
 have hn:=hk0.bx hb
 obtain ⟨k1,k2,k3,arr,fz,k4,k5,k6,k6',k7⟩:=hk0.mem (hk0.al (.inl (by omega)))
 obtain ⟨arr2,fz2,e1,e2⟩:=hv
 rw [k4] at e1
 have e1:=(Obj.cells.inj (Option.some.inj e1)).1
 subst e1
 obtain ⟨u,h1,h2,_⟩:=k7 0 (by omega) j y (by unfold Row.els;rw [hl];exact hy)
 rw [Nat.zero_mul,Nat.zero_add,e2] at h1
 cases h1
 exact lV h2
theorem n5 (h:St g B w0 I0 E) {av:AV} {v:Value} (hv:E.V av v) (L:Tys) (t j:Nat) (how:How) (r:Nat):
  ∃ E2,E2.w=E.w∧St g B w0 I0 E2∧E2.V av v∧E2.H=K7 L t j how r av E.H:=by
 have same:∃ E2,E2.w=E.w∧St g B w0 I0 E2∧E2.V av v∧E2.H=E.H:=⟨E,rfl,h,hv,rfl⟩
 unfold K7
 split
 · rename_i W hW
   have hW:=rowAtH_some.1 hW
   cases hc:Nat.beq W.t t&&W.box&&Nat.blt 0 W.k with
   | false=>exact same
   | true=>
    rw [cnd_true]
    simp only [Bool.and_eq_true] at hc
    obtain ⟨⟨_,hb⟩,hk⟩:=hc
    have hk:0<W.k:=Nat.le_of_ble_eq_true hk
    split
    · rename_i l hl
      split
      · rename_i e hj
        split
        · rename_i ye hye
          obtain ⟨s1,s2⟩:=h.ghostC (W:=vL L e ye) [] 1 (fun hc=>(by cases hc)) rfl rfl rfl (fun l _ hp=>(by cases hp)) (fun _ hp=>(by cases hp))
          have hW1:(E.H++[some (vL L e ye)])[r]?=some (some W):=by
           rw [List.getElem?_append_left (List.getElem?_eq_some_iff.1 hW).1];exact hW
          have hmr:upd E.m E.H.length ⟨0,1,false,[]⟩ r=E.m r:=xC _ _ (by have:=(List.getElem?_eq_some_iff.1 hW).1;omega)
          obtain ⟨t1,t2⟩:=s1.red (r:=r) (W:=W) hW1 hk hb hl (j:=j) (x:=.sl E.H.length 0) (fun u hu=>by
           have hu':∃ arr fz,E.w.heap[(upd E.m E.H.length ⟨0,1,false,[]⟩ r).blk]?=some (.cells arr W.t fz)∧arr[j]?=some u:=hu
           rw [hmr] at hu'
           have hu:=h.box_val hW hb hl hj hu'
           simp only [Env.V,VR] at hu
           subst hu
           simp only [Env.V,VR]
           refine ⟨⟨ye.size,by simp [tab,vL,ff]⟩,?_⟩
           rw [Oc]
           simp)
          exact ⟨{ w:=E.w,I:=E.I,m:=upd E.m E.H.length ⟨0,1,false,[]⟩,H:=yW (E.H++[some (vL L e ye)]) r W l j (.sl E.H.length 0) },rfl,t1,t2.V (Lj _) (s2.V (Lj _) hv),rfl⟩
        · exact same
      · rename_i τ hj
        obtain ⟨t1,t2⟩:=h.red hW hk hb hl (j:=j) (x:=.snap τ 0 (fun _=>Ba τ)) (fun u hu=>by
         have hu:=h.box_val hW hb hl hj hu
         simp only [Env.V,VR] at hu
         subst hu
         simp only [Env.V,mr]
         exact ⟨none,0,rfl,Nat.le_refl _,fun h0=>absurd h0 (Nat.lt_irrefl _)⟩)
        exact ⟨{ E with H:=yW E.H r W l j (.snap τ 0 (fun _=>Ba τ)) },rfl,t1,t2.V (Lj _) hv,rfl⟩
      · rename_i q n τ hj
        split
        · rename_i V hV
          have hV:=rowAtH_some.1 hV
          split
          · rename_i σ xs hex
            cases hc:V.pf&&Nat.beq V.k σ.size&&!W.pf&&rf (fun p=>!(Nat.beq p q)) av with
            | false=>exact same
            | true=>
             rw [cnd_true]
             simp only [Bool.and_eq_true] at hc
             obtain ⟨⟨⟨hp,hk2⟩,hwp⟩,hrf⟩:=hc
             obtain ⟨s1,s2⟩:=h.freeze hV
             split
             · rename_i W2 hW2
               have hW2:=rowAtH_some.1 hW2
               split
               · rename_i l2 hl2
                 have hqr:q≠r:=fun e=>by
                  subst e
                  rw [hW] at hV
                  cases hV
                  rw [hl] at hex;cases hex
                 have e2:W2=Ry (fun p=>!(Nat.beq p q)) W:=by
                  have h9:=hW2
                  unfold tD at h9
                  rw [List.getElem?_set,if_neg hqr,ef,hW] at h9
                  simpa using h9.symm
                 obtain ⟨t1,t2⟩:=s1.red (r:=r) (W:=W2) hW2 (by rw [e2];exact hk) (by rw [e2];exact hb) hl2 (j:=j) (x:=.snap σ V.n xs) (fun u hu=>by
                  have ht:W2.t=W.t:=by rw [e2];rfl
                  rw [ht] at hu
                  have hu:=h.box_val hW hb hl hj hu
                  have hn:n=V.n:=by
                   have:=hu
                   simp only [Env.V,VR] at this
                   obtain ⟨⟨kk,hT⟩,_⟩:=this
                   exact (ft hV hT).2
                  subst hn
                  exact HC h hV hex hp (Nat.eq_of_beq_eq_true hk2) hu)
                 exact ⟨{ w:=E.w,I:=R3 E q,m:=E.m,H:=yW (tD E.H q) r W2 l2 j (.snap σ V.n xs) },rfl,t1,t2.V (Lj _) (s2.V hrf hv),rfl⟩
               · exact same
             · exact same
          · exact same
        · exact same
      · exact same
    · exact same
 · exact same
theorem FX (L:Tys) (t j:Nat) (how:How) (av:AV) (v:Value):∀ (n:Nat) {E:Env},St g B w0 I0 E→E.V av v→∃ E2,E2.w=E.w∧St g B w0 I0 E2∧E2.V av v∧E2.H=M7 L t j how av n E.H
 | 0,E,h,hv=>⟨E,rfl,h,hv,rfl⟩
 | r+1,E,h,hv=>by
  obtain ⟨E1,e1,h1,v1,k1⟩:=n5 h hv L t j how r
  obtain ⟨E2,e2,h2,v2,k2⟩:=FX L t j how av v r h1 v1
  exact ⟨E2,e2.trans e1,h2,v2,by rw [k2,k1];rfl⟩
theorem tR (L:Tys) (av:AV) (v:Value):∀ (ns:List (TypeId×Nat×How)) {E:Env},St g B w0 I0 E→E.V av v→∃ E2,E2.w=E.w∧St g B w0 I0 E2∧E2.V av v∧E2.H=m5 L av ns E.H
 | [],E,h,hv=>⟨E,rfl,h,hv,rfl⟩
 | (t,j,how)::ns,E,h,hv=>by
  obtain ⟨E1,e1,h1,v1,k1⟩:=FX L t j how av v E.H.length h hv
  obtain ⟨E2,e2,h2,v2,k2⟩:=tR L av v ns h1 v1
  exact ⟨E2,e2.trans e1,h2,v2,by rw [k2,k1];rfl⟩
end
def L7 {R:Type} (L:Tys) (ns:List (TypeId×Nat×How)) (v:AV) (H:ia) (k:AV→ia→Option R):Option R:=match ns with
 | []=>k v H
 | n::ns=>k v (m5 L v (n::ns) H)
def Hab {R:Type} (L:Tys) (hint:Hint OutS) (args:List AV) (H:ia) (k:List AV→ia→Option R):Option R:=
 cnd hint.na (w6 (E5 (.tup args)) (.tup args) H fun v H=>L7 L hint.ne v H fun v H=>match v with
  | .tup args=>k args H
  | _=>none) (match hint.ne with
  | []=>k args H
  | n::ns=>k args (m5 L (.tup args) (n::ns) H))
theorem EX {L:Tys} {g:Glob} {B:Nat→Prop} {w0:World} {I0:Nat→Prop} {R:Type} {r:R} {k:AV→ia→Option R} {ns:List (TypeId×Nat×How)} {E:Env} {av:AV} {v:Value} (h:St g B w0 I0 E) (hv:E.V av v) (hk:L7 L ns av E.H k=some r):
  ∃ E2,E2.w=E.w∧St g B w0 I0 E2∧E2.V av v∧k av E2.H=some r:=by
 cases ns with
 | nil=>exact ⟨E,rfl,h,hv,hk⟩
 | cons n ns=>
  obtain ⟨E1,e1,h1,v1,k1⟩:=tR L av v (n::ns) h hv
  exact ⟨E1,e1,h1,v1,by rw [k1];exact hk⟩
theorem V_tup {E:Env} {l:List AV} {vs:List Value}:E.V (.tup l) (.tuple vs.toArray)↔E.L l vs:=by
 simp only [Env.V,Env.L,VR]
 constructor
 · rintro ⟨a,ha,h⟩
   cases ha
   simpa using h
 · intro h
   exact ⟨_,rfl,by simpa using h⟩
theorem y7 {L:Tys} {g:Glob} {B:Nat→Prop} {w0:World} {I0:Nat→Prop} {R:Type} {r:R} {k:List AV→ia→Option R} {hint:Hint OutS} {E:Env} {args:List AV} {vs:List Value} (h:St g B w0 I0 E) (hv:E.L args vs) (hk:Hab L hint args E.H k=some r):
  ∃ E2 args2,E2.w=E.w∧St g B w0 I0 E2∧E2.L args2 vs∧k args2 E2.H=some r:=by
 unfold Hab at hk
 cases hna:hint.na with
 | true=>
  rw [hna,cnd_true] at hk
  obtain ⟨E1,av1,g1,g2,g3,g4⟩:=sJ _ h (V_tup.2 hv) hk
  obtain ⟨E2,e2,h2,v2,k2⟩:=EX g2 g3 g4
  split at k2
  · exact ⟨E2,_,e2.trans g1,h2,V_tup.1 v2,k2⟩
  · cases k2
 | false=>
  rw [hna,cnd_false] at hk
  split at hk
  · exact ⟨E,args,rfl,h,hv,hk⟩
  · rename_i n ns hne
    obtain ⟨E1,e1,h1,v1,k1⟩:=tR L _ _ (n::ns) h (V_tup.2 hv)
    exact ⟨E1,args,e1,h1,V_tup.1 v1,by rw [k1];exact hk⟩
noncomputable def fnS (L:Tys) (Γ:Callees OutS) (hint:Hint OutS) (n:Nat) (fn:Func) (args:List AV) (H:ia):Option OutS:=
 cnd (noG H) (Hab L hint args H fun args H=>cnd (noG H) (fnA L Γ hint n fn args (H++[some (Zt args)]) (fun v H'=>X1 L hint.pr v H' fun v H'=>L7 L hint.nb v H' fun v H'=>cnd hint.fz (w6 (E5 v) v H' (D9 false)) (D9 false (cnd hint.dv .top v) H')) (D9 true)) none) none
theorem M9 {H:ia} (h:noG H=true) {r:Nat} {W:Row} (hW:H[r]?=some (some W)) (hk:W.k=0):W.pf=true:=by
 have:=List.all_eq_true.1 h _ (List.mem_of_getElem? hW)
 simp only [hk] at this
 simpa using this
theorem St.regs {gs:List Value} {E:Env} (h:St g B w0 I0 E) (hn:noG E.H=true):St { g with gs:=gs } B w0 I0 E:=
 ⟨h.below,h.hB,h.hn,h.gn,h.glob,h.isz,h.imono,h.ifresh,h.rows,h.inj,fun r W hW hk hp=>by rw [M9 hn hW hk] at hp;cases hp⟩
theorem PureOk.regs {Γ:Callees R} {gs:List Value} (h:PureOk P g Γ):PureOk P { g with gs:=gs } Γ:=⟨h.enters,h.xok,h.xid,h.ans⟩
theorem CsOk.regs {Γ:Callees R} {gs:List Value} (h:CsOk P g Γ):CsOk P { g with gs:=gs } Γ:=⟨h.ans⟩
theorem sX {E:Env}:∀ {l:List AV} {vs:List Value},E.L l vs→E.L (l.map gh1) vs
 | [],[],_=>by simp [Env.L,LR]
 | [],_::_,h=>by simp [Env.L,LR] at h
 | _::_,[],h=>by simp [Env.L,LR] at h
 | x::xs,v::vs,h=>by
  simp only [Env.L,LR] at h
  simp only [List.map_cons,Env.L,LR]
  refine ⟨?_,sX h.2⟩
  unfold gh1
  split
  · exact h.1
  · simp [VR]
theorem PureOk.keep {Γ:Callees R} (h:PureOk P g Γ):PureOk P g Γ.keep:=⟨h.enters,h.xok,h.xid,h.ans⟩
theorem PureOk.view {Γ:Callees R} (h:PureOk P g Γ) (fs:List Nat):PureOk P g (Γ.view fs):=⟨h.enters,h.xok,h.xid,h.ans⟩
theorem CsOk.view {Γ:Callees R} (h:CsOk P g Γ) (fs:List Nat):CsOk P g (Γ.view fs):=⟨h.ans⟩
theorem CsOk.keep {Γ:Callees R} (h:CsOk P g Γ):CsOk P g Γ.keep:=⟨h.ans⟩
theorem rF (hL:Ub P L) {Γ:Callees OutS} (hp:PureOk P g Γ) (hc:CsOk P g Γ) (hm:P.follows .mixedOrders=true) {hint:Hint OutS} {n:Nat} {f:FuncId} {fn:Func} (hf:P.funcs[f]?=some fn) (hR:∀ c,fn.body=some c→ta L Γ hint n c 0) {args:List AV} {H:ia} {out:OutS}
  (h:fnS L Γ hint n fn args H=some out):uZ P g f args H out:=by
 intro gs B E vs hS hH hargs
 subst hH
 unfold fnS at h
 obtain ⟨hno0,h⟩:=sa h
 obtain ⟨E1,args1,hE1,hS,hargs,h⟩:=y7 hS hargs h
 obtain ⟨hno,h⟩:=sa h
 have hS0:St { g with gs:=vs } B E.w E.I E1:=hS.regs (g:={ g with gs:=gs }) hno
 obtain ⟨s1,s2⟩:=hS0.ghost (W:=Zt args1) vs rfl rfl rfl (fun l _ _ hl=>by cases hl;exact sX hargs) (fun _ _=>rfl)
 have fin:∀ {E':Env} {pan:Bool} {av:AV} {v:Value},St { g with gs:=vs } B E.w E.I E'→E'.V av v→D9 pan av E'.H=some out→
   ∃ E2,E2.w=E'.w∧out.pan=pan∧St { g with gs:=gs } B E.w E.I E2∧E2.H=out.H∧E2.L out.ga vs∧E2.V out.v v:=fun {E' pan av v} hS' hV hh=>by
  unfold D9 at hh
  split at hh
  · rename_i ga hrow
    have hga:=tJ hS' hrow
    unfold hbb at hh
    obtain ⟨hno',hh⟩:=sa hh
    cases hh
    have hgc:=hS'.gc (Gr (ga++[av]) E'.H)
    exact ⟨AO E' (order (ga++[av]) E'.H),rfl,rfl,hgc.regs (g:={ g with gs:=vs }) hno',rfl,qE (fun b hb=>⟨hb,rfl⟩) ga _ _ vs (fun r p q hT hq=>Mu hT hq) hga,VP (fun b hb=>⟨hb,rfl⟩) av _ _ v (fun r p q hT hq=>Mu hT hq) hV⟩
  · cases hh
 suffices key:Calls P f vs.toArray E1.w (fun e w'=>∃ v E',e=cnd out.pan (.panicked [{ v,recovered:=false }]) (.returned v)∧E'.w=w'∧St { g with gs:=gs } B E.w E.I E'∧E'.H=out.H∧E'.L out.ga vs∧E'.V out.v v) by
  rw [hE1] at key;exact key
 refine pX hL hp.regs hc.regs hm hf hR s1 (s2.L (Zb _) hargs) h (fun av v E' hS' hV hh=>?_) (fun av v E' hS' hV hh=>?_)
 · obtain ⟨E0,av,f0,hS',hV,hh⟩:=zR _ hS' hV hh
   obtain ⟨E0',f1',hS',hV,hh⟩:=EX hS' hV hh
   have f1:=f1'.trans f0
   cases hfz:hint.fz with
   | true=>
    rw [hfz,cnd_true] at hh
    obtain ⟨E1,av1,g1,g2,g3,g4⟩:=sJ _ hS' hV hh
    obtain ⟨E2,h1,h2,h3,h4,h5,h6⟩:=fin g2 g3 g4
    exact ⟨v,E2,by rw [h2];rfl,(h1.trans g1).trans f1,h3,h4,h5,h6⟩
   | false=>
   rw [hfz,cnd_false] at hh
   obtain ⟨E2,h1,h2,h3,h4,h5,h6⟩:=fin (av:=cnd hint.dv .top av) (v:=v) hS' (by
    cases hint.dv with
    | true=>simp [Env.V,VR]
    | false=>exact hV) hh
   exact ⟨v,E2,by rw [h2];rfl,h1.trans f1,h3,h4,h5,h6⟩
 · obtain ⟨E2,h1,h2,h3,h4,h5,h6⟩:=fin hS' hV hh
   exact ⟨v,E2,by rw [h2];rfl,h1,h3,h4,h5,h6⟩
theorem df (hL:Ub P L) {es:List Entry} (hes:AllOk P g es) (hm:P.follows .mixedOrders=true) {hint:Hint OutS} {n:Nat} {f:FuncId} {fn:Func} (hf:P.funcs[f]?=some fn) (hR:∀ c,fn.body=some c→ta L (da OutS es) hint n c 0) {args:List AV} {H:ia} {out:OutS}
  (h:fnS L (da OutS es) hint n fn args H=some out):uZ P g f args H out:=rF hL (ao hes) (jw hes) hm hf hR h
theorem db (hL:Ub P L) {es:List Entry} (hes:AllOk P g es) (hm:P.follows .mixedOrders=true) {hint:Hint OutS} {n:Nat} {f:FuncId} {fn:Func} (hf:P.funcs[f]?=some fn) (hR:∀ c,fn.body=some c→ta L (da OutS es).keep hint n c 0) {args:List AV} {H:ia} {out:OutS}
  (h:fnS L (da OutS es).keep hint n fn args H=some out):uZ P g f args H out:=rF hL (ao hes).keep (jw hes).keep hm hf hR h
theorem JM {fs:List Nat} (hL:Ub P L) {es:List Entry} (hes:AllOk P g es) (hm:P.follows .mixedOrders=true) {hint:Hint OutS} {n:Nat} {f:FuncId} {fn:Func} (hf:P.funcs[f]?=some fn) (hR:∀ c,fn.body=some c→ta L ((da OutS es).view fs) hint n c 0) {args:List AV} {H:ia} {out:OutS}
  (h:fnS L ((da OutS es).view fs) hint n fn args H=some out):uZ P g f args H out:=rF hL ((ao hes).view fs) ((jw hes).view fs) hm hf hR h
end
open Go Go.RowKit
inductive RT where
 | one (a:CTy)
 | many (τ:CTy)
def RT.El:RT→Type
 | .one a=>AM.El a
 | .many τ=>AM.El τ
def wY:(τ:CTy)→List AV→Option (El τ)
 | .unit,[]=>some ()
 | .pair a b,x::xs=>match rab a (g9 a x),wY b xs with
  | some y,some ys=>some (y,ys)
  | _,_=>none
 | _,_=>none
def yZ:(τ:CTy)→El τ→List AV
 | .unit,_=>[]
 | .pair a b,x=>encV a x.1::yZ b x.2
 | _,_=>[]
def Vf:(ρ:RT)→ρ.El→AV
 | .one a,x=>encV a x
 | .many τ,x=>.tup (yZ τ x)
def yC (pt:TypeId) (p:Int):AV:=.ifc pt (.agg [.b (.int .i64 p)])
def onX {α β:Type} (r:Except Int α) (kp:Int→β) (k:α→β):β:=match r with
 | .error p=>kp p
 | .ok x=>k x
inductive Lx (A B:Type) where
 | out (a:A)
 | ret (b:B)
 | pan (p:Int)
def onL {A B β:Type} (r:Lx A B) (ko:A→β) (kr:B→β) (kp:Int→β):β:=match r with
 | .out a=>ko a
 | .ret b=>kr b
 | .pan p=>kp p
def pcT (τa:CTy) (ρ:RT) (F:El τa→Option ρ.El) {R:Type} (args:List AV) (kk pk:AV→Option R):Option R:=match wY τa args with
 | some xs=>(F xs).bind fun y=>kk (Vf ρ y)
 | none=>none
def pcX (pt:TypeId) (τa:CTy) (ρ:RT) (F:El τa→Option (Except Int ρ.El)) {R:Type} (args:List AV) (kk pk:AV→Option R):Option R:=match wY τa args with
 | some xs=>(F xs).bind fun y=>onX y (fun p=>pk (yC pt p)) fun y=>kk (Vf ρ y)
 | none=>none
theorem UZ {w:World} {I:Nat→Prop} {m:Nat→Info} {T:Tab}:∀ {τ:CTy} {l:List AV} {x:El τ} {vs:List Value},wY τ l=some x→LR w I m T l vs→LR w I m T (yZ τ x) vs
 | .unit,[],x,vs,_,h=>by simpa only [yZ] using h
 | .unit,_::_,x,vs,h,_=>by simp [wY] at h
 | .pair a b,[],x,vs,h,_=>by simp [wY] at h
 | .pair a b,y::ys,x,[],_,h=>by simp [LR] at h
 | .pair a b,y::ys,x,v::vs,h,hl=>by
  simp only [wY] at h
  split at h
  · rename_i z zs hz hzs
    cases h
    simp only [LR] at hl
    simp only [yZ,LR]
    refine ⟨?_,UZ hzs hl.2⟩
    have:=uR (τ:=a) hl.1
    rwa [VZ hz] at this
  · cases h
 | .bool,l,x,vs,h,_=>by simp [wY] at h
 | .int _,l,x,vs,h,_=>by simp [wY] at h
 | .flt _,l,x,vs,h,_=>by simp [wY] at h
 | .str,l,x,vs,h,_=>by simp [wY] at h
 | .sl _,l,x,vs,h,_=>by simp [wY] at h
theorem AR:∀ (τ:CTy) (x:El τ),Ud (cel τ x)=true
 | .bool,x=>rfl
 | .int _,x=>rfl
 | .flt _,x=>rfl
 | .str,x=>rfl
 | .unit,x=>rfl
 | .sl _,x=>rfl
 | .pair a b,x=>by
  simp only [cel]
  have happ:∀ l l':List AV,Ud l=true→Ud l'=true→Ud (l++l')=true:=fun l l' h h'=>by
   induction l with
   | nil=>exact h'
   | cons y ys ih=>
    simp only [Ud,List.cons_append,rfs,Bool.and_eq_true] at h ⊢
    exact ⟨h.1,ih h.2⟩
  exact happ _ _ (AR a x.1) (AR b x.2)
theorem ZT (τ:CTy) (x:El τ):Ew (encV τ x)=true:=by
 cases τ with
 | pair a b=>exact AR (.pair a b) x
 | _=>rfl
theorem XT:∀ (τ:CTy) (x:El τ),Ud (yZ τ x)=true
 | .unit,_=>rfl
 | .pair a b,x=>by
  have h1:=ZT a x.1
  have h2:=XT b x.2
  simp only [yZ,Ud,rfs,Bool.and_eq_true]
  exact ⟨h1,h2⟩
 | .bool,_=>rfl
 | .int _,_=>rfl
 | .flt _,_=>rfl
 | .str,_=>rfl
 | .sl _,_=>rfl
theorem YT (ρ:RT) (y:ρ.El):Ew (Vf ρ y)=true:=by
 cases ρ with
 | one a=>exact ZT a y
 | many τ=>exact XT τ y
section
variable {P:Program} {g:Glob} {L:Tys}
theorem Ans.of_dec {f:FuncId} {τ:CTy} {args:List AV} {xs:El τ} {out:Out} (hd:wY τ args=some xs) (h:Ans P g f (yZ τ xs) out):Ans P g f args out:=
 fun w I vs h1 h2 h3 h4=>h w I vs h1 h2 h3 (UZ hd h4)
theorem Qa {f:FuncId} {τa:CTy} {ρ:RT} {F:El τa→Option ρ.El} (he:Enters P f) (h:∀ xs y,F xs=some y→Ans P g f (yZ τa xs) (.ret (Vf ρ y))):EntryOk P g ⟨f,pcT τa ρ F,none,none⟩:=by
 refine ⟨fun _=>he,fun _ _ _ h=>(by cases h),fun h=>(by cases h),fun _ h=>(by cases h),fun _ _ R args kk pk r hr=>?_⟩
 simp only [pcT] at hr
 split at hr
 · rename_i xs hx
   cases hF:F xs with
   | none=>rw [hF] at hr;cases hr
   | some y=>
    rw [hF] at hr
    exact .inl ⟨_,hr,YT _ _,(h xs y hF).of_dec hx⟩
 · cases hr
theorem HX {f:FuncId} {pt:TypeId} {τa:CTy} {ρ:RT} {F:El τa→Option (Except Int ρ.El)} (he:Enters P f) (h:∀ xs y,F xs=some (.ok y)→Ans P g f (yZ τa xs) (.ret (Vf ρ y)))
  (h2:∀ xs p,F xs=some (.error p)→Ans P g f (yZ τa xs) (.pan (yC pt p))):EntryOk P g ⟨f,pcX pt τa ρ F,none,none⟩:=by
 refine ⟨fun _=>he,fun _ _ _ h=>(by cases h),fun h=>(by cases h),fun _ h=>(by cases h),fun _ _ R args kk pk r hr=>?_⟩
 simp only [pcX] at hr
 split at hr
 · rename_i xs hx
   cases hF:F xs with
   | none=>rw [hF] at hr;cases hr
   | some y=>
    rw [hF] at hr
    cases y with
    | ok y=>exact .inl ⟨_,hr,YT _ _,(h xs y hF).of_dec hx⟩
    | error p=>exact .inr ⟨_,hr,rfl,(h2 xs p hF).of_dec hx⟩
 · cases hr
end
inductive Cn where
 | nilp
 | nils
 | nili
def cnV:Cn→Value
 | .nilp=>.pointer none
 | .nils=>.slice none 0 0
 | .nili=>.nilIface
def Mab:Cn→Value→Bool
 | .nilp,.pointer none=>true
 | .nils,.slice none 0 0=>true
 | .nili,.nilIface=>true
 | _,_=>false
theorem D7 {c:Cn} {v:Value} (h:Mab c v=true):v=cnV c:=by
 unfold Mab at h
 split at h<;>first
  | rfl
  | cases h
inductive Sl where
 | top
 | dat (τ:CTy)
 | row (r:Nat)
 | ptr (r i j:Nat)
 | cn (c:Cn)
 | fnc (f:FuncId)
def tp:Nat→List Sl→List Sl
 | 0,l=>l
 | k+1,l=>.top::tp k l
def CQ:List Sl→CTy
 | []=>.unit
 | .dat τ::sp=>.pair τ (CQ sp)
 | .top::sp=>CQ sp
 | .row _::sp=>CQ sp
 | .ptr _ _ _::sp=>CQ sp
 | .cn _::sp=>CQ sp
 | .fnc _::sp=>CQ sp
def dl (ns:Nat→Nat):(sp:List Sl)→El (CQ sp)→List AV
 | [],_=>[]
 | .dat τ::sp,σ=>encV τ σ.1::dl ns sp σ.2
 | .top::sp,σ=>.top::dl ns sp σ
 | .row r::sp,σ=>.sl r (ns r)::dl ns sp σ
 | .ptr r i j::sp,σ=>.ptr r i j::dl ns sp σ
 | .cn c::sp,σ=>.b (cnV c)::dl ns sp σ
 | .fnc f::sp,σ=>.fn f []::dl ns sp σ
def dR:(sp:List Sl)→List AV→Option (El (CQ sp))
 | [],fr=>match fr with
  | []=>some ()
  | _::_=>none
 | .dat τ::sp,fr=>match fr with
  | x::xs=>match rab τ x,dR sp xs with
   | some y,some ys=>some (y,ys)
   | _,_=>none
  | []=>none
 | .top::sp,fr=>match fr with
  | .top::xs=>dR sp xs
  | _=>none
 | .row r::sp,fr=>match fr with
  | .sl r' _::xs=>cnd (Nat.beq r' r) (dR sp xs) none
  | _=>none
 | .ptr r i j::sp,fr=>match fr with
  | .ptr r' i' j'::xs=>cnd (Nat.beq r' r&&Nat.beq i' i&&Nat.beq j' j) (dR sp xs) none
  | _=>none
 | .cn c::sp,fr=>match fr with
  | .b v::xs=>cnd (Mab c v) (dR sp xs) none
  | _=>none
 | .fnc f::sp,fr=>match fr with
  | .fn f' []::xs=>cnd (Nat.beq f' f) (dR sp xs) none
  | _=>none
theorem vr {ns:Nat→Nat}:∀ {sp:List Sl} {fr:List AV} {σ:El (CQ sp)},(∀ q n,AV.sl q n∈fr→ns q=n)→dR sp fr=some σ→fr=dl ns sp σ
 | [],fr,_,_,h=>by
  unfold dR at h
  split at h
  · rfl
  · cases h
 | .dat τ::sp,fr,σ,hn,h=>by
  unfold dR at h
  split at h
  · rename_i x xs
    split at h
    · rename_i y ys hy hys
      cases h
      simp only [dl]
      rw [←VZ hy,←vr (fun q n hm=>hn q n (List.mem_cons_of_mem _ hm)) hys]
    · cases h
  · cases h
 | .top::sp,fr,σ,hn,h=>by
  rcases fr with _ | ⟨x,xs⟩
  · exact ja (show none=some σ from h)
  · cases x with
    | top=>
     have h:dR sp xs=some σ:=h
     simp only [dl]
     rw [←vr (fun q n hm=>hn q n (List.mem_cons_of_mem _ hm)) h]
    | _=>exact ja (show none=some σ from h)
 | .row r::sp,fr,σ,hn,h=>by
  unfold dR at h
  split at h
  · rename_i r' n xs
    obtain ⟨hr,h'⟩:=sa h
    clear h
    have hr:r'=r:=Nat.eq_of_beq_eq_true hr
    subst hr
    simp only [dl]
    rw [←vr (fun q n hm=>hn q n (List.mem_cons_of_mem _ hm)) h',hn r' n (List.mem_cons_self)]
  · cases h
 | .ptr r i j::sp,fr,σ,hn,h=>by
  unfold dR at h
  split at h
  · rename_i r' i' j' xs
    obtain ⟨hr,h'⟩:=sa h
    clear h
    simp only [Bool.and_eq_true] at hr
    have h1:r'=r:=Nat.eq_of_beq_eq_true hr.1.1
    have h2:i'=i:=Nat.eq_of_beq_eq_true hr.1.2
    have h3:j'=j:=Nat.eq_of_beq_eq_true hr.2
    subst h1 h2 h3
    simp only [dl]
    rw [←vr (fun q n hm=>hn q n (List.mem_cons_of_mem _ hm)) h']
  · cases h
 | .cn c::sp,fr,σ,hn,h=>by
  unfold dR at h
  split at h
  · rename_i v xs
    obtain ⟨hr,h'⟩:=sa h
    clear h
    simp only [dl]
    rw [←vr (fun q n hm=>hn q n (List.mem_cons_of_mem _ hm)) h',D7 hr]
  · cases h
 | .fnc f::sp,fr,σ,hn,h=>by
  unfold dR at h
  split at h
  · rename_i f' xs
    obtain ⟨hr,h'⟩:=sa h
    clear h
    have hr:f'=f:=Nat.eq_of_beq_eq_true hr
    subst hr
    simp only [dl]
    rw [←vr (fun q n hm=>hn q n (List.mem_cons_of_mem _ hm)) h']
  · cases h
inductive RS where
 | dead
 | row (t k:Nat) (τ:CTy) (mn cv:Bool)
 | box (t k:Nat) (pf:Bool) (c:List Sl)
 | ghost (c:List Sl)
def EU:List RS→CTy
 | []=>.unit
 | .dead::sp=>EU sp
 | .row _ _ τ _ _::sp=>.pair (.sl τ) (EU sp)
 | .box _ _ _ c::sp=>.pair (CQ c) (EU sp)
 | .ghost c::sp=>.pair (CQ c) (EU sp)
def dc:(sp:List RS)→El (EU sp)→Nat→Nat
 | [],_,_=>0
 | .dead::sp,σ,r=>match r with
  | 0=>0
  | r+1=>dc sp σ r
 | .row _ _ _ _ _::sp,σ,r=>match r with
  | 0=>Sq.n σ.1
  | r+1=>dc sp σ.2 r
 | .box _ _ _ _::sp,σ,r=>match r with
  | 0=>1
  | r+1=>dc sp σ.2 r
 | .ghost _::sp,σ,r=>match r with
  | 0=>0
  | r+1=>dc sp σ.2 r
def Qo (ns:Nat→Nat):(sp:List RS)→El (EU sp)→ia
 | [],_=>[]
 | .dead::sp,σ=>none::Qo ns sp σ
 | .row t k τ mn cv::sp,σ=>some ⟨t,k,Sq.n σ.1,.typ τ (Sq.at' σ.1),mn,true,false,cv⟩::Qo ns sp σ.2
 | .box t k pf c::sp,σ=>some ⟨t,k,1,.box (dl ns c σ.1),false,pf,true,false⟩::Qo ns sp σ.2
 | .ghost c::sp,σ=>some ⟨0,0,0,.box (dl ns c σ.1),true,false,false,false⟩::Qo ns sp σ.2
def bX:Bool→Bool→Bool
 | true,true=>true
 | false,false=>true
 | _,_=>false
theorem Uo {a b:Bool} (h:bX a b=true):a=b:=by cases a<;>cases b<;>simp_all [bX]
def xZ:(sp:List RS)→ia→Option (El (EU sp))
 | [],H=>match H with
  | []=>some ()
  | _::_=>none
 | .dead::sp,H=>match H with
  | none::H=>xZ sp H
  | _=>none
 | .row t k τ mn cv::sp,H=>match H with
  | some ⟨t',k',n,.typ τ' xs,mn',pf',bx',cv'⟩::H=>cnd (Nat.beq t' t&&Nat.beq k' k&&bX mn' mn&&bX pf' true&&bX bx' false&&bX cv' cv) (if h:τ'=τ then match xZ sp H with
    | some σ=>some ((⟨n,fun i=>PZ h (xs i)⟩:Sq (El τ)),σ)
    | none=>none else none) none
  | _=>none
 | .box t k pf c::sp,H=>match H with
  | some ⟨t',k',n,.box l,mn',pf',bx',cv'⟩::H=>cnd (Nat.beq t' t&&Nat.beq k' k&&Nat.beq n 1&&bX mn' false&&bX pf' pf&&bX bx' true&&bX cv' false) (match dR c l,xZ sp H with
    | some x,some σ=>some (x,σ)
    | _,_=>none) none
  | _=>none
 | .ghost c::sp,H=>match H with
  | some ⟨t',k',n,.box l,mn',pf',bx',cv'⟩::H=>cnd (Nat.beq t' 0&&Nat.beq k' 0&&Nat.beq n 0&&bX mn' true&&bX pf' false&&bX bx' false&&bX cv' false) (match dR c l,xZ sp H with
    | some x,some σ=>some (x,σ)
    | _,_=>none) none
  | _=>none
theorem Tz {ns:Nat→Nat}:∀ {sp:List RS} {H:ia} {σ:El (EU sp)},(∀ (q:Nat) (W:Row) (l:List AV),H[q]?=some (some W)→(W.box=true∨W.k=0∧W.pf=false)→W.ex=.box l→∀ q' n,AV.sl q' n∈l→ns q'=n)→xZ sp H=some σ→
  H=Qo ns sp σ∧∀ (q:Nat) (W:Row),H[q]?=some (some W)→dc sp σ q=W.n
 | [],H,σ,hn,h=>by
  unfold xZ at h
  split at h
  · exact ⟨rfl,fun q W h=>by simp at h⟩
  · cases h
 | .dead::sp,H,σ,hn,h=>by
  rcases H with _ | ⟨x,H⟩
  · exact ja (show none=some σ from h)
  · cases x with
    | none=>
     have h:xZ sp H=some σ:=h
     obtain ⟨h1,h2⟩:=Tz (sp:=sp) (fun q W l hq=>hn (q+1) W l (by simpa using hq)) h
     refine ⟨by simp only [Qo];rw [←h1],fun q W hq=>?_⟩
     cases q with
     | zero=>simp at hq
     | succ q=>exact h2 q W (by simpa using hq)
    | some _=>exact ja (show none=some σ from h)
 | .row t k τ mn cv::sp,H,σ,hn,h=>by
  unfold xZ at h
  split at h
  · rename_i t' k' n τ' xs mn' pf' bx' cv' H
    obtain ⟨hc,h'⟩:=sa h
    clear h
    simp only [Bool.and_eq_true] at hc
    obtain ⟨⟨⟨⟨⟨c1,c2⟩,c3⟩,c4⟩,c5⟩,c6⟩:=hc
    have c1:=Nat.eq_of_beq_eq_true c1
    have c2:=Nat.eq_of_beq_eq_true c2
    have c3:=Uo c3
    have c4:=Uo c4
    have c5:=Uo c5
    have c6:=Uo c6
    subst c1 c2 c3 c4 c5 c6
    split at h'
    · rename_i hτ
      subst hτ
      split at h'
      · rename_i σ' hσ
        cases h'
        obtain ⟨h1,h2⟩:=Tz (sp:=sp) (fun q W l hq=>hn (q+1) W l (by simpa using hq)) hσ
        refine ⟨by simp only [Qo];rw [←h1];rfl,fun q W hq=>?_⟩
        cases q with
        | zero=>simp at hq;subst hq;rfl
        | succ q=>exact h2 q W (by simpa using hq)
      · cases h'
    · cases h'
  · cases h
 | .box t k pf c::sp,H,σ,hn,h=>by
  unfold xZ at h
  split at h
  · rename_i t' k' n l mn' pf' bx' cv' H
    obtain ⟨hc,h'⟩:=sa h
    clear h
    simp only [Bool.and_eq_true] at hc
    obtain ⟨⟨⟨⟨⟨⟨c1,c2⟩,c3⟩,c4⟩,c5⟩,c6⟩,c7⟩:=hc
    have c1:=Nat.eq_of_beq_eq_true c1
    have c2:=Nat.eq_of_beq_eq_true c2
    have c3:=Nat.eq_of_beq_eq_true c3
    have c4:=Uo c4
    have c5:=Uo c5
    have c6:=Uo c6
    have c7:=Uo c7
    subst c1 c2 c3 c4 c5 c6 c7
    split at h'
    · rename_i x σ' hx hσ
      cases h'
      obtain ⟨h1,h2⟩:=Tz (sp:=sp) (fun q W l hq=>hn (q+1) W l (by simpa using hq)) hσ
      have h3:=vr (ns:=ns) (fun q' n hm=>hn 0 _ l rfl (.inl rfl) rfl q' n hm) hx
      refine ⟨by simp only [Qo];rw [←h1,←h3],fun q W hq=>?_⟩
      cases q with
      | zero=>simp at hq;subst hq;rfl
      | succ q=>exact h2 q W (by simpa using hq)
    · cases h'
  · cases h
 | .ghost c::sp,H,σ,hn,h=>by
  unfold xZ at h
  split at h
  · rename_i t' k' n l mn' pf' bx' cv' H
    obtain ⟨hc,h'⟩:=sa h
    clear h
    simp only [Bool.and_eq_true] at hc
    obtain ⟨⟨⟨⟨⟨⟨c1,c2⟩,c3⟩,c4⟩,c5⟩,c6⟩,c7⟩:=hc
    have c1:=Nat.eq_of_beq_eq_true c1
    have c2:=Nat.eq_of_beq_eq_true c2
    have c3:=Nat.eq_of_beq_eq_true c3
    have c4:=Uo c4
    have c5:=Uo c5
    have c6:=Uo c6
    have c7:=Uo c7
    subst c1 c2 c3 c4 c5 c6 c7
    split at h'
    · rename_i x σ' hx hσ
      cases h'
      obtain ⟨h1,h2⟩:=Tz (sp:=sp) (fun q W l hq=>hn (q+1) W l (by simpa using hq)) hσ
      have h3:=vr (ns:=ns) (fun q' n hm=>hn 0 _ l rfl (.inr ⟨rfl,rfl⟩) rfl q' n hm) hx
      refine ⟨by simp only [Qo];rw [←h1,←h3],fun q W hq=>?_⟩
      cases q with
      | zero=>simp at hq;subst hq;rfl
      | succ q=>exact h2 q W (by simpa using hq)
    · cases h'
  · cases h
section
variable {R:Type}
def aq (sp:List Sl) (rp:List RS) (F:El (CQ sp)→El (EU rp)→(XE→List AV→ia→Option R)→Option R) (k:XE→List AV→ia→Option R) (fr:List AV) (H:ia):Option R:=
 match xZ rp H,dR sp fr with
 | some ρ,some σ=>F σ ρ k
 | _,_=>none
theorem S2 {sp:List Sl} {rp:List RS} {F:El (CQ sp)→El (EU rp)→(XE→List AV→ia→Option R)→Option R} {k:XE→List AV→ia→Option R} {fr:List AV} {H:ia} {r:R} (ht:oab fr H) (h:aq sp rp F k fr H=some r):
  ∃ σ ρ,fr=dl (dc rp ρ) sp σ∧H=Qo (dc rp ρ) rp ρ∧F σ ρ k=some r:=by
 unfold aq at h
 split at h
 · rename_i ρ σ hρ hσ
   have h0:=Tz (ns:=fun q=>match H[q]? with
    | some (some W)=>W.n
    | _=>0) (fun q W l hq hb he q' n hm=>by
     obtain ⟨W',hW',hn⟩:=ht.2 q W l hq hb he q' n hm
     simp only [hW',hn]) hρ
   have hns:∀ q W,H[q]?=some (some W)→dc rp ρ q=W.n:=h0.2
   have h1:=Tz (ns:=dc rp ρ) (fun q W l hq hb he q' n hm=>by
     obtain ⟨W',hW',hn⟩:=ht.2 q W l hq hb he q' n hm
     rw [hns q' W' hW',hn]) hρ
   refine ⟨σ,ρ,vr (fun q n hm=>?_) hσ,h1.1,h⟩
   obtain ⟨W,hW,hn⟩:=ht.1 q n hm
   rw [hns q W hW,hn]
 · cases h
noncomputable def Pe (L:Tys) (Γ:Callees R) (hint:Hint R) (n:Nat) (c:Code) (cur:Nat) (sp:List Sl) (rp:List RS) (k:XE→List AV→ia→Option R) (m:Nat) (σ:El (CQ sp)) (ρ:El (EU rp)):Option R:=
 NT (hint.live cur) (fun k fr H=>sD L Γ hint n c cur k fr H) k m (dl (dc rp ρ) sp σ) (Qo (dc rp ρ) rp ρ)
theorem Oa {L:Tys} {Γ:Callees R} {hint:Hint R} {n:Nat} {c:Code} {cur:Nat} {sp:List Sl} {rp:List RS} {F:El (CQ sp)→El (EU rp)→(XE→List AV→ia→Option R)→Option R} (hf:hint.run cur=some (aq sp rp F))
  (h:∀ k σ ρ,NT (hint.live cur) (fun k fr H=>sD L Γ hint n c cur k fr H) k n (dl (dc rp ρ) sp σ) (Qo (dc rp ρ) rp ρ)=F σ ρ k):ie L Γ hint n c cur:=fun f hf' k fr H r ht hr=>by
 rw [hf] at hf'
 cases hf'
 obtain ⟨σ,ρ,rfl,rfl,hr'⟩:=S2 ht hr
 rw [h]
 exact hr'
def ak (sp:List Sl) (rp:List RS) (σ:El (CQ sp)) (ρ:El (EU rp)) (k:List AV→ia→Option R):Option R:=k (dl (dc rp ρ) sp σ) (Qo (dc rp ρ) rp ρ)
def lv (l:List Nat):List (Nat×Option CTy):=l.map fun i=>(i,none)
noncomputable def Oab (L:Tys) (Γ:Callees R) (hint:Hint R) (n:Nat) (c:Code) (cur q:Nat) (sp:List Sl) (rp:List RS) (K:XE→List AV→ia→Option R) (σ:El (CQ sp)) (ρ:El (EU rp)):Option R:=
 sD L Γ hint n c cur (H7 (hint.jo q) K) (dl (dc rp ρ) sp σ) (Qo (dc rp ρ) rp ρ)
theorem G7 {L:Tys} {Γ:Callees R} {hint:Hint R} {n:Nat} {c:Code} {cur q:Nat} {sp:List Sl} {rp:List RS} {F:El (CQ sp)→El (EU rp)→(XE→List AV→ia→Option R)→Option R} (hf:hint.jn q=some (aq sp rp F))
  (h:∀ K σ ρ,Oab L Γ hint n c cur q sp rp K σ ρ=F σ ρ K):Bab L Γ hint n c cur q:=fun f hf' K fr H r ht hr=>by
 rw [hf] at hf'
 cases hf'
 obtain ⟨σ,ρ,rfl,rfl,hr'⟩:=S2 ht hr
 exact (h K σ ρ).trans hr'
theorem la {T U:Type} {x B:Option U} {F:Option T} {φ:T→Option U} (hE:x=B) (hN:F.bind φ=B) {y:T} (h:F=some y):x=φ y:=by rw [hE,←hN,h];rfl
theorem iB {α β:Type} {p:Prop} [Decidable p] {a b:Option α} {f:α→Option β}:(if p then a else b).bind f=if p then a.bind f else b.bind f:=by split<;>rfl
theorem oL {A B α β:Type} {r:Lx A B} {ko:A→Option α} {kr:B→Option α} {kp:Int→Option α} {f:α→Option β}:(onL r ko kr kp).bind f=onL r (fun a=>(ko a).bind f) (fun a=>(kr a).bind f) (fun a=>(kp a).bind f):=by cases r<;>rfl
theorem oX {A α β:Type} {r:Except Int A} {ko:A→Option α} {kp:Int→Option α} {f:α→Option β}:(onX r kp ko).bind f=onX r (fun a=>(kp a).bind f) (fun a=>(ko a).bind f):=by cases r<;>rfl
theorem nB {α β:Type} {f:α→Option β}:(none:Option α).bind f=none:=rfl
theorem bB {α β γ:Type} {x:Option α} {f:α→Option β} {g:β→Option γ}:(x.bind f).bind g=x.bind fun a=>(f a).bind g:=by cases x<;>rfl
end
inductive RSp where
 | one (s:Sl)
 | agg (l:List Sl)
def BW:List RSp→CTy
 | []=>.unit
 | .one s::sp=>.pair (CQ [s]) (BW sp)
 | .agg l::sp=>.pair (CQ l) (BW sp)
def Xt (ns:Nat→Nat):(sp:List RSp)→El (BW sp)→List AV
 | [],_=>[]
 | .one s::sp,σ=>(dl ns [s] σ.1).getD 0 .top::Xt ns sp σ.2
 | .agg l::sp,σ=>.agg (dl ns l σ.1)::Xt ns sp σ.2
def N9:Sl→AV→AV
 | .dat τ,x=>g9 τ x
 | _,x=>x
def WV:List Sl→List AV→List AV
 | s::sp,x::xs=>N9 s x::WV sp xs
 | _,l=>l
def j7:(sp:List RSp)→List AV→Option (El (BW sp))
 | [],l=>match l with
  | []=>some ()
  | _::_=>none
 | .one s::sp,l=>match l with
  | x::xs=>match dR [s] [N9 s x],j7 sp xs with
   | some y,some ys=>some (y,ys)
   | _,_=>none
  | []=>none
 | .agg l::sp,l'=>match l' with
  | .agg c::xs=>match dR l (WV l c),j7 sp xs with
   | some y,some ys=>some (y,ys)
   | _,_=>none
  | _=>none
theorem XV {E:Env} {s:Sl} {x:AV} {v:Value} (h:E.V x v):E.V (N9 s x) v:=by
 unfold N9
 split
 · exact uR h
 · exact h
theorem GX {E:Env}:∀ {sp:List Sl} {l:List AV} {vs:List Value},E.L l vs→E.L (WV sp l) vs
 | [],l,vs,h=>by simpa only [WV] using h
 | s::sp,[],vs,h=>by simpa only [WV] using h
 | s::sp,x::xs,[],h=>by simp [Env.L,LR] at h
 | s::sp,x::xs,v::vs,h=>by
  simp only [Env.L,LR] at h
  simp only [WV,Env.L,LR]
  exact ⟨XV h.1,GX h.2⟩
theorem EV {E:Env} {ns:Nat→Nat} (hns:∀ q W,E.H[q]?=some (some W)→ns q=W.n):∀ {sp:List RSp} {l:List AV} {vs:List Value} {σ:El (BW sp)},E.L l vs→j7 sp l=some σ→E.L (Xt ns sp σ) vs
 | [],l,vs,σ,hl,h=>by
  unfold j7 at h
  split at h
  · simpa only [Xt] using hl
  · cases h
 | .one s::sp,l,vs,σ,hl,h=>by
  unfold j7 at h
  split at h
  · rename_i x xs
    cases vs with
    | nil=>simp [Env.L,LR] at hl
    | cons v vs=>
     simp only [Env.L,LR] at hl
     split at h
     · rename_i y ys hy hys
       cases h
       have h1:E.L [N9 s x] [v]:=by simp only [Env.L,LR];exact ⟨XV hl.1,trivial⟩
       have h2:=vr (ns:=ns) (fun q n hm=>by
        obtain ⟨W,hW,hn⟩:=ZX h1 q n hm
        rw [hns q W hW,hn]) hy
       simp only [Xt,Env.L,LR]
       refine ⟨?_,EV hns hl.2 hys⟩
       rw [←h2]
       exact XV hl.1
     · cases h
  · cases h
 | .agg sl::sp,l,vs,σ,hl,h=>by
  unfold j7 at h
  split at h
  · rename_i c xs
    cases vs with
    | nil=>simp [Env.L,LR] at hl
    | cons v vs=>
     simp only [Env.L,LR] at hl
     split at h
     · rename_i y ys hy hys
       cases h
       have h0:=hl.1
       simp only [VR] at h0
       obtain ⟨a,hv,hc⟩:=h0
       have h1:E.L (WV sl c) a.toList:=GX hc
       have h2:=vr (ns:=ns) (fun q n hm=>by
        obtain ⟨W,hW,hn⟩:=ZX h1 q n hm
        rw [hns q W hW,hn]) hy
       simp only [Xt,Env.L,LR]
       refine ⟨?_,EV hns hl.2 hys⟩
       rw [←h2]
       simp only [VR]
       exact ⟨a,hv,h1⟩
     · cases h
  · cases h
def gf {R:Type} (_:List AV) (_ _:AV→Option R):Option R:=none
def csT (sp:List RSp) (rp:List RS) {T:Type} (F:El (BW sp)→El (EU rp)→Option T) (O:T→OutS) (R:Type) (args:List AV) (H:ia):Option ((OutS→Option R)→Option R):=
 match xZ rp H,j7 sp args with
 | some ρ,some σ=>some fun k=>(F σ ρ).bind fun y=>k (O y)
 | _,_=>none
theorem Sc {P:Program} {g:Glob} {f:FuncId} {sp:List RSp} {rp:List RS} {T:Type} {F:El (BW sp)→El (EU rp)→Option T} {O:T→OutS} (he:Enters P f)
  (h:∀ σ ρ y,F σ ρ=some y→uZ P g f (Xt (dc rp ρ) sp σ) (Qo (dc rp ρ) rp ρ) (O y)):EntryOk P g ⟨f,gf,none,some (csT sp rp F O)⟩:=by
 refine ⟨fun _=>he,fun _ _ _ h=>(by cases h),fun h=>(by cases h),fun run hr=>?_,fun _ h=>(by cases h)⟩
 cases hr
 refine ⟨rfl,fun R args H F' k r ho hk=>?_⟩
 unfold csT at ho
 split at ho
 · rename_i ρ σ hρ hσ
   cases ho
   obtain ⟨y,hF,hk⟩:=Option.bind_eq_some_iff.1 hk
   refine ⟨O y,hk,?_⟩
   intro gs B E vs hS hH hargs
   subst hH
   have ht:=MW hS hargs
   have h0:=Tz (ns:=fun q=>match E.H[q]? with
    | some (some W)=>W.n
    | _=>0) (fun q W l hq hb he q' n hm=>by
     obtain ⟨W',hW',hn⟩:=ht.2 q W l hq hb he q' n hm
     simp only [hW',hn]) hρ
   have hns:∀ q W,E.H[q]?=some (some W)→dc rp ρ q=W.n:=h0.2
   have h1:=Tz (ns:=dc rp ρ) (fun q W l hq hb he q' n hm=>by
     obtain ⟨W',hW',hn⟩:=ht.2 q W l hq hb he q' n hm
     rw [hns q' W' hW',hn]) hρ
   exact h σ ρ y hF gs B E vs hS h1.1 (EV hns hargs hσ)
 · cases ho
open Go Go.RowKit
def mD:List Value→Option Value
 | [.string s,.int .u8 c]=>some (.int .i64 (Lib.indexByte s.data.toList c.toNat.toUInt8))
 | _=>none
def dY:List Value→Option Value
 | [.string s,.int .u8 c]=>some (.int .i64 (Lib.countByte s.data.toList c.toNat.toUInt8:Int))
 | _=>none
theorem tT {P:Program} {g:Glob} {f:FuncId} {fn:Func} {e:Array Value→Sem Value} {x:List Value→Option Value} (hf:P.funcs[f]?=some fn) (hname:(fn.name== "runtime.NumGoroutine")=false)
  (hb:fn.body.isNone=true) (hn:Extern.findNext fn=none) (he:Extern.find fn=some e) (h:∀ vs v w,x vs=some v→(e vs.toArray).run P w=.ok v w):EntryOk P g ⟨f,gf,some (.flat x),none⟩:=
 ⟨fun h=>(by cases h),fun x' vs v hx hv w=>by
  cases hx
  rw [run_callFunc_extern hf hname hb hn he,h vs v w hv]
  rfl,fun h=>(by cases h),fun _ h=>(by cases h),fun h=>(by cases h)⟩
theorem gP {P:Program} {g:Glob} {f:FuncId} {fn:Func} (hf:P.funcs[f]?=some fn) (hname:(fn.name== "runtime.NumGoroutine")=false)
  (hb:fn.body.isNone=true) (hn:Extern.findNext fn=none) (he:Extern.find fn=some Extern.AbiNoEscape.same):EntryOk P g ⟨f,gf,some .ident,none⟩:=
 ⟨fun h=>(by cases h),fun _ _ _ h=>(by cases h),fun _ x w=>by
  rw [run_callFunc_extern hf hname hb hn he,Lib.run_noEscape]
  rfl,fun _ h=>(by cases h),fun h=>(by cases h)⟩
theorem dN {P:Program} {g:Glob} {f:FuncId} {fn:Func} (hf:P.funcs[f]?=some fn) (hname:(fn.name== "runtime.NumGoroutine")=false)
  (hb:fn.body.isNone=true) (hn:Extern.findNext fn=none) (he:Extern.find fn=some Extern.BytealgIndexByte.indexByte):EntryOk P g ⟨f,gf,some (.flat mD),none⟩:=
 tT hf hname hb hn he fun vs v w h=>by
  unfold mD at h
  split at h
  · cases h
    exact Lib.run_indexByteString _ _ _
  · cases h
theorem CV {P:Program} {g:Glob} {f:FuncId} {fn:Func} (hf:P.funcs[f]?=some fn) (hname:(fn.name== "runtime.NumGoroutine")=false)
  (hb:fn.body.isNone=true) (hn:Extern.findNext fn=none) (he:Extern.find fn=some Extern.BytealgCount.count):EntryOk P g ⟨f,gf,some (.flat dY),none⟩:=
 tT hf hname hb hn he fun vs v w h=>by
  unfold dY at h
  split at h
  · cases h
    exact Lib.run_countString _ _ _
  · cases h
open Go Go.RowKit
def Uab:List Oper→Option (Tmp×Tmp)
 | [⟨some d1,.call ⟨.builtin .recover,_,_⟩,_,_,_,none⟩,⟨some d2,.assign (.tmp d),_,_,_,none⟩]=>cnd (Nat.beq d d1) (some (d1,d2)) none
 | _=>none
theorem O2 {l:List Oper} {d1 d2:Tmp} (h:Uab l=some (d1,d2)):∃ ag ats t1 p1 a1 t2 p2 a2,l=[⟨some d1,.call ⟨.builtin .recover,ag,ats⟩,t1,p1,a1,none⟩,⟨some d2,.assign (.tmp d1),t2,p2,a2,none⟩]:=by
 unfold Uab at h
 split at h
 · obtain ⟨hd,h⟩:=sa h
   have hd:=Nat.eq_of_beq_eq_true hd
   cases h
   subst hd
   exact ⟨_,_,_,_,_,_,_,_,rfl⟩
 · cases h
def Eab:List Oper→Option Call
 | [⟨none,.defer c,_,_,_,none⟩]=>some c
 | _=>none
theorem WZ {l:List Oper} {c:Call} (h:Eab l=some c):∃ t p a,l=[⟨none,.defer c,t,p,a,none⟩]:=by
 unfold Eab at h
 split at h
 · cases h;exact ⟨_,_,_,rfl⟩
 · cases h
section
variable {R:Type}
def GT:Hint R:={ live:=fun _=>[],run:=fun _=>none,xm:=fun _ _=>none }
def dV:Code→Option (Code×Code)
 | .seq a b=>some (a,b)
 | _=>none
def xab:Code→Option (Array Oper)
 | .region _ ops false=>some ops
 | _=>none
def tX (k:List AV→ia→Option R) (H:ia):Option R:=match VM H with
 | some l=>k l H
 | none=>none
noncomputable def XZ (L:Tys) (Γ:Callees R) (n:Nat) (f2:Func) (rv:AV) (ga fr:List AV) (H:ia) (k:List AV→ia→Option R):Option R:=match f2.body with
 | some c=>match dV c with
  | some (c1,c2)=>match xab c1 with
   | some ops=>match Uab ops.toList with
    | some (d1,d2)=>sD L Γ GT n c2 0 (fun e fr2 H2=>match e with
      | .normal=>match JP L fr2 H2 f2.results.toList with
       | some _=>tX k H2
       | none=>none
      | .ret=>match JP L fr2 H2 f2.results.toList with
       | some _=>tX k H2
       | none=>none
      | _=>none) (((MK f2.ntmps ga).set d1 rv).set d2 (evA ((MK f2.ntmps ga).set d1 rv) (.tmp d1))) (H++[some (Zt fr)])
    | none=>none
   | none=>none
  | none=>none
 | none=>none
noncomputable def B9 (L:Tys) (Γ:Callees R) (n:Nat) (f2:Func) (rs:List ResultVar) (rv:AV) (ga fr:List AV) (H:ia) (o:List Nat) (k:AV→ia→Option R):Option R:=
 cnd (noG (XX o H)) (XZ L Γ n f2 (ren (rQ o) rv) (kJ (rQ o) ga) (kJ (rQ o) fr) (XX o H) (fun l H2=>match JP L l H2 rs with
  | some l=>k (aw l) H2
  | none=>none)) none
noncomputable def C0 (L:Tys) (Γ:Callees R) (n:Nat) (f2:Func) (rs:List ResultVar) (rv:AV) (fr:List AV) (H:ia) (k:AV→ia→Option R):Option R:=match VM H with
 | some ga=>B9 L Γ n f2 rs rv ga fr H (order (ga++fr) H) k
 | _=>none
noncomputable def fnD (L:Tys) (Γ:Callees R) (hint:Hint R) (n:Nat) (q:FuncId) (f2:Func) (fn:Func) (args:List AV) (k:AV→ia→Option R):Option R:=match fn.body with
 | some c=>match dV c with
  | some (ca,c')=>match dV c' with
   | some (cr,cb)=>match xab cr with
    | some ops=>match Eab ops.toList with
     | some d=>match d.callee with
      | .value f=>sD L Γ hint n ca 0 (fun e fr H=>match e with
       | .normal=>match evA fr f with
        | .fn q' []=>cnd (Nat.beq q' q&&noG H) (sD L Γ hint n cb 0 (fun e fr' H'=>match e with
          | .normal=>C0 L Γ n f2 fn.results.toList (.b .nilIface) fr' H' k
          | .ret=>C0 L Γ n f2 fn.results.toList (.b .nilIface) fr' H' k
          | .panic v=>C0 L Γ n f2 fn.results.toList v fr' H' k
          | .exit _=>none) fr (H++[some (Zt (d.args.toList.map (evA fr)))])) none
        | _=>none
       | _=>none) (MK fn.ntmps args) []
      | _=>none
     | none=>none
    | none=>none
   | none=>none
  | none=>none
 | none=>none
end
section
variable {P:Program} {g:Glob} {L:Tys} {B:Nat→Prop} {w0:World} {I0:Nat→Prop} {R:Type} {r:R}
theorem Vw {c a b:Code} (h:dV c=some (a,b)):c=.seq a b:=by
 unfold dV at h
 split at h
 · cases h;rfl
 · cases h
theorem BU {c:Code} {ops:Array Oper} (h:xab c=some ops):∃ id,c=.region id ops false:=by
 unfold xab at h
 split at h
 · cases h;exact ⟨_,rfl⟩
 · cases h
theorem UM {k:List AV→ia→Option R} {E:Env} (hS:St g B w0 I0 E) (h:tX k E.H=some r):∃ l,E.L l g.gs∧k l E.H=some r:=by
 unfold tX at h
 split at h
 · rename_i l hl
   exact ⟨l,tJ hS hl,h⟩
 · cases h
theorem rX {E:Env} {args:List AV} {vs:List Value} (hargs:E.L args vs) (m:Nat):E.L (MK m args) (vs.toArray++Array.replicate (m - vs.toArray.size) undef).toList:=by
 have hlen:args.length=vs.length:=Gi hargs
 unfold MK
 simp only [Array.toList_append,Array.toList_replicate,List.size_toArray,hlen]
 refine nx hargs ?_
 generalize m - vs.length=q
 induction q with
 | zero=>simp [Env.L,LR]
 | succ q ih=>simp only [List.replicate_succ,Env.L,LR];exact ⟨V_b.2 rfl,ih⟩
inductive Mode0:FrameMode→Value→Prop
 | ret:Mode0 .returning .nilIface
 | pan (v:Value):Mode0 (.panicking [{ v,recovered:=false }]) v
theorem nT (hL:Ub P L) {Γ:Callees R} (hP:PureOk P g Γ) (hG:CsOk P g Γ) (hm:P.follows .mixedOrders=true) {n:Nat} {q:FuncId} {f2:Func} (hf:P.funcs[q]?=some f2)
  (hR:∀ c c1 c2,f2.body=some c→dV c=some (c1,c2)→ta L Γ GT n c2 0)
  {rv:AV} {v:Value} {ga fr:List AV} {gvs frv:List Value} {E:Env} (hS:St g B w0 I0 E) (hn:noG E.H=true) (hv:E.V rv v) (hga:E.L ga gvs) (hfr:E.L fr frv) {k:List AV→ia→Option R}
  (h:XZ L Γ n f2 rv ga fr E.H k=some r) {u:FrameMode} (hu:Mode0 u v) {Rr:World→Prop}
  (hk:∀ l (E':Env),St { g with gs:=frv } B w0 I0 E'→E'.L l frv→k l E'.H=some r→Rr E'.w):
  CallsD P q gvs.toArray u E.w fun e u' w'=>(∃ x,e=.returned x)∧settle u'=.returning∧Rr w':=by
 unfold XZ at h
 split at h
 · rename_i c hc
   split at h
   · rename_i c1 c2 hs
     split at h
     · rename_i ops ho
       split at h
       · rename_i d1 d2 hr
         refine callsD_of_wpS hf hc ?_
         intro c₀ cs hc0
         obtain ⟨id,rfl⟩:=BU ho
         have hc:=Vw hs
         subst hc
         obtain ⟨ag,ats,t1,p1,a1,t2,p2,a2,hops⟩:=O2 hr
         have hops:ops= #[⟨some d1,.call ⟨.builtin .recover,ag,ats⟩,t1,p1,a1,none⟩,⟨some d2,.assign (.tmp d1),t2,p2,a2,none⟩]:=by
          rw [←Array.toArray_toList (xs:=ops),hops]
         subst hops
         refine wpS_seq (wpS_region ?_)
         generalize ha0:({ tmps:=gvs.toArray++Array.replicate (f2.ntmps - gvs.toArray.size) undef,defers:=[] }:Act)=a0
         have hfr0:E.L (MK f2.ntmps ga) a0.tmps.toList:=by subst ha0;exact rX hga f2.ntmps
         have hd0:a0.defers=[]:=by subst ha0;rfl
         have hfin:∀ (u':FrameMode),settle u'=.returning→c2.wpS P (bodyPostS P f2 c₀ cs fun e u' w'=>(∃ x,e=Ending.returned x)∧settle u'=.returning∧Rr w')
           ((a0.put (some d1) v).put (some d2) ((a0.put (some d1) v).eval (.tmp d1))) ({ c₀ with mode:=u' }::cs) E.w:=fun u' hu'=>by
          refine wpS_of_wp ?_
          obtain ⟨s1,s2⟩:=(hS.regs (gs:=frv) hn).ghost (W:=Zt fr) frv rfl rfl rfl (fun l _ _ hl=>by cases hl;exact sX hfr) (fun _ _=>rfl)
          refine GC (ds:=[]) hL hP.regs hG.regs hm c2 0 (hR _ _ _ hc hs) _ _ _ { E with m:=upd E.m E.H.length ⟨0,0,false,frv⟩,H:=E.H++[some (Zt fr)] } _ h s1 ?_ ?_ ⟨fun fr2 E' a' h1 h2 h3 h4=>?_,fun id fr2 E' a' h1 h2 h3 h4=>?_,fun fr2 E' a' h1 h2 h3 h4=>?_,fun av v fr2 E' a' h1 _ h2 h3 h4=>?_⟩
          · exact s2.L (Zb _) (dw (d:=some d2) (dw (d:=some d1) hfr0 hv) (Wz (dw (d:=some d1) hfr0 hv) _))
          · rw [Jb,Jb,hd0]
          · simp only at h4
            split at h4
            · rename_i l hl
              obtain ⟨l2,k1,k2⟩:=UM h1 h4
              obtain ⟨x,hx,_⟩:=Sw hL h1 h2 hl
              exact ⟨h3,u',rfl,x,hx,⟨x,rfl⟩,hu',hk l2 E' h1 k1 k2⟩
            · cases h4
          · cases h4
          · simp only at h4
            split at h4
            · rename_i l hl
              obtain ⟨l2,k1,k2⟩:=UM h1 h4
              obtain ⟨x,hx,_⟩:=Sw hL h1 h2 hl
              exact ⟨h3,u',rfl,x,hx,⟨x,rfl⟩,hu',hk l2 E' h1 k1 k2⟩
            · cases h4
          · cases h4
         have hrange:List.range (Array.size #[(⟨some d1,.call ⟨.builtin .recover,ag,ats⟩,t1,p1,a1,none⟩:Oper),⟨some d2,.assign (.tmp d1),t2,p2,a2,none⟩])=[0,1]:=rfl
         rw [hrange]
         cases hu with
         | ret=>
          have:=hfin .returning rfl
          have e1:({ c₀ with mode:=.returning }:Frame)=c₀:=by rw [←hc0]
          rw [e1] at this
          simp [wpOpsS,Region.wanted,execOp,resolve,invoke,builtin,recoverD,hc0,Oper.upon,yielded]
          exact this
         | pan v=>
          have:=hfin (.panicking [{ v,recovered:=true }]) rfl
          simp [wpOpsS,Region.wanted,execOp,resolve,invoke,builtin,recoverD,hc0,Oper.upon,yielded]
          exact this
       · cases h
     · cases h
   · cases h
 · cases h
theorem wF (hL:Ub P L) {Γ:Callees R} (hP:PureOk P g Γ) (hG:CsOk P g Γ) (hm:P.follows .mixedOrders=true) {n:Nat} {q:FuncId} {f2 fn:Func} (hq:P.funcs[q]?=some f2) (hen:Enters P q)
  (hR:∀ c c1 c2,f2.body=some c→dV c=some (c1,c2)→ta L Γ GT n c2 0)
  {rv:AV} {v:Value} {fr:List AV} {tmps:Array Value} {E:Env} {gvs:Array Value} (hS:St { g with gs:=gvs.toList } B w0 I0 E) (hv:E.V rv v) (hfr:E.L fr tmps.toList) {k:AV→ia→Option R}
  (h:C0 L Γ n f2 fn.results.toList rv fr E.H k=some r) {u:FrameMode} (hu:Mode0 u v) {Q:Ending→World→Prop}
  (hk:∀ gs av v (E':Env),St { g with gs:=gs } B w0 I0 E'→E'.V av v→k av E'.H=some r→Q (.returned v) E'.w):
  Leaves P fn tmps Q [{ target:=.fn (.func q) #[],args:=gvs }] u E.w:=by
 refine leaves_cons (f:=q) (args:=gvs) (by cases hu<;>simp) (by simpa [invoke] using hen gvs E.w) ?_
 unfold C0 at h
 split at h
 · rename_i ga hrow
   have hga:=tJ hS hrow
   unfold B9 at h
   obtain ⟨hno,h⟩:=sa h
   generalize horder:order (ga++fr) E.H=o at h hno
   have hnd:o.Nodup:=horder▸Gr _ _
   have hgc:=hS.gc hnd
   have hreg:St g B w0 I0 (AO E o):=hgc.regs (gs:=g.gs) hno
   refine (nT (frv:=tmps.toList) hL hP hG hm hq hR hreg hno (VP (fun b hb=>⟨hb,rfl⟩) rv _ _ v (fun r p q hT hq=>Mu hT hq) hv) (qE (fun b hb=>⟨hb,rfl⟩) ga _ _ _ (fun r p q hT hq=>Mu hT hq) hga)
    (qE (fun b hb=>⟨hb,rfl⟩) fr _ _ _ (fun r p q hT hq=>Mu hT hq) hfr) h hu (Rr:=fun w'=>Leaves P fn tmps Q [] .returning w') (fun l E' h1 h2 h3=>?_)).mono ?_
   · split at h3
     · rename_i l2 hl2
       obtain ⟨x,hx,hV⟩:=Sw hL h1 h2 hl2
       exact ⟨x,hx,hk _ _ x E' h1 hV h3⟩
     · cases h3
   · rintro e u' w' ⟨⟨x,rfl⟩,hset,hl⟩
     simp only [hset]
     exact hl
 · cases h
theorem H0 (hL:Ub P L) {Γ:Callees R} (hP:PureOk P g Γ) (hG:CsOk P g Γ) (hm:P.follows .mixedOrders=true) {hint:Hint R} {n:Nat} {f q:FuncId} {fn f2:Func} (hf:P.funcs[f]?=some fn) (hq:P.funcs[q]?=some f2) (hen:Enters P q)
  (hR:∀ c ca c' cr cb,fn.body=some c→dV c=some (ca,c')→dV c'=some (cr,cb)→ta L Γ hint n ca 0∧ta L Γ hint n cb 0) (hR2:∀ c c1 c2,f2.body=some c→dV c=some (c1,c2)→ta L Γ GT n c2 0)
  {args:List AV} {vs:List Value} {E:Env} (hS:St g B w0 I0 E) (hE:E.H=[]) (hargs:E.L args vs) {k:AV→ia→Option R} (h:fnD L Γ hint n q f2 fn args k=some r) {Q:Ending→World→Prop}
  (hk:∀ gs av v (E':Env),St { g with gs:=gs } B w0 I0 E'→E'.V av v→k av E'.H=some r→Q (.returned v) E'.w):Calls P f vs.toArray E.w Q:=by
 unfold fnD at h
 split at h
 · rename_i c hc
   split at h
   · rename_i ca c' hs1
     split at h
     · rename_i cr cb hs2
       split at h
       · rename_i ops ho
         split at h
         · rename_i d hd
           split at h
           · rename_i fo hfo
             refine calls_of_wp_defers hf hc ?_
             obtain ⟨hRa,hRb⟩:=hR _ _ _ _ _ hc hs1 hs2
             have e1:=Vw hs1
             have e2:=Vw hs2
             obtain ⟨id,e3⟩:=BU ho
             subst e1 e2 e3
             obtain ⟨t0,p0,a0,hops⟩:=WZ hd
             have hops:ops= #[⟨none,.defer d,t0,p0,a0,none⟩]:=by rw [←Array.toArray_toList (xs:=ops),hops]
             subst hops
             refine wp_seq (GC (ds:=[]) hL hP hG hm ca 0 hRa _ _ _ E _ (by rw [hE];exact h) hS (rX hargs _) rfl ⟨fun fr E1 a1 h1 h2 h3 h4=>?_,fun id fr E1 a1 h1 h2 h3 h4=>?_,fun fr E1 a1 h1 h2 h3 h4=>?_,fun av v fr E1 a1 h1 _ h2 h3 h4=>?_⟩)
             · simp only at h4
               split at h4
               · rename_i q' hqv
                 obtain ⟨hcond,h5⟩:=sa h4
                 simp only [Bool.and_eq_true] at hcond
                 have hqq:=Nat.eq_of_beq_eq_true hcond.1
                 subst hqq
                 have hfv:=Wz h2 fo
                 rw [hqv] at hfv
                 simp only [Env.V,VR] at hfv
                 obtain ⟨cap,hfv,hcap⟩:=hfv
                 have hcap:cap= #[]:=by
                  rcases cap with ⟨_ | ⟨x,xs⟩⟩
                  · rfl
                  · simp [LR] at hcap
                 subst hcap
                 have hga:E1.L (d.args.toList.map (evA fr)) (d.args.map a1.eval).toList:=by
                  rw [Array.toList_map]
                  exact iV (Wz h2) _
                 refine wp_seq (wp_region_list ?_)
                 have hwant:Region.wanted (⟨none,.defer d,t0,p0,a0,none⟩:Oper) (yielded #[(⟨none,.defer d,t0,p0,a0,none⟩:Oper)] a1.tmps)=true:=rfl
                 have hrun:(execOp a1.eval (⟨none,.defer d,t0,p0,a0,none⟩:Oper)).run P E1.w=.ok (.defer { target:=.fn (.func q') #[],args:=d.args.map a1.eval }) E1.w:=by
                  obtain ⟨callee,ag,ats⟩:=d
                  simp only at hfo
                  subst hfo
                  simp [execOp,resolve,hfv,Deferred.ofValue]
                 unfold wpList
                 rw [if_pos hwant]
                 refine .inl ?_
                 unfold Oper.wp
                 rw [hrun,Oper.upon_defer]
                 unfold wpList
                 obtain ⟨s1,s2⟩:=(h1.regs (gs:=(d.args.map a1.eval).toList) hcond.2).ghost (W:=Zt (d.args.toList.map (evA fr))) (d.args.map a1.eval).toList rfl rfl rfl (fun l _ _ hl=>by cases hl;exact sX hga) (fun _ _=>rfl)
                 refine GC (ds:=[{ target:=.fn (.func q') #[],args:=d.args.map a1.eval }]) hL hP.regs hG.regs hm cb 0 hRb _ _ _ { E1 with m:=upd E1.m E1.H.length ⟨0,0,false,(d.args.map a1.eval).toList⟩,H:=E1.H++[some (Zt (d.args.toList.map (evA fr)))] } _ h5 s1 (s2.L (Zb _) h2) (by simp [Act.put,h3])
                  ⟨fun fr E2 a2 k1 k2 k3 k4=>?_,fun id fr E2 a2 k1 k2 k3 k4=>?_,fun fr E2 a2 k1 k2 k3 k4=>?_,fun av v fr E2 a2 k1 k2 kv k3 k4=>?_⟩
                 · show Leaves _ _ _ _ _ _ _
                   rw [k3]
                   exact wF hL hP hG hm hq hen hR2 k1 (V_b.2 rfl) k2 k4 .ret hk
                 · cases k4
                 · show Leaves _ _ _ _ _ _ _
                   rw [k3]
                   exact wF hL hP hG hm hq hen hR2 k1 (V_b.2 rfl) k2 k4 .ret hk
                 · show Leaves _ _ _ _ _ _ _
                   rw [k3]
                   exact wF hL hP hG hm hq hen hR2 k1 kv k2 k4 (.pan v) hk
               · cases h4
             · cases h4
             · cases h4
             · cases h4
           · cases h
         · cases h
       · cases h
     · cases h
   · cases h
 · cases h
theorem tY (hL:Ub P L) {es:List Entry} (hes:AllOk P g es) (hm:P.follows .mixedOrders=true) {hint:Hint Out} {n:Nat} {f q:FuncId} {fn f2:Func} (hf:P.funcs[f]?=some fn) (hq:P.funcs[q]?=some f2) (hen:Enters P q)
  (hR:∀ c ca c' cr cb,fn.body=some c→dV c=some (ca,c')→dV c'=some (cr,cb)→ta L (da Out es) hint n ca 0∧ta L (da Out es) hint n cb 0) (hR2:∀ c c1 c2,f2.body=some c→dV c=some (c1,c2)→ta L (da Out es) GT n c2 0) {args:List AV} {out:Out}
  (h:fnD L (da Out es) hint n q f2 fn args (lZ fun v=>some (.ret v))=some out):Ans P g f args out:=by
 intro w I vs hI hg hn hargs
 have hS:St g (fun k=>k<w.heap.size) w I { w:=w,I:=I,m:=sw,H:=[] }:=⟨Kept.refl _ _,fun k h=>h,fun k hk=>Nat.lt_of_lt_of_le hk hn,hn,hg,hI,fun b h=>h,fun b h=>.inl h,fun r W h=>by simp at h,fun r r' W W' h=>by simp at h,fun r W h=>by simp at h⟩
 have htab:tab []=Fb:=by funext q;simp [tab,Fb]
 refine H0 hL (ao hes) (jw hes) hm hf hq hen hR hR2 hS rfl (args:=args) (vs:=vs) (by simp only [Env.L,htab];exact hargs) h (fun gs av v E' hS' hV hh=>?_)
 obtain ⟨rfl,h2,h3⟩:=GW (c:=Out.ret) hS' hV hh
 exact ⟨v,_,rfl,hS'.below.below (fun k h=>h),fun b hb=>.inl (hS'.imono b hb),fun b hb=>hb.elim (fun h=>(hS'.ifresh b h).imp_right Nat.le_of_not_lt) (fun h=>.inr (Nat.le_of_not_lt h.1)),fun b hb=>hb.elim (fun h=>hS'.isz b h) (fun h=>h.2),h3⟩
theorem Wab {Γ:Callees R} {hint:Hint R} {n:Nat} {fn:Func} (h:ta L Γ hint n (Da [0] (aa fn)) 0∧ta L Γ hint n (Da [1,1] (aa fn)) 0):
  ∀ c ca c' cr cb,fn.body=some c→dV c=some (ca,c')→dV c'=some (cr,cb)→ta L Γ hint n ca 0∧ta L Γ hint n cb 0:=fun c ca c' cr cb hc h1 h2=>by
 have e1:=Vw h1
 have e2:=Vw h2
 subst e1 e2
 have:aa fn=.seq ca (.seq cr cb):=by unfold aa;rw [hc];rfl
 rw [this] at h
 exact h
theorem T9 {Γ:Callees R} {n:Nat} {fn:Func} (h:ta L Γ (GT (R:=R)) n (Da [1] (aa fn)) 0):∀ c c1 c2,fn.body=some c→dV c=some (c1,c2)→ta L Γ GT n c2 0:=fun c c1 c2 hc h1=>by
 have e1:=Vw h1
 subst e1
 have:aa fn=.seq c1 c2:=by unfold aa;rw [hc];rfl
 rw [this] at h
 exact h
theorem ZQ {f:FuncId} {args:List Value} {v:Value} (h:∀ w,g.G w→g.n≤w.heap.size→Calls P f args.toArray w fun e w'=>e=.returned v∧Below w.heap.size w w'):Ans P g f (args.map AV.b) (.ret (.b v)):=by
 intro w I vs hI hg hn hargs
 have hvs:vs=args:=by
  clear h
  induction args generalizing vs with
  | nil=>cases vs with
   | nil=>rfl
   | cons _ _=>simp [LR] at hargs
  | cons a rest ih=>cases vs with
   | nil=>simp [LR] at hargs
   | cons u us=>
    simp only [List.map_cons,LR,VR] at hargs
    rw [hargs.1,ih us hargs.2]
 subst hvs
 refine (h w hg hn).mono ?_
 rintro e w' ⟨rfl,hb⟩
 exact ⟨v,I,rfl,hb,fun _ h=>h,fun _ h=>.inl h,fun b h=>Nat.lt_of_lt_of_le (hI b h) hb.size,rfl⟩
theorem nH {f:FuncId} {pc:{R:Type}→List AV→(AV→Option R)→(AV→Option R)→Option R} {args:List Value} {v:Value} (h:EntryOk P g ⟨f,pc,none,none⟩) (hp:pc (R:=AV) (args.map AV.b) some (fun _=>none)=some (.b v))
  {w0 w:World} (hg:g.G w0) (hn:g.n≤w0.heap.size) (hb:Below w0.heap.size w0 w):Calls P f args.toArray w fun e w'=>e=.returned v∧Below w.heap.size w w':=by
 have hl:∀ l:List Value,LR w (fun _=>False) sw Fb (l.map AV.b) l:=fun l=>by
  induction l with
  | nil=>simp [LR]
  | cons a rest ih=>simp only [List.map_cons,LR,VR];exact ⟨trivial,ih⟩
 rcases h.ans rfl rfl AV _ some (fun _=>none) _ hp with ⟨av,h1,_,hA⟩ | ⟨av,h1,_⟩
 · cases h1
   refine (hA w (fun _=>False) args (fun _ h=>h.elim) (g.stab w0 w (hb.mono hn) hg) (Nat.le_trans hn hb.size) (hl args)).mono ?_
   rintro e w' ⟨v',I',rfl,hb',_,_,_,hv⟩
   simp only [Out.av,VR] at hv
   subst hv
   exact ⟨rfl,hb'⟩
 · cases h1
end
end Go.Proofs.YtddefjokgaajfaaGreatDoor.AM
