/- Callers, plainly: a text that is sent line by line (CallerTexts). -/
import Derived.Test.YtddefjokgaajfaaGreatDoorUW
import Derived.Test.YtddefjokgaajfaaGreatDoorUG
set_option linter.all false
set_option linter.unusedVariables false
set_option linter.unusedSimpArgs false
namespace Go.Proofs.YtddefjokgaajfaaGreatDoor.AM
open Go Go.RowKit
set_option maxRecDepth 100000
abbrev xx:BA:=⟨#[120]⟩
abbrev tC (to:Sq jX) (da:Sq BA) (by':Int) (ov:Bool):T0:=WX 1 0 5 eS false 4 xx true eS eS to da by' ov
theorem Lg (n:Nat) (e:Int):Hc n e=some e:=rfl
theorem bW (n:Nat) (s:BA):∃ t last,Xb n s=some (t,(last,()))∧t.size≤s.size:=by
 unfold Xb He
 by_cases h:(s.toList==(⟨#[46]⟩:BA).toList)=true
 · exact ⟨⟨#[]⟩,true,by rw [if_pos h],Nat.zero_le _⟩
 · rw [if_neg h,CP,Option.bind_some]
   refine ⟨_,false,rfl,?_⟩
   split
   · rw [ByteArray.size_extract];omega
   · exact Nat.le_refl _
theorem uT (n:Nat) (s:BA) (h:(bs s).head?=some 46):Xb n ((⟨#[46]⟩:BA)++s)=some (s,(false,())):=by
 have hb:bs ((⟨#[46]⟩:BA)++s)=46::bs s:=by rw [aL];rfl
 unfold Xb He
 have h1:¬((((⟨#[46]⟩:BA)++s).toList==(⟨#[46]⟩:BA).toList)=true):=by
  rw [Xg,hb]
  intro hc
  have hc:=of_decide_eq_true hc
  have:bs s=[]:=(List.cons.inj hc).2
  rw [this] at h;cases h
 rw [if_neg h1,CP,Option.bind_some,hb,if_pos (by rfl)]
 have he:((⟨#[46]⟩:BA)++s).extract 1 ((⟨#[46]⟩:BA)++s).size=s:=HR (by rw [Si,←Fa,hb,List.take_length];rfl)
 rw [he]
theorem kI (n:Nat) (s:BA) (h:(bs s).head?≠some 46):Xb n s=some (s,(false,())):=by
 unfold Xb He
 have h1:¬((s.toList==(⟨#[46]⟩:BA).toList)=true):=by
  rw [Xg]
  intro hc
  rw [of_decide_eq_true hc] at h;exact h rfl
 rw [if_neg h1,CP,Option.bind_some,if_neg h]
abbrev xi (da:Sq BA) (v:BA):Sq BA:=⟨da.n+1,fun q=>if q<da.n then da.at' q else (fun q=>List.getD (α:=BA) [v] q (ua .str)) (q - da.n)⟩
section
variable (n:Nat) (hn:10000000≤n) (to:Sq jX) (ht:to.n≤8) (htS:∀ i,i<to.n→(to.at' i).1.size≤20000∧(to.at' i).2.1.size≤20000) (hE:∀ da by' ov,YS (tC to da by' ov)=UN 4 (uY bs da) by' ov)
include hn ht htS hE
theorem LU (da:Sq BA) (by':Int) (ov:Bool) (hda:da.n≤25000) (hdS:∀ i,i<da.n→(da.at' i).size≤20000) (hm:UN 4 (uY bs da) by' ov=true) (h0:0≤by') (h1:by'≤8192)
  (s v:BA) (last lg:Bool) (hT:Xb n s=some (v,(last,()))) (hl:(last&&!lg)=false) (hv:v.size≤20000):
  ff n (tC to da by' ov) (s,(lg,()))=some ((if ov=true then tC to da by' ov else if lg=true∨cd (bs v)=false∨by'+(v.size:Int)+2>8192 then tC to HY 0 true else tC to (xi da v) (by'+(v.size:Int)+2) false),(0,(eS,(0,())))):=by
 have hok:Ok 25000 (tC to da by' ov):=⟨by show (0:Nat)≤_;omega,by show (1:Nat)≤_;omega,by show (0:Nat)≤_;omega,by show (0:Nat)≤_;omega,Nat.le_trans ht (by omega),htS,hda,hdS⟩
 have h:=jJ n _ (hok.mono (by omega)) hn
 rw [hE,hm] at h
 have o1:=fG n 1 0 5 eS false 4 xx true eS eS to da by' ov (by omega) (by omega)
 have o2:∀ by2 ov2,_:=fun by2 ov2=>fG n 1 0 5 eS false 4 xx true eS eS to da by2 ov2 (by omega) (by omega)
 have o3:∀ by2 ov2,_:=fun by2 ov2=>fG n 1 0 5 eS false 4 xx true eS eS to HY by2 ov2 (by omega) (by show (0:Nat)≤_;omega)
 have o4:∀ by2 ov2,_:=fun by2 ov2=>fG n 1 0 5 eS false 4 xx true eS eS to (xi da v) by2 ov2 (by omega) (by show da.n+1≤_;omega)
 have hL:=kL n v (by omega)
 have f1:=DV (n:=da.n) (by omega)
 have w0:IntKind.wrap .i64 (by'+(v.size:Int))=by'+(v.size:Int):=wr (by omega) (by omega)
 have w1:IntKind.wrap .i64 (by'+(v.size:Int)+2)=by'+(v.size:Int)+2:=wr (by omega) (by omega)
 have hX:Kb n 1 0 5 eS false 4 xx true eS eS by' ov (s,(lg,())) to da=some ((if ov=true then tC to da by' ov else if lg=true∨cd (bs v)=false∨by'+(v.size:Int)+2>8192 then tC to HY 0 true else tC to (xi da v) (by'+(v.size:Int)+2) false),(eS,())):=by
  unfold Kb oe
  cases ov
  · cases lg
    · cases last
      · by_cases g:cd (bs v)=true
        · by_cases g2:by'+(v.size:Int)+2>8192
          · simp only [hT,hL,f1,g,g2,w0,w1,Option.bind_some,if_true,Bool.false_eq_true,if_false,false_or,or_true,Bool.true_eq_false,decide_true,Bool.not_true,Bool.not_false]
          · simp only [hT,hL,f1,g,g2,w0,w1,Option.bind_some,if_true,Bool.false_eq_true,if_false,false_or,or_false,Bool.true_eq_false,decide_false,Bool.not_true,Bool.not_false]
            try rfl
        · have g:cd (bs v)=false:=by simpa using g
          simp only [hT,hL,f1,g,w0,w1,Option.bind_some,if_true,Bool.false_eq_true,if_false,false_or,true_or,or_true,Bool.true_eq_false,Bool.not_true,Bool.not_false]
      · cases hl
    · cases last<;>simp only [hT,Option.bind_some,if_true,Bool.false_eq_true,if_false,true_or,Bool.true_eq_false,Bool.not_true,Bool.not_false]
  · cases lg
    · cases last
      · simp only [hT,Option.bind_some,if_true,Bool.false_eq_true,if_false,Bool.true_eq_false,Bool.not_true,Bool.not_false]
      · cases hl
    · cases last<;>simp only [hT,Option.bind_some,if_true,Bool.false_eq_true,if_false,Bool.true_eq_false,Bool.not_true,Bool.not_false]
 have hH:qc n 1 0 5 eS false 4 xx true eS eS by' ov (s,(lg,())) to da=some ((if ov=true then tC to da by' ov else if lg=true∨cd (bs v)=false∨by'+(v.size:Int)+2>8192 then tC to HY 0 true else tC to (xi da v) (by'+(v.size:Int)+2) false),(0,(eS,(((0:Int),(eS,(false,((eS,(eS,())),((0:Int),()))))),())))):=by
  unfold qc Bd
  rw [if_pos (by rfl),hX,Option.bind_some,ia]
 unfold ff Jl
 rw [h,Option.bind_some,if_neg (by simp),if_neg (by show ¬(((4:Int)==5)=true);decide),ia,o1,Option.bind_some]
 dsimp only
 rw [hH,Option.bind_some]
 dsimp only
 split
 · rw [o2,Option.bind_some]
 · split
   · rw [o3,Option.bind_some]
   · rw [o4,Option.bind_some]
end
def InvT (i:Nat) (over:Bool) (n0:Int) (da want:Sq BA) (by':Int):Prop:=
 want.n≤i∧0≤n0∧n0≤20002*i∧da.n≤i∧(∀ q,q<da.n→(da.at' q).size≤20000)∧0≤by'∧by'≤8192∧UN 4 (uY bs da) by' over=true∧(over=false→SqE da want∧by'=n0)
theorem bI:∀ (l:List (List Int)) (x:List Int),sw (l++[x])=sw l+(x.length:Int)+2
 | [],x=>by simp [sw]
 | a::l,x=>by simp only [List.cons_append,sw,bI l x];omega
theorem XV (da:Sq BA) (v:BA) (h:∀ q,q<da.n→(da.at' q).size≤20000) (hv:v.size≤20000):∀ q,q<(xi da v).n→((xi da v).at' q).size≤20000:=fun q hq=>by
 have hq':q<da.n+1:=hq
 show (if q<da.n then da.at' q else List.getD [v] (q - da.n) (ua .str)).size≤20000
 by_cases g:q<da.n
 · rw [if_pos g];exact h q g
 · rw [if_neg g,show q - da.n=0 by omega];exact hv
theorem InvT.over1 {i:Nat} {n0 n1:Int} {da want want':Sq BA} {by':Int} (h:InvT i true n0 da want by') (hw:want'.n≤i+1) (h1:0≤n1) (h2:n1≤20002*(i+1:Nat)):InvT (i+1) true n1 da want' by':=
 ⟨hw,h1,h2,Nat.le_succ_of_le h.2.2.2.1,h.2.2.2.2.1,h.2.2.2.2.2.1,h.2.2.2.2.2.2.1,h.2.2.2.2.2.2.2.1,fun hc=>by cases hc⟩
theorem InvT.zero {i:Nat} {n1:Int} {want':Sq BA} (hw:want'.n≤i+1) (h1:0≤n1) (h2:n1≤20002*(i+1:Nat)):InvT (i+1) true n1 HY want' 0:=
 ⟨hw,h1,h2,Nat.zero_le _,fun q hq=>absurd hq (Nat.not_lt_zero q),by decide,by decide,by rfl,fun hc=>by cases hc⟩
theorem InvT.more {i:Nat} {n0:Int} {da want:Sq BA} {by':Int} {v:BA} (h:InvT i false n0 da want by') (hv:v.size≤20000) (hl:cd (bs v)=true) (hn:n0+(v.size:Int)+2≤8192):InvT (i+1) false (n0+(v.size:Int)+2) (xi da v) (xi want v) (by'+(v.size:Int)+2):=by
 obtain ⟨h1,h2,h3,h4,h5,h6,h7,h8,h9⟩:=h
 obtain ⟨e1,e2⟩:=h9 rfl
 subst e2
 refine ⟨Nat.succ_le_succ h1,by omega,by omega,Nat.succ_le_succ h4,XV da v h5 hv,by omega,hn,?_,fun _=>⟨SqE.snoc e1 v _ _,rfl⟩⟩
 unfold UN at h8 ⊢
 rw [if_pos ⟨rfl,rfl⟩] at h8 ⊢
 rw [UL bs da v (ua .str),List.all_append,bI,Fa]
 simp only [Bool.and_eq_true,decide_eq_true_eq] at h8
 simp only [h8.1,List.all_cons,List.all_nil,hl,Bool.and_true,Bool.true_and,Bool.and_eq_true,decide_eq_true_eq]
 exact ⟨by rw [←h8.2.1],hn⟩
section
variable (n:Nat) (hn:10000000≤n) (to:Sq jX) (ht:to.n≤8) (htS:∀ i,i<to.n→(to.at' i).1.size≤20000∧(to.at' i).2.1.size≤20000) (hE:∀ da by' ov,YS (tC to da by' ov)=UN 4 (uY bs da) by' ov)
variable (p1 p2 p3:Int) (p4:BA) (p5:Bool) (p6:Int) (p7:BA) (p8:Bool) (p9 p10:BA) (p11:Sq jX) (p12:Sq BA) (p13:Int) (p14:Bool) (l:Sq T2)
include hn ht htS hE
theorem nR (hl:l.n≤100) (hS:∀ j,j<l.n→kX 20000 (l.at' j)):∀ (d i m:Nat) (n0:Int) (over:Bool) (da want:Sq BA) (by':Int),i+d=l.n→d<m→InvT i over n0 da want by'→
  ∃ da2 want2 by2 ov2 n2,qa n m n0 over (i:Int) p1 p2 p3 p4 p5 p6 p7 p8 p9 p10 p11 p12 p13 p14 l 1 0 5 eS false 4 xx true eS eS to da by' over want=some (.out (ov2,(1,(0,(5,(eS,(false,(4,(xx,(true,(eS,(eS,(to,(da2,(by2,(ov2,want2))))))))))))))))∧InvT l.n ov2 n2 da2 want2 by2:=by
 intro d
 induction d with
 | zero=>
  intro i m n0 over da want by' hi hm hv
  obtain ⟨m,rfl⟩:∃ q,m=q+1:=⟨m - 1,by omega⟩
  have a4:¬((i:Int)<(l.n:Int)):=by omega
  refine ⟨da,want,by',over,n0,?_,by rw [show l.n=i by omega];exact hv⟩
  simp only [qa,ta,a4,decide_false,Bool.false_eq_true,if_false]
 | succ d ih=>
  intro i m n0 over da want by' hi hm hv
  obtain ⟨m,rfl⟩:∃ q,m=q+1:=⟨m - 1,by omega⟩
  have a4:(i:Int)<(l.n:Int):=by omega
  have a3:(0:Int)≤(i:Int):=by omega
  have e1:=EY (k:=i) (by omega)
  obtain ⟨s1, -, -, -⟩:=hS i (by omega)
  generalize hq:l.at' i=q at s1
  obtain ⟨q1,q2,q3,⟨tx,lg,⟨⟩⟩,q5,⟨⟩⟩:=q
  have s1:tx.size≤20000:=s1
  have hv0:=hv
  obtain ⟨v1,v2,v3,v4,v5,v6,v7,v8,v9⟩:=hv
  have f1:=DV (n:=want.n) (by omega)
  have w0:IntKind.wrap .i64 (n0+(tx.size:Int))=n0+(tx.size:Int):=wr (by omega) (by omega)
  have w1:IntKind.wrap .i64 (n0+(tx.size:Int)+2)=n0+(tx.size:Int)+2:=wr (by omega) (by omega)
  have r1:(want.n+1:Nat)≤i+1:=by omega
  have r2:0≤n0+(tx.size:Int)+2:=by omega
  have r3:n0+(tx.size:Int)+2≤20002*(i+1:Nat):=by omega
  have b0:((0:Int) !=0)=false:=rfl
  have b1:(!(eS.toList==(⟨#[]⟩:BA).toList))=false:=by rw [Xg];rfl
  have b2:(!(true==true))=false:=rfl
  have b3:(!(false==false))=false:=rfl
  cases lg with
  | true=>
   obtain ⟨v,last,hT,hvv⟩:=bW n tx
   have hL:=LU n hn to ht htS hE da by' over (by omega) v5 v8 v6 v7 tx v last true hT (by cases last<;>rfl) (by omega)
   cases over with
   | true=>
    simp only [if_true] at hL
    obtain ⟨da2,want2,by2,ov2,n2,h1,h2⟩:=ih (i+1) m n0 true da want by' (by omega) (by omega) (hv0.over1 (by omega) (by omega) (by omega))
    refine ⟨da2,want2,by2,ov2,n2,?_,h2⟩
    simp only [tC,WX] at hL
    simp only [qa,ta,wa,sa,iY,a3,a4,e1,hq,hL,Lg,b0,b1,b2,Int.toNat_natCast,decide_true,if_true,and_self,Option.bind_some,Bool.false_eq_true,if_false]
    exact h1
   | false=>
    simp only [true_or,if_true,Bool.false_eq_true,if_false] at hL
    obtain ⟨da2,want2,by2,ov2,n2,h1,h2⟩:=ih (i+1) m n0 true HY want 0 (by omega) (by omega) (.zero (by omega) (by omega) (by omega))
    refine ⟨da2,want2,by2,ov2,n2,?_,h2⟩
    simp only [tC,WX] at hL
    simp only [qa,ta,wa,sa,iY,a3,a4,e1,hq,hL,Lg,b0,b1,b2,Int.toNat_natCast,decide_true,if_true,and_self,Option.bind_some,Bool.false_eq_true,if_false]
    exact h1
  | false=>
   have hC:=eQ n tx (by omega) hn
   have Y:∀ s',Xb n s'=some (tx,(false,()))→_:=fun s' hT=>LU n hn to ht htS hE da by' over (by omega) v5 v8 v6 v7 s' tx false false hT rfl s1
   have lg1:¬((509:Int)<(tx.size:Int))∨cd (bs tx)=false:=by
    by_cases g:(509:Int)<(tx.size:Int)
    · right;unfold cd;rw [Fa,decide_eq_false (by omega)];rfl
    · exact .inl g
   cases hb:bs tx with
   | nil=>
    have z0:tx.size=0:=by rw [←Fa,hb];rfl
    have z1:¬((0:Int)<(tx.size:Int)):=by omega
    have hT:=kI n tx (by rw [hb];simp)
    have hL:=Y tx hT
    cases over with
    | true=>
     simp only [if_true] at hL
     simp only [tC,WX] at hL
     obtain ⟨da2,want2,by2,ov2,n2,h1,h2⟩:=ih (i+1) m (n0+(tx.size:Int)+2) true da (xi want tx) by' (by omega) (by omega) (hv0.over1 r1 r2 r3)
     refine ⟨da2,want2,by2,ov2,n2,?_,h2⟩
     by_cases g1:(509:Int)<(tx.size:Int)
     · simp only [qa,ta,wa,sa,iY,a3,a4,e1,hq,hL,Lg,b0,b1,b2,b3,f1,w0,w1,hC,g1,z1,gt_iff_lt,Int.toNat_natCast,decide_true,decide_false,if_true,and_self,Option.bind_some,Bool.false_eq_true,Bool.true_eq_false,if_false,Bool.not_true,Bool.not_false]
       exact h1
     · cases hk:cd (bs tx) with
       | true=>
        rw [hk] at hC
        simp only [qa,ta,wa,sa,iY,a3,a4,e1,hq,hL,Lg,b0,b1,b2,b3,f1,w0,w1,hC,g1,z1,gt_iff_lt,Int.toNat_natCast,decide_true,decide_false,if_true,and_self,Option.bind_some,Bool.false_eq_true,Bool.true_eq_false,if_false,Bool.not_true,Bool.not_false]
        exact h1
       | false=>
        rw [hk] at hC
        simp only [qa,ta,wa,sa,iY,a3,a4,e1,hq,hL,Lg,b0,b1,b2,b3,f1,w0,w1,hC,g1,z1,gt_iff_lt,Int.toNat_natCast,decide_true,decide_false,if_true,and_self,Option.bind_some,Bool.false_eq_true,Bool.true_eq_false,if_false,Bool.not_true,Bool.not_false]
        exact h1
    | false=>
     obtain ⟨u1,u2⟩:=v9 rfl
     subst u2
     cases hk:cd (bs tx) with
     | false=>
      rw [hk] at hC
      simp only [hk,true_or,or_true,if_true,Bool.false_eq_true,if_false] at hL
      simp only [tC,WX] at hL
      obtain ⟨da2,want2,by2,ov2,n2,h1,h2⟩:=ih (i+1) m (by'+(tx.size:Int)+2) true HY (xi want tx) 0 (by omega) (by omega) (.zero r1 r2 r3)
      refine ⟨da2,want2,by2,ov2,n2,?_,h2⟩
      by_cases g1:(509:Int)<(tx.size:Int)
      · simp only [qa,ta,wa,sa,iY,a3,a4,e1,hq,hL,Lg,b0,b1,b2,b3,f1,w0,w1,hC,g1,z1,gt_iff_lt,Int.toNat_natCast,decide_true,decide_false,if_true,and_self,Option.bind_some,Bool.false_eq_true,Bool.true_eq_false,if_false,Bool.not_true,Bool.not_false]
        exact h1
      · simp only [qa,ta,wa,sa,iY,a3,a4,e1,hq,hL,Lg,b0,b1,b2,b3,f1,w0,w1,hC,g1,z1,gt_iff_lt,Int.toNat_natCast,decide_true,decide_false,if_true,and_self,Option.bind_some,Bool.false_eq_true,Bool.true_eq_false,if_false,Bool.not_true,Bool.not_false]
        exact h1
     | true=>
      rw [hk] at hC
      have g1:¬((509:Int)<(tx.size:Int)):=lg1.resolve_right (by rw [hk];decide)
      by_cases g2:by'+(tx.size:Int)+2>8192
      · simp only [hk,g2,or_true,if_true,Bool.false_eq_true,if_false] at hL
        simp only [tC,WX] at hL
        have g3:(8192:Int)<by'+(tx.size:Int)+2:=g2
        obtain ⟨da2,want2,by2,ov2,n2,h1,h2⟩:=ih (i+1) m (by'+(tx.size:Int)+2) true HY (xi want tx) 0 (by omega) (by omega) (.zero r1 r2 r3)
        refine ⟨da2,want2,by2,ov2,n2,?_,h2⟩
        simp only [qa,ta,wa,sa,iY,a3,a4,e1,hq,hL,Lg,b0,b1,b2,b3,f1,w0,w1,hC,g1,z1,g3,gt_iff_lt,Int.toNat_natCast,decide_true,decide_false,if_true,and_self,Option.bind_some,Bool.false_eq_true,Bool.true_eq_false,if_false,Bool.not_true,Bool.not_false]
        exact h1
      · simp only [hk,g2,or_false,Bool.true_eq_false,Bool.false_eq_true,if_false] at hL
        simp only [tC,WX] at hL
        have g3:¬((8192:Int)<by'+(tx.size:Int)+2):=g2
        obtain ⟨da2,want2,by2,ov2,n2,h1,h2⟩:=ih (i+1) m (by'+(tx.size:Int)+2) false (xi da tx) (xi want tx) (by'+(tx.size:Int)+2) (by omega) (by omega) (hv0.more s1 hk (by omega))
        refine ⟨da2,want2,by2,ov2,n2,?_,h2⟩
        simp only [qa,ta,wa,sa,iY,a3,a4,e1,hq,hL,Lg,b0,b1,b2,b3,f1,w0,w1,hC,g1,z1,g3,gt_iff_lt,Int.toNat_natCast,decide_true,decide_false,if_true,and_self,Option.bind_some,Bool.false_eq_true,Bool.true_eq_false,if_false,Bool.not_true,Bool.not_false]
        exact h1
   | cons c r=>
    obtain ⟨y1,y2,y3,y4,y5⟩:=Fl (s:=tx) (k:=0) (by rw [List.drop_zero];exact hb)
    have z1:(0:Int)<(tx.size:Int):=y1
    have z2:bt tx 0=c:=y2
    have z3:(0:Int)≤0:=by decide
    by_cases gc:c=46
    · have z4:(c==(46:Int))=true:=by rw [gc];rfl
      have z5:Af (⟨#[46]⟩:BA) tx=true:=kV (by show 1+tx.size≤_;omega)
      have hT:=uT n tx (by rw [hb,gc];rfl)
      have hL:=Y ((⟨#[46]⟩:BA)++tx) hT
      cases over with
      | true=>
       simp only [if_true] at hL
       simp only [tC,WX] at hL
       obtain ⟨da2,want2,by2,ov2,n2,h1,h2⟩:=ih (i+1) m (n0+(tx.size:Int)+2) true da (xi want tx) by' (by omega) (by omega) (hv0.over1 r1 r2 r3)
       refine ⟨da2,want2,by2,ov2,n2,?_,h2⟩
       by_cases g1:(509:Int)<(tx.size:Int)
       · simp only [qa,ta,wa,sa,iY,a3,a4,e1,hq,hL,Lg,b0,b1,b2,b3,f1,w0,w1,hC,g1,z1,z2,z3,z4,z5,gt_iff_lt,Int.toNat_natCast,decide_true,decide_false,if_true,and_self,Option.bind_some,Bool.false_eq_true,Bool.true_eq_false,if_false,Bool.not_true,Bool.not_false]
         exact h1
       · cases hk:cd (bs tx) with
         | true=>
          rw [hk] at hC
          simp only [qa,ta,wa,sa,iY,a3,a4,e1,hq,hL,Lg,b0,b1,b2,b3,f1,w0,w1,hC,g1,z1,z2,z3,z4,z5,gt_iff_lt,Int.toNat_natCast,decide_true,decide_false,if_true,and_self,Option.bind_some,Bool.false_eq_true,Bool.true_eq_false,if_false,Bool.not_true,Bool.not_false]
          exact h1
         | false=>
          rw [hk] at hC
          simp only [qa,ta,wa,sa,iY,a3,a4,e1,hq,hL,Lg,b0,b1,b2,b3,f1,w0,w1,hC,g1,z1,z2,z3,z4,z5,gt_iff_lt,Int.toNat_natCast,decide_true,decide_false,if_true,and_self,Option.bind_some,Bool.false_eq_true,Bool.true_eq_false,if_false,Bool.not_true,Bool.not_false]
          exact h1
      | false=>
       obtain ⟨u1,u2⟩:=v9 rfl
       subst u2
       cases hk:cd (bs tx) with
       | false=>
        rw [hk] at hC
        simp only [hk,true_or,or_true,if_true,Bool.false_eq_true,if_false] at hL
        simp only [tC,WX] at hL
        obtain ⟨da2,want2,by2,ov2,n2,h1,h2⟩:=ih (i+1) m (by'+(tx.size:Int)+2) true HY (xi want tx) 0 (by omega) (by omega) (.zero r1 r2 r3)
        refine ⟨da2,want2,by2,ov2,n2,?_,h2⟩
        by_cases g1:(509:Int)<(tx.size:Int)
        · simp only [qa,ta,wa,sa,iY,a3,a4,e1,hq,hL,Lg,b0,b1,b2,b3,f1,w0,w1,hC,g1,z1,z2,z3,z4,z5,gt_iff_lt,Int.toNat_natCast,decide_true,decide_false,if_true,and_self,Option.bind_some,Bool.false_eq_true,Bool.true_eq_false,if_false,Bool.not_true,Bool.not_false]
          exact h1
        · simp only [qa,ta,wa,sa,iY,a3,a4,e1,hq,hL,Lg,b0,b1,b2,b3,f1,w0,w1,hC,g1,z1,z2,z3,z4,z5,gt_iff_lt,Int.toNat_natCast,decide_true,decide_false,if_true,and_self,Option.bind_some,Bool.false_eq_true,Bool.true_eq_false,if_false,Bool.not_true,Bool.not_false]
          exact h1
       | true=>
        rw [hk] at hC
        have g1:¬((509:Int)<(tx.size:Int)):=lg1.resolve_right (by rw [hk];decide)
        by_cases g2:by'+(tx.size:Int)+2>8192
        · simp only [hk,g2,or_true,if_true,Bool.false_eq_true,if_false] at hL
          simp only [tC,WX] at hL
          have g3:(8192:Int)<by'+(tx.size:Int)+2:=g2
          obtain ⟨da2,want2,by2,ov2,n2,h1,h2⟩:=ih (i+1) m (by'+(tx.size:Int)+2) true HY (xi want tx) 0 (by omega) (by omega) (.zero r1 r2 r3)
          refine ⟨da2,want2,by2,ov2,n2,?_,h2⟩
          simp only [qa,ta,wa,sa,iY,a3,a4,e1,hq,hL,Lg,b0,b1,b2,b3,f1,w0,w1,hC,g1,z1,z2,z3,z4,z5,g3,gt_iff_lt,Int.toNat_natCast,decide_true,decide_false,if_true,and_self,Option.bind_some,Bool.false_eq_true,Bool.true_eq_false,if_false,Bool.not_true,Bool.not_false]
          exact h1
        · simp only [hk,g2,or_false,Bool.true_eq_false,Bool.false_eq_true,if_false] at hL
          simp only [tC,WX] at hL
          have g3:¬((8192:Int)<by'+(tx.size:Int)+2):=g2
          obtain ⟨da2,want2,by2,ov2,n2,h1,h2⟩:=ih (i+1) m (by'+(tx.size:Int)+2) false (xi da tx) (xi want tx) (by'+(tx.size:Int)+2) (by omega) (by omega) (hv0.more s1 hk (by omega))
          refine ⟨da2,want2,by2,ov2,n2,?_,h2⟩
          simp only [qa,ta,wa,sa,iY,a3,a4,e1,hq,hL,Lg,b0,b1,b2,b3,f1,w0,w1,hC,g1,z1,z2,z3,z4,z5,g3,gt_iff_lt,Int.toNat_natCast,decide_true,decide_false,if_true,and_self,Option.bind_some,Bool.false_eq_true,Bool.true_eq_false,if_false,Bool.not_true,Bool.not_false]
          exact h1
    · have z4:(c==(46:Int))=false:=by simpa using gc
      have hT:=kI n tx (by rw [hb];simpa using gc)
      have hL:=Y tx hT
      cases over with
      | true=>
       simp only [if_true] at hL
       simp only [tC,WX] at hL
       obtain ⟨da2,want2,by2,ov2,n2,h1,h2⟩:=ih (i+1) m (n0+(tx.size:Int)+2) true da (xi want tx) by' (by omega) (by omega) (hv0.over1 r1 r2 r3)
       refine ⟨da2,want2,by2,ov2,n2,?_,h2⟩
       by_cases g1:(509:Int)<(tx.size:Int)
       · simp only [qa,ta,wa,sa,iY,a3,a4,e1,hq,hL,Lg,b0,b1,b2,b3,f1,w0,w1,hC,g1,z1,z2,z3,z4,gt_iff_lt,Int.toNat_natCast,decide_true,decide_false,if_true,and_self,Option.bind_some,Bool.false_eq_true,Bool.true_eq_false,if_false,Bool.not_true,Bool.not_false]
         exact h1
       · cases hk:cd (bs tx) with
         | true=>
          rw [hk] at hC
          simp only [qa,ta,wa,sa,iY,a3,a4,e1,hq,hL,Lg,b0,b1,b2,b3,f1,w0,w1,hC,g1,z1,z2,z3,z4,gt_iff_lt,Int.toNat_natCast,decide_true,decide_false,if_true,and_self,Option.bind_some,Bool.false_eq_true,Bool.true_eq_false,if_false,Bool.not_true,Bool.not_false]
          exact h1
         | false=>
          rw [hk] at hC
          simp only [qa,ta,wa,sa,iY,a3,a4,e1,hq,hL,Lg,b0,b1,b2,b3,f1,w0,w1,hC,g1,z1,z2,z3,z4,gt_iff_lt,Int.toNat_natCast,decide_true,decide_false,if_true,and_self,Option.bind_some,Bool.false_eq_true,Bool.true_eq_false,if_false,Bool.not_true,Bool.not_false]
          exact h1
      | false=>
       obtain ⟨u1,u2⟩:=v9 rfl
       subst u2
       cases hk:cd (bs tx) with
       | false=>
        rw [hk] at hC
        simp only [hk,true_or,or_true,if_true,Bool.false_eq_true,if_false] at hL
        simp only [tC,WX] at hL
        obtain ⟨da2,want2,by2,ov2,n2,h1,h2⟩:=ih (i+1) m (by'+(tx.size:Int)+2) true HY (xi want tx) 0 (by omega) (by omega) (.zero r1 r2 r3)
        refine ⟨da2,want2,by2,ov2,n2,?_,h2⟩
        by_cases g1:(509:Int)<(tx.size:Int)
        · simp only [qa,ta,wa,sa,iY,a3,a4,e1,hq,hL,Lg,b0,b1,b2,b3,f1,w0,w1,hC,g1,z1,z2,z3,z4,gt_iff_lt,Int.toNat_natCast,decide_true,decide_false,if_true,and_self,Option.bind_some,Bool.false_eq_true,Bool.true_eq_false,if_false,Bool.not_true,Bool.not_false]
          exact h1
        · simp only [qa,ta,wa,sa,iY,a3,a4,e1,hq,hL,Lg,b0,b1,b2,b3,f1,w0,w1,hC,g1,z1,z2,z3,z4,gt_iff_lt,Int.toNat_natCast,decide_true,decide_false,if_true,and_self,Option.bind_some,Bool.false_eq_true,Bool.true_eq_false,if_false,Bool.not_true,Bool.not_false]
          exact h1
       | true=>
        rw [hk] at hC
        have g1:¬((509:Int)<(tx.size:Int)):=lg1.resolve_right (by rw [hk];decide)
        by_cases g2:by'+(tx.size:Int)+2>8192
        · simp only [hk,g2,or_true,if_true,Bool.false_eq_true,if_false] at hL
          simp only [tC,WX] at hL
          have g3:(8192:Int)<by'+(tx.size:Int)+2:=g2
          obtain ⟨da2,want2,by2,ov2,n2,h1,h2⟩:=ih (i+1) m (by'+(tx.size:Int)+2) true HY (xi want tx) 0 (by omega) (by omega) (.zero r1 r2 r3)
          refine ⟨da2,want2,by2,ov2,n2,?_,h2⟩
          simp only [qa,ta,wa,sa,iY,a3,a4,e1,hq,hL,Lg,b0,b1,b2,b3,f1,w0,w1,hC,g1,z1,z2,z3,z4,g3,gt_iff_lt,Int.toNat_natCast,decide_true,decide_false,if_true,and_self,Option.bind_some,Bool.false_eq_true,Bool.true_eq_false,if_false,Bool.not_true,Bool.not_false]
          exact h1
        · simp only [hk,g2,or_false,Bool.true_eq_false,Bool.false_eq_true,if_false] at hL
          simp only [tC,WX] at hL
          have g3:¬((8192:Int)<by'+(tx.size:Int)+2):=g2
          obtain ⟨da2,want2,by2,ov2,n2,h1,h2⟩:=ih (i+1) m (by'+(tx.size:Int)+2) false (xi da tx) (xi want tx) (by'+(tx.size:Int)+2) (by omega) (by omega) (hv0.more s1 hk (by omega))
          refine ⟨da2,want2,by2,ov2,n2,?_,h2⟩
          simp only [qa,ta,wa,sa,iY,a3,a4,e1,hq,hL,Lg,b0,b1,b2,b3,f1,w0,w1,hC,g1,z1,z2,z3,z4,g3,gt_iff_lt,Int.toNat_natCast,decide_true,decide_false,if_true,and_self,Option.bind_some,Bool.false_eq_true,Bool.true_eq_false,if_false,Bool.not_true,Bool.not_false]
          exact h1
end
open Go Go.RowKit
theorem xP {T:Type} {o:Option T} (d:T) (h:o.isSome=true):o=some (o.getD d):=by cases o with
 | none=>cases h
 | some x=>rfl
abbrev zT:T0:=WX 0 0 0 eS false 0 eS false eS eS IY HY 0 false
def w1:T0×Int×Unit:=(DE 10000000 1 0 5).getD (zT,(0,()))
def w2:T0×Int×BA×Int×Unit:=(Lz 10000000 w1.1 (⟨#[72,69,76,79,32,120]⟩,(false,()))).getD (zT,(0,(eS,(0,()))))
def w3:T0×Int×Unit:=(eL 10000000 w2.1 (3,(⟨#[]⟩,(true,((⟨#[]⟩,(⟨#[]⟩,())),(-1,())))))).getD (zT,(0,()))
def w4:T0×Int×Unit:=(eL 10000000 w3.1 (4,(⟨#[]⟩,(false,((⟨#[97]⟩,(⟨#[98]⟩,())),(0,())))))).getD (zT,(0,()))
def w5:T0×Int×BA×Int×Unit:=(Lz 10000000 w4.1 (⟨#[68,65,84,65]⟩,(false,()))).getD (zT,(0,(eS,(0,()))))
theorem i1:jt 10000000 1 0 5=some w1:=by rw [←wD];exact xP _ (by kernel_rfl)
theorem i2:ff 10000000 w1.1 (⟨#[72,69,76,79,32,120]⟩,(false,()))=some w2:=by rw [←yv];exact xP _ (by kernel_rfl)
theorem i3:Yx 10000000 w2.1 (3,(⟨#[]⟩,(true,((⟨#[]⟩,(⟨#[]⟩,())),(-1,())))))=some w3:=by rw [←RG];exact xP _ (by kernel_rfl)
theorem i4:Yx 10000000 w3.1 (4,(⟨#[]⟩,(false,((⟨#[97]⟩,(⟨#[98]⟩,())),(0,())))))=some w4:=by rw [←RG];exact xP _ (by kernel_rfl)
theorem i5:ff 10000000 w4.1 (⟨#[68,65,84,65]⟩,(false,()))=some w5:=by rw [←yv];exact xP _ (by kernel_rfl)
theorem j1:w1.2.1=0:=by kernel_rfl
theorem j2:w2.2.2.2.1=0:=by kernel_rfl
theorem j3:w3.2.1=0:=by kernel_rfl
theorem j4:w4.2.1=0:=by kernel_rfl
theorem j5:w5.2.2.2.1=0:=by kernel_rfl
theorem j6:w5.2.1=354:=by kernel_rfl
def to5:Sq jX:=w5.1.2.2.2.2.2.2.2.2.1
def da5:Sq BA:=w5.1.2.2.2.2.2.2.2.2.2.1
theorem c5:w5.1=tC to5 da5 0 false:=by kernel_rfl
theorem MU:to5.n=1:=by kernel_rfl
theorem qW:(to5.at' 0).1.size=1:=by kernel_rfl
theorem rW:(to5.at' 0).2.1.size=1:=by kernel_rfl
theorem BS:da5.n=0:=by kernel_rfl
theorem QW:Xx 10000000 (tC to5 da5 0 false)=some true:=by rw [←ft];kernel_rfl
theorem VW:Fh 10000000=some true:=by rw [←KI];kernel_rfl
theorem yV:Sk 10000000 xx=some true:=by kernel_rfl
theorem MX:∀ da by' ov,YS (tC to5 da by' ov)=UN 4 (uY bs da) by' ov:=by
 have hok:Ok 30000 (tC to5 da5 0 false):=⟨by show (0:Nat)≤_;omega,by show (1:Nat)≤_;omega,by show (0:Nat)≤_;omega,by show (0:Nat)≤_;omega,by show to5.n≤_;rw [MU];omega,
  fun i hi=>by
   have hi':i<to5.n:=hi
   rw [MU] at hi'
   obtain rfl:i=0:=by omega
   show (to5.at' 0).1.size≤_∧(to5.at' 0).2.1.size≤_
   rw [qW,rW];omega,by show da5.n≤_;rw [BS];omega,fun i hi=>by
   have hi':i<da5.n:=hi
   rw [BS] at hi';omega⟩
 have h:=jJ 10000000 _ hok (Nat.le_refl _)
 rw [QW] at h
 have h:=(Option.some.inj h).symm
 intro da by' ov
 unfold YS PV at h ⊢
 simp only [Bool.and_eq_true] at h
 obtain ⟨h1,h2,h3,h4,h5,h6,h7, -⟩:=h
 simp only [tC,WX] at h1 h2 h3 h4 h5 h6 h7 ⊢
 simp only [h1,h2,h3,h4,h5,h6,h7,Bool.true_and]
theorem lW:∀ i,i<to5.n→(to5.at' i).1.size≤20000∧(to5.at' i).2.1.size≤20000:=fun i hi=>by
 rw [MU] at hi
 obtain rfl:i=0:=by omega
 rw [qW,rW];omega
section
variable (n:Nat) (hn:10000000≤n) (to:Sq jX) (ht:to.n≤8) (htS:∀ i,i<to.n→(to.at' i).1.size≤20000∧(to.at' i).2.1.size≤20000) (hE:∀ da by' ov,YS (tC to da by' ov)=UN 4 (uY bs da) by' ov)
include hn ht htS hE
theorem UW (da:Sq BA) (by':Int) (ov:Bool) (hda:da.n≤25000) (hdS:∀ i,i<da.n→(da.at' i).size≤20000) (hm:UN 4 (uY bs da) by' ov=true):
  ff n (tC to da by' ov) (⟨#[46]⟩,(false,()))=some (tC to da by' ov,(0,(⟨#[115,101,110,100]⟩,(0,()))))∧Bv n (tC to da by' ov)=some (WX 1 0 5 eS false 1 xx false eS eS IY HY 0 false,(0,())):=by
 have hok:Ok 25000 (tC to da by' ov):=⟨by show (0:Nat)≤_;omega,by show (1:Nat)≤_;omega,by show (0:Nat)≤_;omega,by show (0:Nat)≤_;omega,Nat.le_trans ht (by omega),htS,hda,hdS⟩
 have h:=jJ n _ (hok.mono (by omega)) hn
 rw [hE,hm] at h
 have o1:=fG n 1 0 5 eS false 4 xx true eS eS to da by' ov (by omega) (by omega)
 have hT:Xb n (⟨#[46]⟩:BA)=some (⟨#[]⟩,(true,())):=by
  unfold Xb He
  rw [if_pos (by rw [Xg];rfl)]
 have hX:Kb n 1 0 5 eS false 4 xx true eS eS by' ov (⟨#[46]⟩,(false,())) to da=some (tC to da by' ov,(⟨#[115,101,110,100]⟩,())):=by
  unfold Kb oe
  simp only [hT,Option.bind_some,if_true]
  cases ov<;>rfl
 have hH:qc n 1 0 5 eS false 4 xx true eS eS by' ov (⟨#[46]⟩,(false,())) to da=some (tC to da by' ov,(0,(⟨#[115,101,110,100]⟩,(((0:Int),(eS,(false,((eS,(eS,())),((0:Int),()))))),())))):=by
  unfold qc Bd
  rw [if_pos (by rfl),hX,Option.bind_some,ia]
 constructor
 · unfold ff Jl
   rw [h,Option.bind_some,if_neg (by simp),if_neg (by show ¬(((4:Int)==5)=true);decide),ia,o1,Option.bind_some]
   dsimp only
   rw [hH,Option.bind_some]
   dsimp only
   rw [o1,Option.bind_some]
 · have a:=cQ n 1 0 5 eS false 4 xx true eS eS to da by' ov
   unfold Bv nt
   rw [h,Option.bind_some,if_neg (by simp),a,Option.bind_some];rfl
end
theorem CV {p:lX} (h:YW reachBytes K4 p):Big p.1∧∀ i,i<p.2.1.n→kX 140737488351232 (p.2.1.at' i):=
 ⟨⟨h.1.2.2.2.1.1,h.1.2.2.2.2.2.1,h.1.2.2.2.2.2.2.2.1.1,h.1.2.2.2.2.2.2.2.1.2.1,h.1.2.2.2.2.2.2.2.2.1.1,fun i hi=>⟨(h.1.2.2.2.2.2.2.2.2.1.2 i hi).1,(h.1.2.2.2.2.2.2.2.2.1.2 i hi).2.1⟩,h.1.2.2.2.2.2.2.2.2.2.1.1,fun i hi=>h.1.2.2.2.2.2.2.2.2.2.1.2 i hi⟩,
  fun i hi=>⟨(h.2.1.2 i hi).2.2.2.1.1,(h.2.1.2 i hi).2.2.2.2.1.2.1,(h.2.1.2 i hi).2.2.2.2.1.2.2.2.1.1,(h.2.1.2 i hi).2.2.2.2.1.2.2.2.1.2.1⟩⟩
theorem yU (n:Nat) (p:lX) (h:Big p.1) (hS:∀ i,i<p.2.1.n→kX 140737488351232 (p.2.1.at' i)) (hn:10000000≤n):∃ b,Hp n p=some b∧(b=false→(∀ j,j<p.2.1.n→kX 20000 (p.2.1.at' j))∧p.2.1.n≤100):=by
 obtain ⟨w,k1,k2,k3,k4⟩:=qV n p.1 h hn
 obtain ⟨c,l,⟨⟩⟩:=p
 obtain ⟨w2,l1,l2,l3⟩:=rV n c.1 c.2.1 c.2.2.1 c.2.2.2.1.1 c.2.2.2.1.2.1 c.2.2.2.2.1 c.2.2.2.2.2.1 c.2.2.2.2.2.2.1 c.2.2.2.2.2.2.2.1.1 c.2.2.2.2.2.2.2.1.2.1 c.2.2.2.2.2.2.2.2.1 c.2.2.2.2.2.2.2.2.2.1 c.2.2.2.2.2.2.2.2.2.2.1 c.2.2.2.2.2.2.2.2.2.2.2.1 l hS 1048576 0 n w (by omega) (by omega) (by omega) (by omega) (Nat.zero_le _) (by omega)
 rw [show ((0:Nat):Int)=0 from rfl] at l1
 refine ⟨decide (w2>20000) || decide ((l.n:Int)>100),?_,fun hb=>?_⟩
 · unfold Hp Ip
   simp only [k1,Option.bind_some,l1,iY]
   by_cases g:w2>20000
   · simp [g]
   · simp [g]
 · simp only [Bool.or_eq_false_iff,decide_eq_false_iff_not] at hb
   exact ⟨fun j hj=>l3 (by omega) j (Nat.zero_le _) hj,by show l.n≤100;omega⟩
theorem plain_CallerTexts (p:lX) (h:YW reachBytes K4 p):∃ n,w2_CallerTexts n p=some true:=⟨10000000,by
 obtain ⟨h1,h2⟩:=CV h
 obtain ⟨b,hb,hb2⟩:=yU 10000000 p h1 h2 (Nat.le_refl _)
 unfold w2_CallerTexts Ee
 rw [hb,Option.bind_some]
 cases b with
 | true=>rfl
 | false=>
  obtain ⟨k1,k2⟩:=hb2 rfl
  have hda0:uY bs da5=[]:=List.eq_nil_of_length_eq_zero (by rw [Me,BS])
  obtain ⟨da2,want2,by2,ov2,n2,hL,hI⟩:=nR 10000000 (Nat.le_refl _) to5 (by rw [MU];omega) lW MX p.1.1 p.1.2.1 p.1.2.2.1 p.1.2.2.2.1.1 p.1.2.2.2.1.2.1 p.1.2.2.2.2.1 p.1.2.2.2.2.2.1 p.1.2.2.2.2.2.2.1 p.1.2.2.2.2.2.2.2.1.1 p.1.2.2.2.2.2.2.2.1.2.1 p.1.2.2.2.2.2.2.2.2.1 p.1.2.2.2.2.2.2.2.2.2.1 p.1.2.2.2.2.2.2.2.2.2.2.1 p.1.2.2.2.2.2.2.2.2.2.2.2.1 p.2.1 k2 k1 p.2.1.n 0 10000000 0 false da5 HY 0 (by omega) (by omega)
   ⟨Nat.le_refl _,by decide,by decide,by rw [BS];omega,fun q hq=>by rw [BS] at hq;omega,by decide,by decide,by rw [hda0];rfl,fun _=>⟨⟨BS,fun i hi=>by rw [BS] at hi;omega⟩,rfl⟩⟩
  rw [show ((0:Nat):Int)=0 from rfl] at hL
  obtain ⟨v1,v2,v3,v4,v5,v6,v7,v8,v9⟩:=hI
  obtain ⟨t1,t2⟩:=UW 10000000 (Nat.le_refl _) to5 (by rw [MU];omega) lW MX da2 by2 ov2 (by omega) v5 v8
  have b0:((0:Int) !=0)=false:=rfl
  have b1:((354:Int) !=354)=false:=rfl
  have b2:((4:Int) !=4)=false:=rfl
  have b3:((1:Int) !=1)=false:=rfl
  have b4:(!((⟨#[115,101,110,100]⟩:BA).toList==(⟨#[115,101,110,100]⟩:BA).toList))=false:=by rw [Xg];rfl
  have b5:(!(xx.toList==(⟨#[120]⟩:BA).toList))=false:=by rw [Xg];rfl
  have b6:(((0:Nat):Int) !=0)=false:=rfl
  rw [if_neg (by simp),i1,Option.bind_some,i2,Option.bind_some,i3,Option.bind_some,i4,Option.bind_some,i5,Option.bind_some]
  simp only [Lg,Option.bind_some,j1,j2,j3,j4,j5,j6,c5,b0,b1,b2,if_true,Bool.false_eq_true,if_false]
  rw [hL,Option.bind_some]
  simp only [iY]
  simp only [tC,WX] at t1 t2
  simp only [t1,t2,Option.bind_some,Lg,b0,b3,b4,b5,b6,if_true,Bool.false_eq_true,if_false,yV,VW]
  cases ov2 with
  | true=>rfl
  | false=>
   obtain ⟨u1,u2⟩:=v9 rfl
   have:=ZF 10000000 da2 want2 u1 (by omega) (Nat.le_refl _)
   simp only [this,Option.bind_some,if_true]⟩
end Go.Proofs.YtddefjokgaajfaaGreatDoor.AM
