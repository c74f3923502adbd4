/- addr.IsDomain: a range over strings.SplitSeq, walked by hand (marks: functions and types by name; filled by dom.py). -/
import Derived.Test.YtdhehcnfkcibiaaGreatDoorProg
import Derived.RangeFuncNested
import Derived.RangeFuncBound
import Derived.RangeFuncCalls
import Derived.RangeFuncLeaves
import Derived.RangeFuncBox
import Derived.Shelf.Abstract
import Derived.Shelf.RegionOpen
import Derived.WalkKit
import Derived.OwnWalkIn
import Derived.TacticsInMore
import Derived.LoopNIn
import Derived.LoopIn
set_option linter.all false
set_option linter.unusedVariables false
set_option linter.unusedSimpArgs false
set_option maxRecDepth 1000000
namespace Go.Proofs.YtdhehcnfkcibiaaGreatDoor.AM.Dom
open Go Go.RowKit Go.Shelf
attribute [local go_sem] Oper.semAt_some
def dot:ByteArray:=⟨#[46]⟩
def YO (IX:ByteArray→Option Int) (LB:ByteArray→Option Bool):Nat→ByteArray→Option Bool
 | 0,_=>none
 | m+1,s=>(IX s).bind fun i=>if i<0 then LB s else if i<(s.size:Int)∧(s.size:Int)≤9223372036854775807 then (LB (s.extract 0 i.toNat)).bind fun b=>if b=true then YO IX LB m (s.extract (i.toNat+1) s.size) else some false else none
theorem zb {W W':World} {B:Nat} {t:TypeId} {v:Value} (h:Boxed W B t v) (hb:Below W.heap.size W W'):Boxed W' B t v:=(hb.block B h.lt).trans h
theorem Below.row {W W':World} (hb:Below W.heap.size W W'):W.grownBy W' none:=⟨hb.os,hb.tape,hb.output,hb.size,fun k hk _=>hb.block k hk⟩
theorem JJ {i:Int} (h1: -9223372036854775808≤i) (h2:i≤9223372036854775807):wrap64 i=i:=by
 unfold wrap64;omega
def left (b:Nat) (w:World):Nat:=match w.cell? ⟨b,0,none⟩ with
 | some (.string s)=>s.size
 | _=>0
theorem hM {b:Nat} {w:World} {t:TypeId} {s:ByteArray} (h:Boxed w b t (.string s)):left b w=s.size:=by
 unfold left;rw [h.cell]
set_option maxHeartbeats 4000000 in
theorem BU (IX:ByteArray→Option Int) (LB:ByteArray→Option Bool) (l bS bP bV:Nat) (hSP:bS≠bP) (hSV:bS≠bV) (J Jx:World→Prop) (hI:∀ x i (w:World),J w→IX x=some i→Calls Tryz.prog 225 #[.string x,.string dot] w fun e w'=>e=.returned (.int .i64 i)∧Below w.heap.size w w') (hJ:∀ W W' row,J W→W.grownBy W' row→(∀ r,row=some r→r=bS)→J W') (hJx:∀ W W' row,Jx W→W.grownBy W' row→(∀ r,row=some r→r=bS)→Jx W')
  (hY:∀ x b (W:World),J W→LB x=some b→YieldAt Fence.wide 2 Tryz.prog l #[.string x] W fun e W'=>(b=true∧e=.returned (.bool true)∧J W'∧Below W.heap.size W W')∨(b=false∧e=.returned (.bool false)∧Jx W'))
  (m:Nat) (cur:ByteArray) (r:Bool) (W:World) (hr:YO IX LB m cur=some r) (h1:Boxed W bS 9 (.string cur)) (h2:Boxed W bP 9 (.string dot)) (h3:Boxed W bV 3 (.int .i64 0)) (h0:J W):
  CallsIn Fence.wide 3 Tryz.prog 229 #[.func (.yield l) #[] #[],.pointer (some ⟨bP,0,none⟩),.pointer (some ⟨bS,0,none⟩),.pointer (some ⟨bV,0,none⟩)] W fun e W'=>
   (∃ v,e=.returned v)∧(r=true→J W')∧(r=false→Jx W'):=by
 refine callsIn_of_wp Tryz.func229 rfl trivial ?_ rfl
 simp only [Tryz.ntmps229,List.size_toArray,List.length_cons,List.length_nil,Nat.reduceAdd,Nat.reduceSub,Array.replicate_succ,Array.replicate_zero,List.push_toArray,List.append_toArray,List.nil_append,List.cons_append]
 have c1:=h1.cell
 have c2:=h2.cell
 have c3:=h3.cell
 repeat (first | gi_step | gi_upon | go_values)
 gi_loopw [] (fun wr=>∃ cur m,YO IX LB m cur=some r∧Boxed wr bS 9 (.string cur)∧Boxed wr bP 9 (.string dot)∧Boxed wr bV 3 (.int .i64 0)∧J wr) (fun wr=>left bS wr)
 case atStart=>exact ⟨cur,m,hr,h1,h2,h3,h0⟩
 case round=>
  obtain ⟨cur,m,hr,h1,h2,h3,h0⟩:=hrel
  have c1:=h1.cell
  have c2:=h2.cell
  have c3:=h3.cell
  cases m with
  | zero=>simp [YO] at hr
  | succ m=>
   rw [YO] at hr
   cases hIX:IX cur with
   | none=>rw [hIX] at hr;cases hr
   | some i=>
    rw [hIX] at hr
    simp only [Option.bind_some] at hr
    by_cases hi:i<0
    · rw [if_pos hi] at hr
      gi_wp2_with (refine ⟨trivial,?_⟩;gi_at_call 225;refine (callsIn_wide.2 (hI cur i _ h0 hIX)).mono ?_;rintro e w' ⟨rfl,hb⟩;have b1:=zb h1 hb;have b2:=zb h2 hb;have b3:=zb h3 hb;have d1:=b1.cell;have d2:=b2.cell;have d3:=b3.cell;have j1:=hJ _ _ none h0 (Below.row hb) (by simp);obtain ⟨fn,tmps,assign,body,hy,hR⟩:=hY cur r w' j1 hr)
      refine hR.mono ?_
      rintro e W' (⟨hb,rfl,hJ',hk⟩ | ⟨hb,rfl,hx⟩)
      · gi_wp2
        go_end0
        exact ⟨⟨_,rfl⟩,fun _=>hJ',fun h=>by rw [hb] at h;cases h⟩
      · gi_wp2
        go_end0
        exact ⟨⟨_,rfl⟩,fun h=>(by rw [hb] at h;cases h),fun _=>hx⟩
    · rw [if_neg hi] at hr
      by_cases hbd:i<(cur.size:Int)∧(cur.size:Int)≤9223372036854775807
      · rw [if_pos hbd] at hr
        have hw:wrap64 i=i:=JJ (by omega) (by omega)
        have hw1:wrap64 (i+1)=i+1:=JJ (by omega) (by omega)
        have hi0:0≤i:=by omega
        have hi1:i≤(cur.size:Int):=by omega
        have hi2:0≤i+1:=by omega
        have hi3:i+1≤(cur.size:Int):=by omega
        have hdot:(dot.size:Int)=1:=rfl
        cases hLB:LB (cur.extract 0 i.toNat) with
        | none=>rw [hLB] at hr;cases hr
        | some b=>
         rw [hLB] at hr
         simp only [Option.bind_some] at hr
         gi_wp2_with (refine ⟨trivial,?_⟩;gi_at_call 225;refine (callsIn_wide.2 (hI cur i _ h0 hIX)).mono ?_;rintro e w' ⟨rfl,hb⟩;have b1:=zb h1 hb;have b2:=zb h2 hb;have b3:=zb h3 hb;have d1:=b1.cell;have d2:=b2.cell;have d3:=b3.cell;have j1:=hJ _ _ none h0 (Below.row hb) (by simp);obtain ⟨fn,tmps,assign,body,hy,hR⟩:=hY _ b w' j1 hLB;clear hi)
         refine hR.mono ?_
         rintro e W' (⟨rfl,rfl,hJ',hk⟩ | ⟨rfl,rfl,hx⟩)
         · have b1:=zb b1 hk
           have b2:=zb b2 hk
           have b3:=zb b3 hk
           have d1:=b1.cell
           have d2:=b2.cell
           have d3:=b3.cell
           have f1:=b1.frozen
           gi_wp2
           have ht:(i+1).toNat=i.toNat+1:=by omega
           refine ⟨?_,?_⟩
           · repeat apply Exists.intro
             refine ⟨?_,rfl⟩
             exact ⟨_,m,by rw [ht];simpa using hr,b1.set _,b2.other (Ne.symm hSP) _,b3.other (Ne.symm hSV) _,hJ _ _ (some bS) hJ' (grownBy_setCell' _ _ _) (by simp)⟩
           · rw [hM (b1.set _),hM h1,ht]
             simp only [ByteArray.size_extract]
             omega
         · gi_wp2
           refine bodyPost_ret (results_none rfl _ _ _) rfl ?_
           exact ⟨⟨_,rfl⟩,fun h=>(by simp at hr;rw [hr] at h;cases h),fun _=>hx⟩
      · rw [if_neg hbd] at hr;cases hr
def Ma (w:World) (x:ByteArray):World:=((w.alloc (.cells #[.string x] 9)).alloc (.cells #[.string dot] 9)).alloc (.cells #[.int .i64 0] 3)
def wP (w:World):Value:=.func (.func 229) #[] #[.pointer (some ⟨w.heap.size+1,0,none⟩),.pointer (some ⟨w.heap.size,0,none⟩),.pointer (some ⟨w.heap.size+2,0,none⟩)]
theorem CJ (n:Nat) (x:ByteArray) (w:World):CallsIn Fence.wide n Tryz.prog 197 #[.string x,.string dot,.int .i64 0] w fun e w'=>e=.returned (wP w)∧w'=Ma w x:=by
 refine callsIn_of_wp Tryz.func197 rfl trivial ?_ rfl
 simp only [Tryz.ntmps197,List.size_toArray,List.length_cons,List.length_nil,Nat.reduceAdd,Nat.reduceSub,Array.replicate_succ,Array.replicate_zero,List.push_toArray,List.append_toArray,List.nil_append,List.cons_append]
 gi_wp2
 refine bodyPost_ret (results_tmp rfl _ _ _) rfl ?_
 exact ⟨rfl,rfl⟩
theorem KI (x:ByteArray) (w:World):Calls Tryz.prog 153 #[.string x,.string dot] w fun e w'=>e=.returned (wP w)∧w'=Ma w x:=by
 refine (callsIn_wide (n:=3)).1 ?_
 refine callsIn_of_wp Tryz.func153 rfl trivial ?_ rfl
 simp only [Tryz.ntmps153,List.size_toArray,List.length_cons,List.length_nil,Nat.reduceAdd,Nat.reduceSub,Array.replicate_succ,Array.replicate_zero,List.push_toArray,List.append_toArray,List.nil_append,List.cons_append]
 gi_wp2_with (refine ⟨trivial,?_⟩;gi_at_call 197;refine (CJ _ _ _).mono ?_;rintro e w1 ⟨rfl,rfl⟩)
 refine bodyPost_ret (results_tmp rfl _ _ _) rfl ?_
 exact ⟨rfl,rfl⟩
def domT (IX:ByteArray→Option Int) (LB:ByteArray→Option Bool) (n:Nat) (s:ByteArray):Option Bool:=(YO IX LB n s).bind fun b=>if b=true then some (decide ((s.size:Int)≤255)) else some false
set_option maxHeartbeats 4000000 in
theorem dom1 (IX:ByteArray→Option Int) (LB:ByteArray→Option Bool) (n:Nat) (s:ByteArray) (r:Bool) (w0:World) (hI:∀ x i (w:World),Below w0.heap.size w0 w→IX x=some i→Calls Tryz.prog 225 #[.string x,.string dot] w fun e w'=>e=.returned (.int .i64 i)∧Below w.heap.size w w')
  (hL:∀ x i (w:World),Below w0.heap.size w0 w→LB x=some i→Calls Tryz.prog 154 #[.string x] w fun e w'=>e=.returned (.bool i)∧Below w.heap.size w w')
  (hlit:∀ (w:World),Below w0.heap.size w0 w→Calls Tryz.prog 150 #[.string s] w fun e w'=>e=.returned (.bool false)∧Below w.heap.size w w') (hr:domT IX LB n s=some r):
  Calls Tryz.prog 103 #[.string s] w0 fun e w'=>e=.returned (.bool r)∧Below w0.heap.size w0 w':=by
 refine (callsIn_wide (n:=6)).1 ?_
 refine callsIn_of_wp_marks Tryz.func103 rfl trivial ?_ rfl
 simp only [Tryz.ntmps103,List.size_toArray,List.length_cons,List.length_nil,Nat.reduceAdd,Nat.reduceSub,Array.replicate_succ,Array.replicate_zero,List.push_toArray,List.append_toArray,List.nil_append,List.cons_append]
 gi_wp2_with (first | (refine ⟨trivial,?_⟩;gi_at_call 150;refine (callsIn_wide.2 (hlit _ ((Below.refl _ w0).alloc (Nat.le_refl _) _))).mono ?_;rintro e w1 ⟨rfl,hb1⟩;clear hlit) | (refine ⟨trivial,?_⟩;gi_at_call 153;refine (callsIn_wide.2 (KI _ _)).mono ?_;rintro e w2 ⟨rfl,rfl⟩))
 have hR1:Boxed w1 w0.heap.size 4 (.bool false):=zb (Boxed.new w0 4 _) hb1
 have hw1:Below w0.heap.size w0 w1:=((Below.refl _ w0).alloc (Nat.le_refl _) _).trans (hb1.mono (by simp))
 have hlt1:w0.heap.size<w1.heap.size:=hR1.lt
 refine wpIn_rangeFunc ?_
 intro fn hfn
 obtain ⟨t,ht⟩:∃ t:Array Value,t= #[Value.string s,undef,.pointer (some ⟨w0.heap.size,0,none⟩),undef,.string s,.bool false,undef,undef,undef,undef,undef,undef,undef,undef,undef,undef,.string s,wP w1,undef,undef,undef,undef,undef,undef,undef]:=⟨_,rfl⟩
 rw [←ht]
 generalize hassign:(Code.region 4 _ false)=assign
 generalize hbody:(Code.block 1 _)=body
 obtain ⟨rec,hrec⟩:∃ rec:LoopState→Option Code→Loop,rec=fun st pe=>{ state:=st,pending:=pe,fn,tmps:=t,params:= #[18],assign,body,defers:=(Ma w1 s).heap.size }:=⟨_,rfl⟩
 obtain ⟨W1,hW1⟩:∃ W1,((Ma w1 s).alloc (.deferred (some []))).alloc (.loop (rec .ready none))=W1:=⟨_,rfl⟩
 have hsz:(Ma w1 s).heap.size=w1.heap.size+3:=by simp [Ma]
 have hL1:W1.heap[(Ma w1 s).heap.size+1]?=some (.loop (rec .ready none)):=by
  rw [←hW1];have:=World.alloc_heap_new ((Ma w1 s).alloc (.deferred (some []))) (.loop (rec .ready none));rwa [World.size_alloc] at this
 have hK1:W1.heap[(Ma w1 s).heap.size]?=some (.deferred (some [])):=by
  rw [←hW1];exact (Below.heap_alloc _ _ _ (by simp)).trans (World.alloc_heap_new _ _)
 have hS1:Boxed W1 w1.heap.size 9 (.string s):=by
  rw [←hW1];exact ((((Boxed.new w1 9 _).alloc _).alloc _).alloc _).alloc _
 have hP1:Boxed W1 (w1.heap.size+1) 9 (.string dot):=by
  rw [←hW1];have:=Boxed.new (w1.alloc (.cells #[.string s] 9)) 9 (.string dot);rw [World.size_alloc] at this;exact ((this.alloc _).alloc _).alloc _
 have hV1:Boxed W1 (w1.heap.size+2) 3 (.int .i64 0):=by
  rw [←hW1];have:=Boxed.new ((w1.alloc (.cells #[.string s] 9)).alloc (.cells #[.string dot] 9)) 3 (.int .i64 0);rw [World.size_alloc,World.size_alloc] at this;exact (this.alloc _).alloc _
 have hRs:Boxed W1 w0.heap.size 4 (.bool false):=by
  rw [←hW1];exact ((((hR1.alloc _).alloc _).alloc _).alloc _).alloc _
 have hB1:Below w0.heap.size w0 W1:=by
  rw [←hW1];exact hw1.trans ((((((Below.refl _ w1).alloc (Nat.le_of_lt hlt1) _).alloc (by simp;omega) _).alloc (by simp;omega) _).alloc (by simp;omega) _).alloc (by simp;omega) _)
 refine ⟨(Ma w1 s).heap.size+1,[{ target:=.collected (Ma w1 s).heap.size,args:= #[] }],W1,{ target:=.fn (.func 229) #[.pointer (some ⟨w1.heap.size+1,0,none⟩),.pointer (some ⟨w1.heap.size,0,none⟩),.pointer (some ⟨w1.heap.size+2,0,none⟩)],args:= #[.func (.yield ((Ma w1 s).heap.size+1)) #[] #[]] },W1,229,
  #[.func (.yield ((Ma w1 s).heap.size+1)) #[] #[],.pointer (some ⟨w1.heap.size+1,0,none⟩),.pointer (some ⟨w1.heap.size,0,none⟩),.pointer (some ⟨w1.heap.size+2,0,none⟩)],W1,?_,?_,fun _ _=>trivial,?_,fun _=>by omega,?_⟩
 · rw [←hW1,hrec];exact run_enterLoop_outer _ _ _ _ _
 · have hg:(({ tmps:=t,defers:=[] }:Act).eval (.tmp 17))=wP w1:=by rw [ht];rfl
   simp only [resolve,hg,wP]
   simp [go_sem]
 · have eg:=enters_of (P:=Tryz.prog) Tryz.func229 (by kernel_rfl) rfl
   simp [invoke,go_sem,eg]
 · cases hdl:YO IX LB n s with
   | none=>rw [domT,hdl] at hr;cases hr
   | some b=>
    rw [domT,hdl] at hr
    simp only [Option.bind_some] at hr
    refine callsIn_wide.2 ?_
    have:=callsIn_wide.1 (BU IX LB ((Ma w1 s).heap.size+1) w1.heap.size (w1.heap.size+1) (w1.heap.size+2) (by omega) (by omega)
     (fun W=>W.heap[(Ma w1 s).heap.size+1]?=some (.loop (rec .ready none))∧W.heap[(Ma w1 s).heap.size]?=some (.deferred (some []))∧Boxed W w0.heap.size 4 (.bool false)∧Below w0.heap.size w0 W)
     (fun W=>W.heap[(Ma w1 s).heap.size+1]?=some (.loop (rec .done (some .ret)))∧W.heap[(Ma w1 s).heap.size]?=some (.deferred (some []))∧Boxed W w0.heap.size 4 (.bool false)∧Below w0.heap.size w0 W)
     (fun x i W hW=>hI x i W hW.2.2.2) ?_ ?_ ?_ n s b W1 hdl hS1 hP1 hV1 ⟨hL1,hK1,hRs,hB1⟩)
    · refine this.mono ?_
      rintro e W2 ⟨⟨v,rfl⟩,hT,hF⟩
      cases b with
      | true=>
       obtain ⟨k1,k2,k3,k4⟩:=hT rfl
       refine ⟨none,_,by have:=run_endLoop (P:=Tryz.prog) k1 (by rw [hrec];simp);rw [hrec] at this;exact this,?_⟩
       have q3:Boxed (W2.putObj ((Ma w1 s).heap.size+1) (.loop { rec .ready none with state:=.exhausted })) w0.heap.size 4 (.bool false):=k3.kept (grownBy_putObj' _ _ _) (by simp;omega)
       have q2:(W2.putObj ((Ma w1 s).heap.size+1) (.loop { rec .ready none with state:=.exhausted })).heap[(Ma w1 s).heap.size]?=some (.deferred (some [])):=(World.putObj_heap_other (by omega)).trans k2
       have q4:Below w0.heap.size w0 (W2.putObj ((Ma w1 s).heap.size+1) (.loop { rec .ready none with state:=.exhausted })):=k4.trans ⟨rfl,rfl,rfl,by simp,fun k hk=>World.putObj_heap_other (by omega)⟩
       rw [hrec] at q2 q3 q4
       revert q2 q3 q4
       generalize (W2.putObj _ _)=W3
       intro q3 q2 q4
       have c3:=q3.cell
       have f3:=q3.frozen
       rw [ht]
       gi_wp2
       have hK:(W3.setCell ⟨w0.heap.size,0,none⟩ (.bool (decide ((s.size:Int)≤255)))).heap[(Ma w1 s).heap.size]?=some (.deferred (some [])):=(Below.heap_setCell _ _ _ _ (by simp;omega)).trans q2
       have hX:Boxed (W3.setCell ⟨w0.heap.size,0,none⟩ (.bool (decide ((s.size:Int)≤255)))) w0.heap.size 4 (.bool (decide ((s.size:Int)≤255))):=q3.set _
       have hc5:=(hX.kept (grownBy_putObj' _ ((Ma w1 s).heap.size) (.deferred none)) (by simp;omega)).cell
       rw [hsz] at hK hc5
       refine ⟨by simp,.inl ⟨_,_,rfl,run_takeDeferred hK,?_⟩⟩
       refine ⟨.bool (decide ((s.size:Int)≤255)),?_,by simp at hr;rw [←hr],?_⟩
       · simp [results,Tryz.f103,go_sem,hc5]
       · exact (q4.setCell (p:=⟨w0.heap.size,0,none⟩) (Nat.le_refl _) _).trans ⟨rfl,rfl,rfl,by simp,fun k hk=>World.putObj_heap_other (by omega)⟩
      | false=>
       obtain ⟨k1,k2,k3,k4⟩:=hF rfl
       refine ⟨some .ret,_,by have:=run_endLoop (P:=Tryz.prog) k1 (by rw [hrec];simp);rw [hrec] at this;exact this,?_⟩
       have q3:Boxed (W2.putObj ((Ma w1 s).heap.size+1) (.loop { rec .done (some .ret) with state:=.exhausted })) w0.heap.size 4 (.bool false):=k3.kept (grownBy_putObj' _ _ _) (by simp;omega)
       have q2:(W2.putObj ((Ma w1 s).heap.size+1) (.loop { rec .done (some .ret) with state:=.exhausted })).heap[(Ma w1 s).heap.size]?=some (.deferred (some [])):=(World.putObj_heap_other (by omega)).trans k2
       have q4:Below w0.heap.size w0 (W2.putObj ((Ma w1 s).heap.size+1) (.loop { rec .done (some .ret) with state:=.exhausted })):=k4.trans ⟨rfl,rfl,rfl,by simp,fun k hk=>World.putObj_heap_other (by omega)⟩
       rw [hrec] at q2 q3 q4
       revert q2 q3 q4
       generalize (W2.putObj _ _)=W3
       intro q3 q2 q4
       have c3:=q3.cell
       have f3:=q3.frozen
       rw [ht]
       gi_wp2
       have hK:(W3).heap[(Ma w1 s).heap.size]?=some (.deferred (some [])):=q2
       have hX:Boxed (W3) w0.heap.size 4 (.bool false):=q3
       have hc5:=(hX.kept (grownBy_putObj' _ ((Ma w1 s).heap.size) (.deferred none)) (by simp;omega)).cell
       rw [hsz] at hK hc5
       refine ⟨by simp,.inl ⟨_,_,rfl,run_takeDeferred hK,?_⟩⟩
       refine ⟨.bool false,?_,by simp at hr;rw [hr],?_⟩
       · simp [results,Tryz.f103,go_sem,hc5]
       · exact q4.trans ⟨rfl,rfl,rfl,by simp,fun k hk=>World.putObj_heap_other (by omega)⟩
    · rintro A B row ⟨k1,k2,k3,k4⟩ hg hrow
      have hne:∀ k,k≠w1.heap.size→some k≠row:=fun k hk e=>hk (hrow k e.symm)
      exact ⟨(hg.block _ (Array.getElem?_eq_some_iff.1 k1).1 (hne _ (by omega))).trans k1,(hg.block _ (Array.getElem?_eq_some_iff.1 k2).1 (hne _ (by omega))).trans k2,k3.kept hg (hne _ (by omega)),
       k4.trans ⟨hg.os,hg.tape,hg.output,hg.size,fun k hk=>hg.block k (Nat.lt_of_lt_of_le hk k4.size) (hne _ (by omega))⟩⟩
    · rintro A B row ⟨k1,k2,k3,k4⟩ hg hrow
      have hne:∀ k,k≠w1.heap.size→some k≠row:=fun k hk e=>hk (hrow k e.symm)
      exact ⟨(hg.block _ (Array.getElem?_eq_some_iff.1 k1).1 (hne _ (by omega))).trans k1,(hg.block _ (Array.getElem?_eq_some_iff.1 k2).1 (hne _ (by omega))).trans k2,k3.kept hg (hne _ (by omega)),
       k4.trans ⟨hg.os,hg.tape,hg.output,hg.size,fun k hk=>hg.block k (Nat.lt_of_lt_of_le hk k4.size) (hne _ (by omega))⟩⟩
    · rintro x b W ⟨k1,k2,k3,k4⟩ hx
      have hy:=run_yield (P:=Tryz.prog) (args:= #[.string x]) k1 (by rw [hrec];rfl)
      rw [hrec] at hy
      refine ⟨fn,_,assign,body,hy,roundIn_of_wpIn trivial ?_⟩
      have hA:∀ (L:Nat) (K:Act→World→Prop),K { tmps:= #[Value.string s,undef,.pointer (some ⟨w0.heap.size,0,none⟩),.string x,.string s,.bool false,undef,undef,undef,undef,undef,undef,undef,undef,undef,undef,.string s,wP w1,.string x,undef,undef,undef,undef,undef,undef],defers:=[] } W→
        assign.wpIn (Fence.wide.inRound L) 2 Tryz.prog (Exit.then K (fun _ _ _=>False)) { tmps:=(#[18].zip #[Value.string x]).foldl (fun tmps (t,a)=>tmps.setIfInBounds t a) t,defers:=[] } W:=by
       intro L K hK
       rw [←hassign,ht]
       gi_wp2
       exact hK
      refine hA _ _ ⟨_,run_beginRound k1 (by rw [hrec]),?_⟩
      have hC:∀ (L:Nat) (Q:Exit→Act→World→Prop) (V:World),Below w0.heap.size w0 V→Boxed V w0.heap.size 4 (.bool false)→(b=true→∀ a V',Below V.heap.size V V'→Q .normal a V')→(b=false→∀ a V',Below V.heap.size V V'→Q .ret a (V'.setCell ⟨w0.heap.size,0,none⟩ (.bool false)))→
        body.wpIn (Fence.wide.inRound L) 2 Tryz.prog Q { tmps:= #[Value.string s,undef,.pointer (some ⟨w0.heap.size,0,none⟩),.string x,.string s,.bool false,undef,undef,undef,undef,undef,undef,undef,undef,undef,undef,.string s,wP w1,.string x,undef,undef,undef,undef,undef,undef],defers:=[] } V:=by
       intro L Q V hVB hV h1 h2
       rw [←hbody]
       cases b with
       | true=>
        gi_wp2_with (refine ⟨trivial,?_⟩;gi_at_call 154;refine (CallsIn.inRound L (callsIn_wide.2 (hL x true _ hVB hx))).mono ?_;rintro e w' ⟨rfl,hb⟩)
        exact h1 trivial _ _ hb
       | false=>
        gi_wp2_with (refine ⟨trivial,?_⟩;gi_at_call 154;refine (CallsIn.inRound L (callsIn_wide.2 (hL x false _ hVB hx))).mono ?_;rintro e w' ⟨rfl,hb⟩;have c1:=(zb hV hb).cell;have f1:=(zb hV hb).frozen)
        exact h2 trivial _ _ hb
      have hlt:(Ma w1 s).heap.size+1<W.heap.size:=(Array.getElem?_eq_some_iff.1 k1).1
      have g1:(W.putObj ((Ma w1 s).heap.size+1) (.loop { rec .ready none with state:=.busy })).heap[(Ma w1 s).heap.size+1]?=some (.loop { rec .ready none with state:=.busy }):=World.putObj_heap_same hlt
      have g2:(W.putObj ((Ma w1 s).heap.size+1) (.loop { rec .ready none with state:=.busy })).heap[(Ma w1 s).heap.size]?=some (.deferred (some [])):=(World.putObj_heap_other (by omega)).trans k2
      have g3:Boxed (W.putObj ((Ma w1 s).heap.size+1) (.loop { rec .ready none with state:=.busy })) w0.heap.size 4 (.bool false):=k3.kept (grownBy_putObj' _ _ _) (by simp;omega)
      have g4:Below w0.heap.size w0 (W.putObj ((Ma w1 s).heap.size+1) (.loop { rec .ready none with state:=.busy })):=k4.trans ⟨rfl,rfl,rfl,by simp,fun k hk=>World.putObj_heap_other (by omega)⟩
      refine hC _ _ _ g4 g3 (fun hb a V' hV'=>?_) (fun hb a V' hV'=>?_)
      · have m1:=(hV'.block _ (by simp;omega)).trans g1
        have m2:=(hV'.block _ (by simp;omega)).trans g2
        have hsame:∀ k,k<W.heap.size→(V'.putObj ((Ma w1 s).heap.size+1) (.loop (rec .ready none))).heap[k]?=W.heap[k]?:=fun k hk=>by
         by_cases e:k=(Ma w1 s).heap.size+1
         · subst e
           rw [World.putObj_heap_same (Nat.lt_of_lt_of_le (by simp;omega) hV'.size),k1]
         · rw [World.putObj_heap_other e,hV'.block k (by simp;omega),World.putObj_heap_other e]
        have hbw:Below W.heap.size W (V'.putObj ((Ma w1 s).heap.size+1) (.loop (rec .ready none))):=⟨hV'.os,hV'.tape,hV'.output,by simpa using hV'.size,hsame⟩
        refine ⟨_,_,run_endRound none m1,.inl ⟨hb,rfl,?_⟩⟩
        have e1:(Obj.loop { { rec .ready none with state:=.busy } with state:=if (none:Option Code).isNone=true then LoopState.ready else LoopState.done,pending:=none })=.loop (rec .ready none):=by rw [hrec];rfl
        rw [e1]
        exact ⟨⟨(hsame _ hlt).trans k1,(hsame _ (by omega)).trans k2,(hsame _ k3.lt).trans k3,k4.trans (hbw.mono k4.size)⟩,hbw⟩
      · have p1:(V'.setCell ⟨w0.heap.size,0,none⟩ (.bool false)).heap[(Ma w1 s).heap.size+1]?=some (.loop { rec .ready none with state:=.busy }):=(Below.heap_setCell _ _ _ _ (by simp;omega)).trans ((hV'.block _ (by simp;omega)).trans g1)
        have p2:(V'.setCell ⟨w0.heap.size,0,none⟩ (.bool false)).heap[(Ma w1 s).heap.size]?=some (.deferred (some [])):=(Below.heap_setCell _ _ _ _ (by simp;omega)).trans ((hV'.block _ (by simp;omega)).trans g2)
        have p3:Boxed (V'.setCell ⟨w0.heap.size,0,none⟩ (.bool false)) w0.heap.size 4 (.bool false):=(zb g3 hV').set _
        have p4:Below w0.heap.size w0 (V'.setCell ⟨w0.heap.size,0,none⟩ (.bool false)):=(k4.trans ((⟨rfl,rfl,rfl,by simp,fun k hk=>World.putObj_heap_other (by omega)⟩:Below w0.heap.size W (W.putObj ((Ma w1 s).heap.size+1) (.loop { rec .ready none with state:=.busy }))).trans (hV'.mono (by simpa using k4.size)))).setCell (p:=⟨w0.heap.size,0,none⟩) (Nat.le_refl _) _
        refine ⟨_,_,run_endRound (some .ret) p1,.inr ⟨hb,rfl,?_⟩⟩
        have e1:(Obj.loop { { rec .ready none with state:=.busy } with state:=if (some Code.ret:Option Code).isNone=true then LoopState.ready else LoopState.done,pending:=some .ret })=.loop (rec .done (some .ret)):=by rw [hrec];rfl
        rw [e1]
        exact ⟨World.putObj_heap_same (Array.getElem?_eq_some_iff.1 p1).1,(World.putObj_heap_other (by omega)).trans p2,p3.kept (grownBy_putObj' _ _ _) (by simp;omega),p4.trans ⟨rfl,rfl,rfl,by simp,fun k hk=>World.putObj_heap_other (by omega)⟩⟩
set_option maxHeartbeats 4000000 in
theorem dom2 (s:ByteArray) (suf r:Bool) (w0:World)
  (hlit:∀ (w:World),Below w0.heap.size w0 w→Calls Tryz.prog 150 #[.string s] w fun e w'=>e=.returned (.bool true)∧Below w.heap.size w w')
  (hsuf:∀ (w:World),Below w0.heap.size w0 w→Calls Tryz.prog 151 #[.string s,.string ⟨#[93]⟩] w fun e w'=>e=.returned (.bool suf)∧Below w.heap.size w w')
  (hT:suf=true→(2≤(s.size:Int)∧(s.size:Int)≤9223372036854775807)∧∀ (w:World),Below w0.heap.size w0 w→Calls Tryz.prog 152 #[.string (s.extract 1 (s.size - 1))] w fun e w'=>e=.returned (.bool r)∧Below w.heap.size w w')
  (hF:suf=false→r=false):Calls Tryz.prog 103 #[.string s] w0 fun e w'=>e=.returned (.bool r)∧Below w0.heap.size w0 w':=by
 refine (callsIn_wide (n:=6)).1 ?_
 refine callsIn_of_wp Tryz.func103 rfl trivial ?_ rfl
 simp only [Tryz.ntmps103,List.size_toArray,List.length_cons,List.length_nil,Nat.reduceAdd,Nat.reduceSub,Array.replicate_succ,Array.replicate_zero,List.push_toArray,List.append_toArray,List.nil_append,List.cons_append]
 have hB0:=(Below.refl w0.heap.size w0).alloc (Nat.le_refl _) (.cells #[.bool false] 4)
 have hR0:=Boxed.new w0 4 (.bool false)
 cases suf with
 | true=>
  obtain ⟨⟨z1,z2⟩,hT2⟩:=hT rfl
  have hz:wrap64 ((s.size:Int) - 1)=(s.size:Int) - 1:=JJ (by omega) (by omega)
  have hz1:(1:Int)≤(s.size:Int) - 1:=by omega
  have hz2:(s.size:Int) - 1≤(s.size:Int):=by omega
  have hz3:(0:Int)≤(s.size:Int) - 1:=by omega
  have hz4:((s.size:Int) - 1).toNat=s.size - 1:=by omega
  gi_wp2_with (first | (refine ⟨trivial,?_⟩;gi_at_call 150;refine (callsIn_wide.2 (hlit _ hB0)).mono ?_;rintro e w1 ⟨rfl,hb1⟩;clear hlit;have hB1:=hB0.trans (hb1.mono (by simp));have hR1:=zb hR0 hb1) | (refine ⟨trivial,?_⟩;gi_at_call 151;refine (callsIn_wide.2 (hsuf _ hB1)).mono ?_;rintro e w2 ⟨rfl,hb2⟩;clear hsuf;have hB2:=hB1.trans (hb2.mono hB1.size);have hR2:=zb hR1 hb2) | (refine ⟨trivial,?_⟩;gi_at_call 152;refine (callsIn_wide.2 (hT2 _ hB2)).mono ?_;rintro e w3 ⟨rfl,hb3⟩;clear hT2;have hB3:=hB2.trans (hb3.mono hB2.size);have hR3:=zb hR2 hb3;have c3:=hR3.cell;have f3:=hR3.frozen))
  have hc:=(hR3.set (.bool r)).cell
  refine bodyPost_ret (v:=.bool r) (by simp [results,Tryz.f103,go_sem,hc]) rfl ?_
  exact ⟨rfl,hB3.setCell (p:=⟨w0.heap.size,0,none⟩) (Nat.le_refl _) _⟩
 | false=>
  obtain rfl:=hF rfl
  gi_wp2_with (first | (refine ⟨trivial,?_⟩;gi_at_call 150;refine (callsIn_wide.2 (hlit _ hB0)).mono ?_;rintro e w1 ⟨rfl,hb1⟩;clear hlit;have hB1:=hB0.trans (hb1.mono (by simp));have hR1:=zb hR0 hb1) | (refine ⟨trivial,?_⟩;gi_at_call 151;refine (callsIn_wide.2 (hsuf _ hB1)).mono ?_;rintro e w2 ⟨rfl,hb2⟩;clear hsuf;have hB2:=hB1.trans (hb2.mono hB1.size);have hR2:=zb hR1 hb2;have c2:=hR2.cell;have f2:=hR2.frozen) | (refine ⟨trivial,?_⟩))
  have hc:=(hR2.set (.bool false)).cell
  refine bodyPost_ret (v:=.bool false) (by simp [results,Tryz.f103,go_sem,hc]) rfl ?_
  exact ⟨rfl,hB2.setCell (p:=⟨w0.heap.size,0,none⟩) (Nat.le_refl _) _⟩
end Go.Proofs.YtdhehcnfkcibiaaGreatDoor.AM.Dom
