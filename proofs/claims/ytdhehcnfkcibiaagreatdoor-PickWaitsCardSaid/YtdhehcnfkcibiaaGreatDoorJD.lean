/- A world in which the listed variables hold what the rows list; what a walk has of them. -/
import Derived.Test.YtdhehcnfkcibiaaGreatDoorJL
import Derived.Test.YtdhehcnfkcibiaaGreatDoorRows
import Derived.Test.YtdhehcnfkcibiaaGreatDoorJB2
import Derived.SizedLaws
import Derived.ChangeSame
import Derived.ChangeVars
import Derived.JoinedOf
import Derived.JoinedAt
import Derived.RowKit
import Derived.RowKit3
import Derived.RowKitTokens
import Derived.LaidLaws
import Derived.LaidHandle
import Derived.Lib.LaidTab
import Derived.Stop.Joined
import Derived.Handed
import Derived.HandedShaped
import Derived.Shelf.Vars
set_option linter.all false
set_option linter.unusedVariables false
set_option linter.unusedSimpArgs false
set_option maxRecDepth 1000000
namespace Go.Proofs.YtdhehcnfkcibiaaGreatDoor.AM
open Go Go.RowKit
theorem handed_shaped {H:Type} {enc:TypeId×Value→H} {a:Assume} {C:Checked} {os:Os} {f:FuncId} {fn:Func} {s:ChangeSpec} {conds:List PathCond} {apart fresh handsOn again:Bool} {X:World→Array Value→Prop}
  (hX:∀ (w w':World) (args:Array Value),w.heap=w'.heap→X w args→X w' args)
  (own:ownKnob C.prog.godebug=none) (started:os.Started) (noInit:C.prog.inits.idxOf? f=none) (hfn:C.prog.funcs[f]?=some fn)
  (witness:∃ (w:World) (tape:Tape) (i:Input),w.os=os∧(w.forCall tape i).Shaped C.prog∧i.vars=[]∧Input.okWide C.prog (w.forCall tape i) .any w.heap.size f i∧
   ((s.pre enc C.prog fn conds apart (w.forCall tape i).memory i.args∧X (w.forCall tape i).memory i.args)∧sizedMet enc C.prog fn (OpenSpec.ofChange s) apart (w.forCall tape i).memory i.args)∧a.holds C.prog (lone (Frame.enter C.prog f i.args .normal) [] (w.forCall tape i)))
  (contract:∀ (W:World) (base:Nat) (args:Array Value) (ds gs:List (DataW H)) (before:List MemPlace),
   (∀ (j:Nat) t v,fn.params[j]?=some t→args[j]?=some v→Value.okWide C.prog W .any base t v)→
   DataW.Whole enc C.prog fn.params.toList s.vars apart W args.toList ds gs before→
   conds.all (PathCond.test C.prog ⟨fn.params.toList,ds,s.plain.varTypes C.prog,gs⟩)=true→
   (DataW.weightsEach C.prog (fn.params.toList++s.plain.varTypes C.prog) (ds++gs)).all (· ≤reachBytes)=true→X W args→W.ShapedOpen C.prog→
   a.holds C.prog (lone (Frame.enter C.prog f args .normal) [] W)→
   Calls C.prog f args W fun e W'=>∃ v,e=.returned v∧s.post enc C.prog fn apart fresh handsOn again W args v W'):
  ReturnsInHanded a C os f .any (fun w args=>(s.pre enc C.prog fn conds apart w args∧X w args)∧sizedMet enc C.prog fn (OpenSpec.ofChange s) apart w args) (s.post enc C.prog fn apart fresh handsOn again):=by
 refine returnsInHanded_of_calls own started noInit witness ?_
 intro w tape i _ hsh _ hok hpre hholds
 obtain ⟨_,_,_,fn',hfn',_,_,_,_,hval⟩:=hok
 have e:fn'=fn:=Option.some.inj (hfn'.symm.trans hfn)
 subst e
 obtain ⟨⟨⟨ds,gs,before,hw,hc⟩,hx⟩,hz⟩:=hpre
 have hw':=DataW.Whole.of_heap (w':=w.forCall tape i) (by rfl) hw
 refine (contract (w.forCall tape i) w.heap.size i.args ds gs before hval hw' hc (hz.weights hw) (hX _ _ _ (by rfl) hx) hsh hholds).mono fun e W' ⟨v,he,hp⟩=>?_
 subst he
 exact ChangeSpec.post_blind hp
theorem laidOut:laidOutB Tryz.prog=true:=by kernel_rfl
theorem own:ownKnob Tryz.prog.godebug=none:=by kernel_rfl
mutual
def YQ:DataW Unit→List Value
 | .lit l=>[l.value]
 | .agg parts=>DO parts
 | _=>[]
def DO:List (DataW Unit)→List Value
 | []=>[]
 | d::ds=>YQ d++DO ds
end
def bT (w:World) (q:Nat) (cs:List Value):World:={ w with heap:=w.heap.modify q fun
 | .cells _ t fz=>.cells cs.toArray t fz
 | o=>o }
abbrev CU:BA:={ data:= #[105,110,118,97,108,105,100,32,115,121,110,116,97,120] }
abbrev AU:BA:={ data:= #[118,97,108,117,101,32,111,117,116,32,111,102,32,114,97,110,103,101] }
noncomputable def tT:Nat:=(World.holding Tryz.prog default ⟨#[], #[],[]⟩).heap.size
noncomputable def theLaid:List (String×DataW Unit):=Rows.spoolUsesRow.laid
noncomputable def kK (w:World):List (String×DataW Unit)→World
 | []=>w
 | (n,d)::l=>match d,Tryz.prog.globalNamed n with
  | .iface _ _,_=>kK w l
  | d,some q=>kK (bT w q (YQ d)) l
  | _,none=>kK w l
noncomputable def laidWorld (os:Os):World:=
 bT (bT (kK (World.holding Tryz.prog os ⟨#[.cells #[.string CU] 299,.cells #[.string AU] 299], #[],[]⟩) theLaid) 2 [.iface 297 (.pointer (some ⟨tT,0,none⟩))]) 3 [.iface 297 (.pointer (some ⟨tT+1,0,none⟩))]
theorem laidWorld_met (os:Os) (args:Array Value):laidMetH Tryz.prog theLaid ((laidWorld os).forCall (fun _ _=>0) ⟨#[],args,[]⟩).memory:=
 laidMetH_of_parts (laidMet_of_run' 8 (by kernel_rfl) (by kernel_rfl)) (by kernel_rfl)
theorem ol {P:Program} {w:World} {n:String} {d:DataW Unit}:∀ {l:List (String×DataW Unit)} {ps:List MemPlace},DataW.LaidVars P w l ps→(n,d)∈l→
  ∃ g t cs fuel p,P.globalNamed n=some g∧(P.globals[g]?).map (·.type)=some t∧w.var? P n=some cs∧DataW.trod (fun _=>()) P w 0 (fun _=>true) false fuel t cs.toList=some (d,p)
 | [],_,_,h=>by cases h
 | (n',d')::l,ps,h,hm=>by
  obtain ⟨g,t,cs,fuel,p,q,h1,h2,h3,h4,h5,_⟩:=h
  rcases List.mem_cons.1 hm with e | hm
  · cases e;exact ⟨g,t,cs,fuel,p,h1,h2,h3,h4⟩
  · exact ol h5 hm
theorem jL {W:World} (h:laidMetH Tryz.prog theLaid W):laidMet Tryz.prog theLaid W:=by
 unfold laidMetH at h
 rw [show (theLaid.filter fun x=>x.2.handleName?.isSome)=[] from by kernel_rfl] at h
 exact h
theorem wO {P:Program} {w:World} {n:String} {q:Nat} {cs:Array Value} (hq:P.globalNamed n=some q) (h:w.var? P n=some cs):∃ t fz,w.heap[q]?=some (.cells cs t fz):=by
 unfold World.var? at h
 rw [hq,Option.bind_some] at h
 split at h
 · rename_i c t fz hb;cases h;exact ⟨t,fz,hb⟩
 · cases h
def sT:Option TypeDesc→Bool
 | some (.interface _)=>true
 | _=>false
theorem lx {P:Program} {w:World} {fuel:Nat} {t:TypeId} {cs:List Value} {nm:String} {d:DataW Unit} {p:List MemPlace} (hi:sT (P.underlying t)=true)
  (h:DataW.trod (fun _=>()) P w 0 (fun _=>true) false fuel t cs=some (.iface nm d,p)):∃ u v,cs=[.iface u v]:=by
 obtain ⟨ms,hu⟩:∃ ms,P.underlying t=some (.interface ms):=by
  unfold sT at hi
  split at hi
  · rename_i ms hu;exact ⟨ms,hu⟩
  · cases hi
 cases fuel with
 | zero=>simp [DataW.trod] at h
 | succ fuel=>
  simp only [DataW.trod,hu] at h
  split at h
  all_goals first
   | exact ⟨_,_,rfl⟩
   | (cases h;done)
   | (simp_all;done)
theorem qJ {α:Type} {l:List α} {i:Nat} {x:α} (h:l[i]?=some x):x∈l:=List.mem_of_getElem? h
theorem glG_of_laid {W:World} (h:laidMetH Tryz.prog theLaid W) (hsh:W.ShapedOpen Tryz.prog):zV W:=by
 obtain ⟨ps,hv,_,_⟩:=jL h
 refine ⟨?_,?_,?_,cell_of_shapedOpen_int (zero:= #[.int .i64 0]) hsh (of_decide_eq_true (by kernel_rfl)) (by kernel_rfl) rfl (by kernel_rfl) (by kernel_rfl) Tryz.underlying3⟩
 · obtain ⟨g,t,cs,fuel,p,h1,h2,h3,h4⟩:=ol hv (qJ (i:=5) (x:=((theLaid.getD 5 (default,.nil)).1,Rows.laid_strconv_ErrSyntax)) (by kernel_rfl))
   obtain rfl:=Option.some.inj (h1.symm.trans (show Tryz.prog.globalNamed _=some 2 by kernel_rfl))
   obtain rfl:=Option.some.inj (h2.symm.trans (show (Tryz.prog.globals[2]?).map (·.type)=some 217 by kernel_rfl))
   obtain ⟨u,v,e⟩:=lx (t:=217) (by kernel_rfl) h4
   refine ⟨.iface u v,?_,.inr ⟨u,v,rfl⟩⟩
   rw [World.var?_cell h1 h3 0,←Array.getElem?_toList,e];rfl
 · obtain ⟨g,t,cs,fuel,p,h1,h2,h3,h4⟩:=ol hv (qJ (i:=4) (x:=((theLaid.getD 4 (default,.nil)).1,Rows.laid_strconv_ErrRange)) (by kernel_rfl))
   obtain rfl:=Option.some.inj (h1.symm.trans (show Tryz.prog.globalNamed _=some 3 by kernel_rfl))
   obtain rfl:=Option.some.inj (h2.symm.trans (show (Tryz.prog.globals[3]?).map (·.type)=some 217 by kernel_rfl))
   obtain ⟨u,v,e⟩:=lx (t:=217) (by kernel_rfl) h4
   refine ⟨.iface u v,?_,.inr ⟨u,v,rfl⟩⟩
   rw [World.var?_cell h1 h3 0,←Array.getElem?_toList,e];rfl
 · obtain ⟨g,t,cs,fuel,p,h1,h2,h3,h4⟩:=ol hv (qJ (i:=2) (x:=((theLaid.getD 2 (default,.nil)).1,Rows.laid_internal_strconv_uint64pow10)) (by kernel_rfl))
   obtain rfl:=Option.some.inj (h1.symm.trans (show Tryz.prog.globalNamed _=some 6 by kernel_rfl))
   obtain rfl:=Option.some.inj (h2.symm.trans (show (Tryz.prog.globals[6]?).map (·.type)=some 284 by kernel_rfl))
   obtain ⟨t',fz,hh⟩:=wO h1 h3
   have e:=Lib.cells_of_tab (k:=.u64) (zs:=Lib.pow10Tab) (show Tryz.prog.underlying 284=some (.array 20 161) by kernel_rfl) (show Tryz.prog.underlying 161=some (.int .u64) by kernel_rfl) (by kernel_rfl) (by kernel_rfl) h4
   refine ⟨t',fz,?_⟩
   rw [hh,←e]
theorem size_of_laid {W:World} (h:zV W):7≤W.heap.size:=by
 obtain ⟨⟨_,h1,_⟩,⟨_,h2,_⟩,⟨t,fz,h3⟩,_,h4⟩:=h
 have a3:=(Array.getElem?_eq_some_iff.1 h3).1
 have a1:2<W.heap.size:=by
  rcases Nat.lt_or_ge 2 W.heap.size with x | x
  · exact x
  · unfold World.cell? at h1;rw [Array.getElem?_eq_none x] at h1;simp at h1
 have a2:3<W.heap.size:=by
  rcases Nat.lt_or_ge 3 W.heap.size with x | x
  · exact x
  · unfold World.cell? at h2;rw [Array.getElem?_eq_none x] at h2;simp at h2
 have a4:1<W.heap.size:=by
  rcases Nat.lt_or_ge 1 W.heap.size with x | x
  · exact x
  · unfold World.cell? at h4;rw [Array.getElem?_eq_none x] at h4;simp at h4
 omega
end Go.Proofs.YtdhehcnfkcibiaaGreatDoor.AM
