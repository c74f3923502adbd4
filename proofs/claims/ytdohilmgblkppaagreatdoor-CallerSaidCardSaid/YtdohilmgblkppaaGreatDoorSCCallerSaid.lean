/- The row and the card of CallerSaid, out of its plain law. -/
import Derived.Test.YtdohilmgblkppaaGreatDoorSD
import Derived.Test.YtdohilmgblkppaaGreatDoorCards
import Derived.Test.YtdohilmgblkppaaGreatDoorTie
import Derived.SevenTiedAt
import Derived.Test.YtdohilmgblkppaaGreatDoorSW
set_option linter.all false
set_option linter.unusedVariables false
set_option linter.unusedSimpArgs false
set_option maxRecDepth 1000000
namespace Go.Proofs.YtdohilmgblkppaaGreatDoor
open Go Go.ChangeShapes Go.WideShapes Go.ChangeAt Go.RowKit
theorem callerSaid_lifted (os:Os) (started:os.Started) (H:Type) (enc:TypeId×Value→H):
  ReturnsInHanded {} Tryz.checked os 14 .any (fun w args=>(Rows.callerSaidSpec.pre enc Tryz.prog Tryz.f14 [] false w args∧laidMetH Tryz.prog AM.theLaid w)∧sizedMet enc Tryz.prog Tryz.f14 (OpenSpec.ofChange Rows.callerSaidSpec) false w args)
   (Rows.callerSaidSpec.post enc Tryz.prog Tryz.f14 false true false false):=by
 refine AM.handed_shaped (C:=Tryz.checked) (X:=fun w _=>laidMetH Tryz.prog AM.theLaid w) (fun _ _ _ hh h=>h.of_heap hh) AM.own started (by kernel_rfl) Tryz.func14
  (ChangeSpec.witness_at (enc:=enc) (C:=Tryz.checked) (os:=os) (X:=fun w _=>laidMetH Tryz.prog AM.theLaid w) false (AM.laidWorld os) #[.slice none 0 0] 8 rfl (by kernel_rfl) (by kernel_rfl) (by kernel_rfl) (by kernel_rfl) (by kernel_rfl) (AM.laidWorld_met os _)) ?_
 intro W base args ds gs before hval0 hW _ hsz0 hL hsh _
 have hsz:(DataW.weightsEach Tryz.prog (Tryz.f14.params.toList++Rows.callerSaidSpec.plain.varTypes Tryz.prog) (ds++gs)).all (· ≤reachBytes)=true:=hsz0
 clear hsz0
 have hval:∀ (j:Nat) t v,Tryz.f14.params[j]?=some t→args[j]?=some v→Value.okWide Tryz.prog W .any base t v:=hval0
 have hW':=hW
 obtain ⟨p,q,hA0,hV,rfl,_,_⟩:=hW
 have hA:DataW.TrodAll enc Tryz.prog W 0 (fun _=>true) true Tryz.f14.params.toList args.toList ds p:=hA0
 have hlt:=DataW.TrodAll.lt hA
 rw [Tryz.params14] at hA hval hsz
 obtain ⟨v0,d0,rfl,rfl,h0⟩:=trodAll_one hA
 obtain ⟨rfl,rfl⟩:=trodVars_none hV
 have hg:=AM.glG_of_laid hL hsh
 have hw0:∀ x∈d0.weights Tryz.prog 38,x≤reachBytes:=fun x hx=>by
  have:=List.all_eq_true.1 hsz x (AM.weightsEach_mem (i:=0) (t:=38) (d:=d0) rfl rfl x hx)
  simpa using this
 obtain ⟨x,hx,hfit⟩:=AM.slice_arg (L:=AM.tys) (α:=(.int .i64)) (k:=8) (e:=3) AM.tys_ok (by kernel_rfl) (by kernel_rfl) (by kernel_rfl) (by kernel_rfl) (by decide) (hval 0 38 v0 rfl rfl) h0 hw0
 obtain ⟨n,hn⟩:=AM.plain_CallerSaid x hfit
 refine (AM.ent_calls (AM.w2_CallerSaid_ok n) (args:=[.snap (.int .i64) x.n x.at']) (vs:=[v0]) (u:=.bool true) hg (AM.size_of_laid hg) (by simp only [AM.LR];exact ⟨hx,trivial⟩) (by show (AM.w2_CallerSaid n x).bind _=_;rw [hn];rfl)).mono fun e W' ⟨he,hb⟩=>?_
 subst he
 have e1:Rows.callerSaidSpec.fn H ([d0]++[])={ results:=[.lit (.bool true)],args:=[d0] }:=rfl
 have hA2:=trodAll_mk1 (Below.trod AM.laidOut (by kernel_rfl) (of_decide_eq_true (by kernel_rfl)) h0 hb hlt)
 refine ⟨_,rfl,_,_,_,[],p,[],hW',?_,?_,?_,hb.frame _,fun h=>by cases h⟩
 · rw [e1];exact trodAll_mk1 (shut_bool Tryz.underlying4 true)
 · rw [e1];exact hA2
 · rw [e1];rfl
theorem callerSaid_holds:Rows.CallerSaidSaid:=
 OpenClaim.holds_of_wide 14 Tryz.f14 rfl rfl rfl rfl rfl rfl rfl ⟨rfl,rfl,rfl,rfl,rfl⟩ rfl rfl rfl rfl rfl (by kernel_rfl) Tryz.func14 (by kernel_rfl)
  (of_decide_eq_true (by kernel_rfl)) (by unfold Func.isWrapper;first | (rw [if_neg (of_decide_eq_false (by kernel_rfl))];exact ⟨rfl,rfl⟩) | (rw [if_pos (of_decide_eq_true (by kernel_rfl))];kernel_rfl))
  (fun os started H enc _=>callerSaid_lifted os started H enc)
theorem callerSaid_card_holds:Rows.CallerSaidCardSaid:=
 Claim7.holds_tied_plain_at .later [] [.data,.data,.data,.data,.sentinel,.sentinel,.pinned] true (true, "ac6dd66abe47d9f5a5254c5a667d51af700fbd6ffa1340c8c1ba259e5f197c99") true
  callerSaid_holds (fun _ h=>by cases h) (by kernel_rfl) (fun _ h=>by cases h) callerSaid_row_tie rfl ⟨rfl,rfl⟩ (by kernel_rfl) rfl
  (fun f fn hf hfn=>by
   obtain rfl:f=14:=Option.some.inj ((show Tryz.prog.funcNamed Rows.callerSaidRow.func=some 14 by kernel_rfl).symm.trans hf) |>.symm
   obtain rfl:fn=Tryz.f14:=(Option.some.inj (Tryz.func14.symm.trans hfn)).symm
   exact ⟨by kernel_rfl,fun j t ht=>by
    rw [Tryz.params14] at ht
    have h3:t=38:=by
     rcases j with _ | j
     · simpa using ht.symm
     · simp at ht
    subst h3
    exact (show Tryz.prog.wantsStandIn 38=false by kernel_rfl)⟩)
  (by kernel_rfl)
end Go.Proofs.YtdohilmgblkppaaGreatDoor
