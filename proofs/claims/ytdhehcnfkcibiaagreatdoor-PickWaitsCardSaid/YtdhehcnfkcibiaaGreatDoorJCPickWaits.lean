/- The row and the card of PickWaits, out of its plain law. -/
import Derived.Test.YtdhehcnfkcibiaaGreatDoorJD
import Derived.Test.YtdhehcnfkcibiaaGreatDoorCards
import Derived.Test.YtdhehcnfkcibiaaGreatDoorTie
import Derived.SevenTiedAt
import Derived.Test.YtdhehcnfkcibiaaGreatDoorJB2
import Derived.Test.YtdhehcnfkcibiaaGreatDoorJP
set_option linter.all false
set_option linter.unusedVariables false
set_option linter.unusedSimpArgs false
set_option maxRecDepth 1000000
namespace Go.Proofs.YtdhehcnfkcibiaaGreatDoor
open Go Go.ChangeShapes Go.WideShapes Go.ChangeAt Go.RowKit
theorem pickWaits_lifted (os:Os) (started:os.Started) (H:Type) (enc:TypeId×Value→H):
  ReturnsInHanded {} Tryz.checked os 4 .any (fun w args=>(Rows.pickWaitsSpec.pre enc Tryz.prog Tryz.f4 [] false w args∧laidMetH Tryz.prog AM.theLaid w)∧sizedMet enc Tryz.prog Tryz.f4 (OpenSpec.ofChange Rows.pickWaitsSpec) false w args)
   (Rows.pickWaitsSpec.post enc Tryz.prog Tryz.f4 false true false false):=by
 refine AM.handed_shaped (C:=Tryz.checked) (X:=fun w _=>laidMetH Tryz.prog AM.theLaid w) (fun _ _ _ hh h=>h.of_heap hh) AM.own started (by kernel_rfl) Tryz.func4
  (ChangeSpec.witness_at (enc:=enc) (C:=Tryz.checked) (os:=os) (X:=fun w _=>laidMetH Tryz.prog AM.theLaid w) false (AM.laidWorld os) #[.agg #[.int .i64 0,.slice none 0 0,.slice none 0 0,.string { data:= #[] },.int .i64 0,.int .i64 0,.slice none 0 0,.int .i64 0,.int .i64 0,.float .f64 0,.slice none 0 0,.slice none 0 0,.int .i64 0,.int .i64 0,.int .i64 0,.string { data:= #[] },.slice none 0 0,.slice none 0 0,.int .i64 0]] 8 rfl (by kernel_rfl) (by kernel_rfl) (by kernel_rfl) (by kernel_rfl) (by kernel_rfl) (AM.laidWorld_met os _)) ?_
 intro W base args ds gs before hval0 hW _ hsz0 hL hsh _
 have hsz:(DataW.weightsEach Tryz.prog (Tryz.f4.params.toList++Rows.pickWaitsSpec.plain.varTypes Tryz.prog) (ds++gs)).all (· ≤reachBytes)=true:=hsz0
 clear hsz0
 have hval:∀ (j:Nat) t v,Tryz.f4.params[j]?=some t→args[j]?=some v→Value.okWide Tryz.prog W .any base t v:=hval0
 have hW':=hW
 obtain ⟨p,q,hA0,hV,rfl,_,_⟩:=hW
 have hA:DataW.TrodAll enc Tryz.prog W 0 (fun _=>true) true Tryz.f4.params.toList args.toList ds p:=hA0
 have hlt:=DataW.TrodAll.lt hA
 rw [Tryz.params4] at hA hval hsz
 obtain ⟨v0,d0,rfl,rfl,h0⟩:=trodAll_one hA
 obtain ⟨rfl,rfl⟩:=trodVars_none hV
 have hg:=AM.glG_of_laid hL hsh
 have hw0:∀ x∈d0.weights Tryz.prog 35,x≤reachBytes:=fun x hx=>by
  have:=List.all_eq_true.1 hsz x (AM.weightsEach_mem (i:=0) (t:=35) (d:=d0) rfl rfl x hx)
  simpa using this
 obtain ⟨x,hx,hfit⟩:=AM.struct_argW (L:=AM.tys) (k:=8) AM.tys_ok Tryz.underlying35 (show AM.ctyOf AM.tys 8 35=some (.pair (.pair (.int .i64) (.pair (.sl (.pair (.int .i64) (.pair (.int .i64) (.pair .bool (.pair (.pair .str (.pair .str .unit)) (.pair (.sl (.pair (.pair .str (.pair .str .unit)) (.pair (.int .i64) (.pair (.int .i64) (.pair (.int .i64) (.pair (.int .i64) .unit)))))) (.pair .str (.pair (.int .i64) (.pair .bool (.pair .bool .unit)))))))))) .unit)) (.pair (.pair (.sl (.pair .str (.pair (.int .i64) (.pair (.int .i64) (.pair (.int .i64) (.pair (.pair (.int .i64) (.pair (.int .i64) (.pair (.int .i64) (.pair (.int .i64) (.pair (.int .i64) .unit))))) (.pair .bool .unit))))))) (.pair .str (.pair (.int .i64) (.pair (.int .i64) (.pair (.sl (.int .i64)) (.pair (.int .i64) (.pair (.int .i64) (.pair (.flt .f64) .unit)))))))) (.pair (.sl (.pair .str (.pair (.pair (.int .i64) (.pair (.int .i64) (.pair (.int .i64) (.pair (.pair (.flt .f64) (.pair (.int .i64) .unit)) .unit)))) .unit))) (.pair (.sl .str) (.pair (.int .i64) (.pair (.pair (.int .i64) (.pair (.int .i64) (.pair .str (.pair (.sl (.int .i64)) .unit)))) (.pair (.sl (.int .i64)) (.pair (.int .i64) .unit)))))))) by kernel_rfl) (by kernel_rfl) (by kernel_rfl) (hval 0 35 v0 rfl rfl) h0 hw0
 obtain ⟨n,hn⟩:=AM.plain_PickWaits x hfit
 refine (AM.ent_calls (AM.pouchlaw20_PickWaits_ok n) (args:=[AM.encV (.pair (.pair (.int .i64) (.pair (.sl (.pair (.int .i64) (.pair (.int .i64) (.pair .bool (.pair (.pair .str (.pair .str .unit)) (.pair (.sl (.pair (.pair .str (.pair .str .unit)) (.pair (.int .i64) (.pair (.int .i64) (.pair (.int .i64) (.pair (.int .i64) .unit)))))) (.pair .str (.pair (.int .i64) (.pair .bool (.pair .bool .unit)))))))))) .unit)) (.pair (.pair (.sl (.pair .str (.pair (.int .i64) (.pair (.int .i64) (.pair (.int .i64) (.pair (.pair (.int .i64) (.pair (.int .i64) (.pair (.int .i64) (.pair (.int .i64) (.pair (.int .i64) .unit))))) (.pair .bool .unit))))))) (.pair .str (.pair (.int .i64) (.pair (.int .i64) (.pair (.sl (.int .i64)) (.pair (.int .i64) (.pair (.int .i64) (.pair (.flt .f64) .unit)))))))) (.pair (.sl (.pair .str (.pair (.pair (.int .i64) (.pair (.int .i64) (.pair (.int .i64) (.pair (.pair (.flt .f64) (.pair (.int .i64) .unit)) .unit)))) .unit))) (.pair (.sl .str) (.pair (.int .i64) (.pair (.pair (.int .i64) (.pair (.int .i64) (.pair .str (.pair (.sl (.int .i64)) .unit)))) (.pair (.sl (.int .i64)) (.pair (.int .i64) .unit)))))))) x]) (vs:=[v0]) (u:=.bool true) hg (AM.size_of_laid hg) (by simp only [AM.LR];exact ⟨hx,trivial⟩) (by show (AM.pouchlaw20_PickWaits n x).bind _=_;rw [hn];rfl)).mono fun e W' ⟨he,hb⟩=>?_
 subst he
 have e1:Rows.pickWaitsSpec.fn H ([d0]++[])={ results:=[.lit (.bool true)],args:=[d0] }:=rfl
 have hA2:=trodAll_mk1 (Below.trod AM.laidOut (by kernel_rfl) (of_decide_eq_true (by kernel_rfl)) h0 hb hlt)
 refine ⟨_,rfl,_,_,_,[],p,[],hW',?_,?_,?_,hb.frame _,fun h=>by cases h⟩
 · rw [e1];exact trodAll_mk1 (shut_bool Tryz.underlying4 true)
 · rw [e1];exact hA2
 · rw [e1];rfl
theorem pickWaits_h0:Tryz.checked.prog.inPlace 4=Rows.pickWaitsRow.inPlace:=by kernel_rfl
theorem pickWaits_h1:Tryz.checked.prog.unfollowed 4=Rows.pickWaitsRow.unfollowed:=by kernel_rfl
theorem pickWaits_h2:Tryz.checked.prog.recurses 4=Rows.pickWaitsRow.recurses:=by kernel_rfl
theorem pickWaits_h3:Tryz.checked.prog.varsNamed 4=Rows.pickWaitsRow.named:=by kernel_rfl
theorem pickWaits_h4:Tryz.checked.prog.stopsHeard=true:=by kernel_rfl
theorem pickWaits_h5:Tryz.checked.prog.mayEnter=true:=by kernel_rfl
theorem pickWaits_h6:Tryz.checked.prog.liftsFinal=Rows.pickWaitsRow.lifted:=by kernel_rfl
theorem pickWaits_closed:joinedFacts Tryz.checked.prog 4 Tryz.f4 Rows.pickWaitsSpec Rows.pickWaitsRow=true:=by
 unfold joinedFacts
 rw [pickWaits_h0,pickWaits_h1,pickWaits_h2,pickWaits_h3,pickWaits_h4,pickWaits_h5,pickWaits_h6]
 kernel_rfl
theorem pickWaits_holds:Rows.PickWaitsSaid:=
 OpenClaim.holds_of_wide 4 Tryz.f4 rfl rfl rfl rfl rfl rfl rfl ⟨rfl,rfl,rfl,rfl,rfl⟩ rfl rfl rfl rfl rfl (by kernel_rfl) Tryz.func4 pickWaits_closed
  (of_decide_eq_true (by kernel_rfl)) (by unfold Func.isWrapper;first | (rw [if_neg (of_decide_eq_false (by kernel_rfl))];exact ⟨rfl,rfl⟩) | (rw [if_pos (of_decide_eq_true (by kernel_rfl))];kernel_rfl))
  (fun os started H enc _=>pickWaits_lifted os started H enc)
theorem pickWaits_card_holds:Rows.PickWaitsCardSaid:=
 Claim7.holds_tied_plain_at .later [] [.data,.data,.data,.data,.sentinel,.sentinel,.pinned] true (true, "59d88ca482fd0cac2b67b612f2189b743ace6c43d0a08cbd17bc663144a60f55") true
  pickWaits_holds (fun _ h=>by cases h) (by kernel_rfl) (fun _ h=>by cases h) pickWaits_row_tie rfl ⟨rfl,rfl⟩ (by kernel_rfl) rfl
  (fun f fn hf hfn=>by
   obtain rfl:f=4:=Option.some.inj ((show Tryz.prog.funcNamed Rows.pickWaitsRow.func=some 4 by kernel_rfl).symm.trans hf) |>.symm
   obtain rfl:fn=Tryz.f4:=(Option.some.inj (Tryz.func4.symm.trans hfn)).symm
   exact ⟨by kernel_rfl,fun j t ht=>by
    rw [Tryz.params4] at ht
    have h3:t=35:=by
     rcases j with _ | j
     · simpa using ht.symm
     · simp at ht
    subst h3
    exact (show Tryz.prog.wantsStandIn 35=false by kernel_rfl)⟩)
  (by kernel_rfl)
end Go.Proofs.YtdhehcnfkcibiaaGreatDoor
