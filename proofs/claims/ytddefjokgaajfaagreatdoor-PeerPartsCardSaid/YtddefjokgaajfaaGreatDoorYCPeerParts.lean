/- The row and the card of PeerParts, out of its plain law. -/
import Derived.Test.YtddefjokgaajfaaGreatDoorYD
import Derived.Test.YtddefjokgaajfaaGreatDoorCards
import Derived.Test.YtddefjokgaajfaaGreatDoorTie
import Derived.SevenTiedAt
import Derived.Test.YtddefjokgaajfaaGreatDoorYB2
import Derived.Test.YtddefjokgaajfaaGreatDoorYP2
set_option linter.all false
set_option linter.unusedVariables false
set_option linter.unusedSimpArgs false
set_option maxRecDepth 1000000
namespace Go.Proofs.YtddefjokgaajfaaGreatDoor
open Go Go.ChangeShapes Go.WideShapes Go.ChangeAt Go.RowKit
theorem peerParts_lifted (os:Os) (started:os.Started) (H:Type) (enc:TypeId×Value→H):
  ReturnsInHanded {} Tryz.checked os 5 .any (fun w args=>(Rows.peerPartsSpec.pre enc Tryz.prog Tryz.f5 [] false w args∧laidMetH Tryz.prog AM.theLaid w)∧sizedMet enc Tryz.prog Tryz.f5 (OpenSpec.ofChange Rows.peerPartsSpec) false w args)
   (Rows.peerPartsSpec.post enc Tryz.prog Tryz.f5 false true false false):=by
 refine AM.handed_shaped (C:=Tryz.checked) (X:=fun w _=>laidMetH Tryz.prog AM.theLaid w) (fun _ _ _ hh h=>h.of_heap hh) AM.own started (by kernel_rfl) Tryz.func5
  (ChangeSpec.witness_at (enc:=enc) (C:=Tryz.checked) (os:=os) (X:=fun w _=>laidMetH Tryz.prog AM.theLaid w) false (AM.laidWorld os) #[.agg #[.bool false,.slice none 0 0,.slice none 0 0]] 8 rfl (by kernel_rfl) (by kernel_rfl) (by kernel_rfl) (by kernel_rfl) (by kernel_rfl) (AM.laidWorld_met os _)) ?_
 intro W base args ds gs before hval0 hW _ hsz0 hL hsh _
 have hsz:(DataW.weightsEach Tryz.prog (Tryz.f5.params.toList++Rows.peerPartsSpec.plain.varTypes Tryz.prog) (ds++gs)).all (· ≤reachBytes)=true:=hsz0
 clear hsz0
 have hval:∀ (j:Nat) t v,Tryz.f5.params[j]?=some t→args[j]?=some v→Value.okWide Tryz.prog W .any base t v:=hval0
 have hW':=hW
 obtain ⟨p,q,hA0,hV,rfl,_,_⟩:=hW
 have hA:DataW.TrodAll enc Tryz.prog W 0 (fun _=>true) true Tryz.f5.params.toList args.toList ds p:=hA0
 have hlt:=DataW.TrodAll.lt hA
 rw [Tryz.params5] at hA hval hsz
 obtain ⟨v0,d0,rfl,rfl,h0⟩:=trodAll_one hA
 obtain ⟨rfl,rfl⟩:=trodVars_none hV
 have hg:=AM.glG_of_laid hL hsh
 have hw0:∀ x∈d0.weights Tryz.prog 25,x≤reachBytes:=fun x hx=>by
  have:=List.all_eq_true.1 hsz x (AM.weightsEach_mem (i:=0) (t:=25) (d:=d0) rfl rfl x hx)
  simpa using this
 obtain ⟨x,hx,hfit⟩:=AM.struct_argW (L:=AM.tys) (k:=8) AM.tys_ok Tryz.underlying25 (show AM.ctyOf AM.tys 8 25=some (.pair .bool (.pair (.sl (.int .i64)) (.pair (.sl (.sl (.int .u8))) .unit))) by kernel_rfl) (by kernel_rfl) (by kernel_rfl) (hval 0 25 v0 rfl rfl) h0 hw0
 obtain ⟨n,hn⟩:=AM.plain_PeerParts x hfit
 refine (AM.ent_calls (AM.pouchlaw27_PeerParts_ok n) (args:=[AM.encV (.pair .bool (.pair (.sl (.int .i64)) (.pair (.sl (.sl (.int .u8))) .unit))) x]) (vs:=[v0]) (u:=.bool true) hg (AM.size_of_laid hg) (by simp only [AM.LR];exact ⟨hx,trivial⟩) (by show (AM.pouchlaw27_PeerParts n x).bind _=_;rw [hn];rfl)).mono fun e W' ⟨he,hb⟩=>?_
 subst he
 have e1:Rows.peerPartsSpec.fn H ([d0]++[])={ results:=[.lit (.bool true)],args:=[d0] }:=rfl
 have hA2:=trodAll_mk1 (Below.trod AM.laidOut (by kernel_rfl) (of_decide_eq_true (by kernel_rfl)) h0 hb hlt)
 refine ⟨_,rfl,_,_,_,[],p,[],hW',?_,?_,?_,hb.frame _,fun h=>by cases h⟩
 · rw [e1];exact trodAll_mk1 (shut_bool Tryz.underlying4 true)
 · rw [e1];exact hA2
 · rw [e1];rfl
theorem peerParts_holds:Rows.PeerPartsSaid:=
 OpenClaim.holds_of_wide 5 Tryz.f5 rfl rfl rfl rfl rfl rfl rfl ⟨rfl,rfl,rfl,rfl,rfl⟩ rfl rfl rfl rfl rfl (by kernel_rfl) Tryz.func5 (by kernel_rfl)
  (of_decide_eq_true (by kernel_rfl)) (by unfold Func.isWrapper;first | (rw [if_neg (of_decide_eq_false (by kernel_rfl))];exact ⟨rfl,rfl⟩) | (rw [if_pos (of_decide_eq_true (by kernel_rfl))];kernel_rfl))
  (fun os started H enc _=>peerParts_lifted os started H enc)
theorem peerParts_card_holds:Rows.PeerPartsCardSaid:=
 Claim7.holds_tied_plain_at .later [] [.data,.data,.data,.data,.sentinel,.sentinel,.pinned] true (true, "5e9703288dfe745878485f7b0671c324e8ab3e93642c6a460614e4f53c85383b") true
  peerParts_holds (fun _ h=>by cases h) (by kernel_rfl) (fun _ h=>by cases h) peerParts_row_tie rfl ⟨rfl,rfl⟩ (by kernel_rfl) rfl
  (fun f fn hf hfn=>by
   obtain rfl:f=5:=Option.some.inj ((show Tryz.prog.funcNamed Rows.peerPartsRow.func=some 5 by kernel_rfl).symm.trans hf) |>.symm
   obtain rfl:fn=Tryz.f5:=(Option.some.inj (Tryz.func5.symm.trans hfn)).symm
   exact ⟨by kernel_rfl,fun j t ht=>by
    rw [Tryz.params5] at ht
    have h3:t=25:=by
     rcases j with _ | j
     · simpa using ht.symm
     · simp at ht
    subst h3
    exact (show Tryz.prog.wantsStandIn 25=false by kernel_rfl)⟩)
  (by kernel_rfl)
end Go.Proofs.YtddefjokgaajfaaGreatDoor
