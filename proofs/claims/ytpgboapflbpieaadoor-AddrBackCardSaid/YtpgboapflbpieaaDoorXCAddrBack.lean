/- The row and the card of AddrBack, out of its plain law. -/
import Derived.Test.YtpgboapflbpieaaDoorXD
import Derived.Test.YtpgboapflbpieaaDoorCards
import Derived.Test.YtpgboapflbpieaaDoorTie
import Derived.SevenTiedAt
import Derived.Test.YtpgboapflbpieaaDoorXV
set_option linter.all false
set_option linter.unusedVariables false
set_option linter.unusedSimpArgs false
set_option maxRecDepth 1000000
namespace Go.Proofs.YtpgboapflbpieaaDoor
open Go Go.ChangeShapes Go.WideShapes Go.ChangeAt Go.RowKit
theorem addrBack_lifted (os : Os) (started : os.Started) (H : Type) (enc : TypeId × Value → H) :
  ReturnsInHanded {} Tryd.checked os 5 .any (fun w args => (Rows.addrBackSpec.pre enc Tryd.prog Tryd.f5 [] false w args ∧ laidMetH Tryd.prog AM.theLaid w) ∧ sizedMet enc Tryd.prog Tryd.f5 (OpenSpec.ofChange Rows.addrBackSpec) false w args)
   (Rows.addrBackSpec.post enc Tryd.prog Tryd.f5 false true false false) := by
 refine returnsInHanded_of_change_and (C := Tryd.checked) (X := fun w _ => laidMetH Tryd.prog AM.theLaid w) (fun _ _ _ hh h => h.of_heap hh) AM.own started (by kernel_rfl) Tryd.func5
  (ChangeSpec.witness_at (enc := enc) (C := Tryd.checked) (os := os) (X := fun w _ => laidMetH Tryd.prog AM.theLaid w) false (AM.laidWorld os) #[.slice none 0 0] 8 rfl (by kernel_rfl) (by kernel_rfl) (by kernel_rfl) (by kernel_rfl) (by kernel_rfl) (AM.laidWorld_met os _)) ?_
 intro W base args ds gs before hval0 hW _ hsz0 hL _
 have hsz : (DataW.weightsEach Tryd.prog (Tryd.f5.params.toList ++ Rows.addrBackSpec.plain.varTypes Tryd.prog) (ds ++ gs)).all (· ≤ reachBytes) = true := hsz0
 clear hsz0
 have hval : ∀ (j : Nat) t v, Tryd.f5.params[j]? = some t → args[j]? = some v → Value.okWide Tryd.prog W .any base t v := hval0
 have hW' := hW
 obtain ⟨p, q, hA0, hV, rfl, _, _⟩ := hW
 have hA : DataW.TrodAll enc Tryd.prog W 0 (fun _ => true) true Tryd.f5.params.toList args.toList ds p := hA0
 have hlt := DataW.TrodAll.lt hA
 rw [Tryd.params5] at hA hval hsz
 obtain ⟨v0, d0, rfl, rfl, h0⟩ := trodAll_one hA
 obtain ⟨rfl, rfl⟩ := trodVars_none hV
 have hg := AM.glG_of_laid hL
 have hw0 : ∀ x ∈ d0.weights Tryd.prog 22, x ≤ reachBytes := fun x hx => by
  have := List.all_eq_true.1 hsz x (AM.weightsEach_mem (i := 0) (t := 22) (d := d0) rfl rfl x hx)
  simpa using this
 obtain ⟨x, hx, hfit⟩ := AM.slice_arg (L := AM.tys) (α := (.pair (.pair .str (.pair .str .unit)) (.pair .str .unit))) (k := 8) (e := 27) AM.tys_ok (by kernel_rfl) (by kernel_rfl) (by kernel_rfl) (by kernel_rfl) (by decide) (hval 0 22 v0 rfl rfl) h0 hw0
 obtain ⟨n, hn⟩ := AM.plain_AddrBack x hfit
 refine (AM.ent_calls (AM.w4_AddrBack_ok n) (args := [.snap (.pair (.pair .str (.pair .str .unit)) (.pair .str .unit)) x.n x.at']) (vs := [v0]) (u := .bool true) hg (AM.size_of_laid hg) (by simp only [AM.LR]; exact ⟨hx, trivial⟩) (by show (AM.w4_AddrBack n x).bind _ = _; rw [hn]; rfl)).mono fun e W' ⟨he, hb⟩ => ?_
 subst he
 have e1 : Rows.addrBackSpec.fn H ([d0] ++ []) = { results := [.lit (.bool true)], args := [d0] } := rfl
 have hA2 := trodAll_mk1 (Below.trod AM.laidOut (by kernel_rfl) (of_decide_eq_true (by kernel_rfl)) h0 hb hlt)
 refine ⟨_, rfl, _, _, _, [], p, [], hW', ?_, ?_, ?_, hb.frame _, fun h => by cases h⟩
 · rw [e1]; exact trodAll_mk1 (shut_bool Tryd.underlying4 true)
 · rw [e1]; exact hA2
 · rw [e1]; rfl
theorem addrBack_holds : Rows.AddrBackSaid :=
 OpenClaim.holds_of_wide 5 Tryd.f5 rfl rfl rfl rfl rfl rfl rfl ⟨rfl, rfl, rfl, rfl, rfl⟩ rfl rfl rfl rfl rfl (by kernel_rfl) Tryd.func5 (by kernel_rfl)
  (of_decide_eq_true (by kernel_rfl)) (by unfold Func.isWrapper; first | (rw [if_neg (of_decide_eq_false (by kernel_rfl))]; exact ⟨rfl, rfl⟩) | (rw [if_pos (of_decide_eq_true (by kernel_rfl))]; kernel_rfl))
  (fun os started H enc _ => addrBack_lifted os started H enc)
theorem addrBack_card_holds : Rows.AddrBackCardSaid :=
 Claim7.holds_tied_plain_at .later [] [.data, .data, .data, .data, .sentinel, .sentinel, .pinned] true (true, "440469e32fe3cc5b43ab49033bf94f2006bea937e01d651650d772e9aecf8639") true
  addrBack_holds (fun _ h => by cases h) (by kernel_rfl) (fun _ h => by cases h) addrBack_row_tie rfl ⟨rfl, rfl⟩ (by kernel_rfl) rfl
  (fun f fn hf hfn => by
   obtain rfl : f = 5 := Option.some.inj ((show Tryd.prog.funcNamed Rows.addrBackRow.func = some 5 by kernel_rfl).symm.trans hf) |>.symm
   obtain rfl : fn = Tryd.f5 := (Option.some.inj (Tryd.func5.symm.trans hfn)).symm
   exact ⟨by kernel_rfl, fun j t ht => by
    rw [Tryd.params5] at ht
    have h3 : t = 22 := by
     rcases j with _ | j
     · simpa using ht.symm
     · simp at ht
    subst h3
    exact (show Tryd.prog.wantsStandIn 22 = false by kernel_rfl)⟩)
  (by kernel_rfl)
end Go.Proofs.YtpgboapflbpieaaDoor
