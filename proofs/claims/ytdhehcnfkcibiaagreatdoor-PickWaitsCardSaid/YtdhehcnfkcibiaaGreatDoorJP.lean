/- pick, plainly: what is no job (PickWaits): computed. -/
import Derived.Test.YtdhehcnfkcibiaaGreatDoorJW2
set_option linter.all false
set_option linter.unusedVariables false
set_option linter.unusedSimpArgs false
namespace Go.Proofs.YtdhehcnfkcibiaaGreatDoor.AM
open Go Go.RowKit
set_option maxRecDepth 100000
theorem xO (p:T5):pouchlaw20_PickWaits 10000000 p=(if (decide ((p.2.2.2.1.n:Int)≥(0:Int)))=true then some true else some false):=by kernel_rfl
theorem plain_PickWaits (p:T5) (h:EU reachBytes VU p):∃ n,pouchlaw20_PickWaits n p=some true:=⟨10000000,by
 rw [xO p,if_pos (decide_eq_true (Int.natCast_nonneg _))]⟩
end Go.Proofs.YtdhehcnfkcibiaaGreatDoor.AM
