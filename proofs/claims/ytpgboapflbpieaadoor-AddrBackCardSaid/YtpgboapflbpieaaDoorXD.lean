/- A world in which the listed variables hold what the rows list; what a walk has of them. -/
import Derived.Test.YtpgboapflbpieaaDoorXL
import Derived.Test.YtpgboapflbpieaaDoorRows
import Derived.Test.YtpgboapflbpieaaDoorXB
import Derived.SizedLaws
import Derived.ChangeSame
import Derived.ChangeVars
import Derived.JoinedOf
import Derived.JoinedAt
import Derived.RowKit
import Derived.RowKit3
import Derived.RowKitTokens
import Derived.LaidLaws
import Derived.LaidHandle
import Derived.Lib.LaidTab
import Derived.Stop.Joined
import Derived.Handed
set_option linter.all false
set_option linter.unusedVariables false
set_option linter.unusedSimpArgs false
set_option maxRecDepth 1000000
namespace Go.Proofs.YtpgboapflbpieaaDoor.AM
open Go Go.RowKit
theorem laidOut : laidOutB Tryd.prog = true := by kernel_rfl
theorem own : ownKnob Tryd.prog.godebug = none := by kernel_rfl
mutual
def flatD : DataW Unit → List Value
 | .lit l => [l.value]
 | .agg parts => flatDs parts
 | _ => []
def flatDs : List (DataW Unit) → List Value
 | [] => []
 | d :: ds => flatD d ++ flatDs ds
end
def layC (w : World) (q : Nat) (cs : List Value) : World := { w with heap := w.heap.modify q fun
 | .cells _ t fz => .cells cs.toArray t fz
 | o => o }
abbrev synS : BA := { data := #[105, 110, 118, 97, 108, 105, 100, 32, 115, 121, 110, 116, 97, 120] }
abbrev rngS : BA := { data := #[118, 97, 108, 117, 101, 32, 111, 117, 116, 32, 111, 102, 32, 114, 97, 110, 103, 101] }
noncomputable def lowB : Nat := (World.holding Tryd.prog default ⟨#[], #[], []⟩).heap.size
noncomputable def theLaid : List (String × DataW Unit) := Rows.addrBackRow.laid
noncomputable def layAll (w : World) : List (String × DataW Unit) → World
 | [] => w
 | (n, d) :: l => match d, Tryd.prog.globalNamed n with
  | .iface _ _, _ => layAll w l
  | d, some q => layAll (layC w q (flatD d)) l
  | _, none => layAll w l
noncomputable def laidWorld (os : Os) : World :=
 layC (layC (layAll (World.holding Tryd.prog os ⟨#[.cells #[.string synS] 118, .cells #[.string rngS] 118], #[], []⟩) theLaid) 1 [.iface 116 (.pointer (some ⟨lowB, 0, none⟩))]) 2 [.iface 116 (.pointer (some ⟨lowB + 1, 0, none⟩))]
theorem laidWorld_met (os : Os) (args : Array Value) : laidMetH Tryd.prog theLaid ((laidWorld os).forCall (fun _ _ => 0) ⟨#[], args, []⟩).memory :=
 laidMetH_of_parts (laidMet_of_run' 8 (by kernel_rfl) (by kernel_rfl)) (by kernel_rfl)
theorem laidVars_mem {P : Program} {w : World} {n : String} {d : DataW Unit} : ∀ {l : List (String × DataW Unit)} {ps : List MemPlace}, DataW.LaidVars P w l ps → (n, d) ∈ l →
  ∃ g t cs fuel p, P.globalNamed n = some g ∧ (P.globals[g]?).map (·.type) = some t ∧ w.var? P n = some cs ∧ DataW.trod (fun _ => ()) P w 0 (fun _ => true) false fuel t cs.toList = some (d, p)
 | [], _, _, h => by cases h
 | (n', d') :: l, ps, h, hm => by
  obtain ⟨g, t, cs, fuel, p, q, h1, h2, h3, h4, h5, _⟩ := h
  rcases List.mem_cons.1 hm with e | hm
  · cases e; exact ⟨g, t, cs, fuel, p, h1, h2, h3, h4⟩
  · exact laidVars_mem h5 hm
theorem laid_plain {W : World} (h : laidMetH Tryd.prog theLaid W) : laidMet Tryd.prog theLaid W := by
 unfold laidMetH at h
 rw [show (theLaid.filter fun x => x.2.handleName?.isSome) = [] from by kernel_rfl] at h
 exact h
theorem var_heap {P : Program} {w : World} {n : String} {q : Nat} {cs : Array Value} (hq : P.globalNamed n = some q) (h : w.var? P n = some cs) : ∃ t fz, w.heap[q]? = some (.cells cs t fz) := by
 unfold World.var? at h
 rw [hq, Option.bind_some] at h
 split at h
 · rename_i c t fz hb; cases h; exact ⟨t, fz, hb⟩
 · cases h
def isIf : Option TypeDesc → Bool
 | some (.interface _) => true
 | _ => false
theorem iface_of_trod {P : Program} {w : World} {fuel : Nat} {t : TypeId} {cs : List Value} {nm : String} {d : DataW Unit} {p : List MemPlace} (hi : isIf (P.underlying t) = true)
  (h : DataW.trod (fun _ => ()) P w 0 (fun _ => true) false fuel t cs = some (.iface nm d, p)) : ∃ u v, cs = [.iface u v] := by
 obtain ⟨ms, hu⟩ : ∃ ms, P.underlying t = some (.interface ms) := by
  unfold isIf at hi
  split at hi
  · rename_i ms hu; exact ⟨ms, hu⟩
  · cases hi
 cases fuel with
 | zero => simp [DataW.trod] at h
 | succ fuel =>
  simp only [DataW.trod, hu] at h
  split at h
  all_goals first
   | exact ⟨_, _, rfl⟩
   | (cases h; done)
   | (simp_all; done)
theorem nth_mem {α : Type} {l : List α} {i : Nat} {x : α} (h : l[i]? = some x) : x ∈ l := List.mem_of_getElem? h
theorem glG_of_laid {W : World} (h : laidMetH Tryd.prog theLaid W) : glG W := by
 obtain ⟨ps, hv, _, _⟩ := laid_plain h
 refine ⟨?_, ?_, ?_⟩
 · obtain ⟨g, t, cs, fuel, p, h1, h2, h3, h4⟩ := laidVars_mem hv (nth_mem (i := 5) (x := ((theLaid.getD 5 (default, .nil)).1, Rows.laid_strconv_ErrSyntax)) (by kernel_rfl))
   obtain rfl := Option.some.inj (h1.symm.trans (show Tryd.prog.globalNamed _ = some 1 by kernel_rfl))
   obtain rfl := Option.some.inj (h2.symm.trans (show (Tryd.prog.globals[1]?).map (·.type) = some 74 by kernel_rfl))
   obtain ⟨u, v, e⟩ := iface_of_trod (t := 74) (by kernel_rfl) h4
   refine ⟨.iface u v, ?_, .inr ⟨u, v, rfl⟩⟩
   rw [World.var?_cell h1 h3 0, ← Array.getElem?_toList, e]; rfl
 · obtain ⟨g, t, cs, fuel, p, h1, h2, h3, h4⟩ := laidVars_mem hv (nth_mem (i := 4) (x := ((theLaid.getD 4 (default, .nil)).1, Rows.laid_strconv_ErrRange)) (by kernel_rfl))
   obtain rfl := Option.some.inj (h1.symm.trans (show Tryd.prog.globalNamed _ = some 2 by kernel_rfl))
   obtain rfl := Option.some.inj (h2.symm.trans (show (Tryd.prog.globals[2]?).map (·.type) = some 74 by kernel_rfl))
   obtain ⟨u, v, e⟩ := iface_of_trod (t := 74) (by kernel_rfl) h4
   refine ⟨.iface u v, ?_, .inr ⟨u, v, rfl⟩⟩
   rw [World.var?_cell h1 h3 0, ← Array.getElem?_toList, e]; rfl
 · obtain ⟨g, t, cs, fuel, p, h1, h2, h3, h4⟩ := laidVars_mem hv (nth_mem (i := 2) (x := ((theLaid.getD 2 (default, .nil)).1, Rows.laid_internal_strconv_uint64pow10)) (by kernel_rfl))
   obtain rfl := Option.some.inj (h1.symm.trans (show Tryd.prog.globalNamed _ = some 5 by kernel_rfl))
   obtain rfl := Option.some.inj (h2.symm.trans (show (Tryd.prog.globals[5]?).map (·.type) = some 120 by kernel_rfl))
   obtain ⟨t', fz, hh⟩ := var_heap h1 h3
   have e := Lib.cells_of_tab (k := .u64) (zs := Lib.pow10Tab) (show Tryd.prog.underlying 120 = some (.array 20 98) by kernel_rfl) (show Tryd.prog.underlying 98 = some (.int .u64) by kernel_rfl) (by kernel_rfl) (by kernel_rfl) h4
   refine ⟨t', fz, ?_⟩
   rw [hh, ← e]
theorem size_of_laid {W : World} (h : glG W) : 6 ≤ W.heap.size := by
 obtain ⟨⟨_, h1, _⟩, ⟨_, h2, _⟩, t, fz, h3⟩ := h
 have a3 := (Array.getElem?_eq_some_iff.1 h3).1
 have a1 : 1 < W.heap.size := by
  rcases Nat.lt_or_ge 1 W.heap.size with x | x
  · exact x
  · unfold World.cell? at h1; rw [Array.getElem?_eq_none x] at h1; simp at h1
 have a2 : 2 < W.heap.size := by
  rcases Nat.lt_or_ge 2 W.heap.size with x | x
  · exact x
  · unfold World.cell? at h2; rw [Array.getElem?_eq_none x] at h2; simp at h2
 omega
end Go.Proofs.YtpgboapflbpieaaDoor.AM
