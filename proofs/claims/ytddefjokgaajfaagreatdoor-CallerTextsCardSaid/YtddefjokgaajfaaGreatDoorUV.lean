/- Commands, plainly: letters, words, where a path ends. -/
import Derived.Test.YtddefjokgaajfaaGreatDoorUQ
set_option linter.all false
set_option linter.unusedVariables false
set_option linter.unusedSimpArgs false
namespace Go.Proofs.YtddefjokgaajfaaGreatDoor.AM
open Go
/-! Letters. -/
def up (c:Int):Int:=if 97≤c∧c≤122 then c - 32 else c
/-! Words. -/
def pr (c:Int):Bool:=decide (33≤c)&&decide (c≤126)
/-! Digits behind a path. -/
/-! Where a path ends:0:outside quotes;1:inside;2:behind a backslash. -/
def pe:Nat→List Int→Nat
 | _,[]=>0
 | 0,c::r=>if c=34 then 1+pe 1 r else if c=62 then 1 else 1+pe 0 r
 | 1,c::r=>if c=92 then 1+pe 2 r else if c=34 then 1+pe 0 r else 1+pe 1 r
 | _+2,_::r=>1+pe 1 r
/-! Paths. -/
open Go Go.RowKit
/-! words. -/
/-! Names. -/
/-! What follows a word. -/
open Go Go.RowKit
/-! Paths. -/
/-! Where a path ends. -/
open Go Go.RowKit
open Go Go.RowKit
/-! Numbers as texts. -/
open Go Go.RowKit
open Go Go.RowKit
open Go Go.RowKit
abbrev zs:BA:=(⟨#[]⟩:BA)
open Go Go.RowKit
open Go Go.RowKit
end Go.Proofs.YtddefjokgaajfaaGreatDoor.AM
