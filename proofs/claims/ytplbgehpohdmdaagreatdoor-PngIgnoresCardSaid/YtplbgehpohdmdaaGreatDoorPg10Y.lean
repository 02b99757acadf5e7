/- chapter 35: what the laws want. -/
import Derived.Test.YtplbgehpohdmdaaGreatDoorY27
set_option linter.unusedSimpArgs false
set_option linter.unusedVariables false
namespace Go.Proofs.YtplbgehpohdmdaaGreatDoor
open Go.RowKit Sym
open Pg
def Few (l : List Ck) : Prop := l.length ≤ 40 ∧ ∀ c ∈ l, c.1.length ≤ 10 ∧ c.2.length ≤ 300
instance (l : List Ck) : Decidable (Few l) := inferInstanceAs (Decidable (_ ∧ _))
end Go.Proofs.YtplbgehpohdmdaaGreatDoor
