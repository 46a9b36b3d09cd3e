/- RefdataHistory: what the card asks of the row and the program: the kernel reckons each. -/
import Derived.Test.YtmbhkfclpkopiaaGreatDoorCards
import Derived.SevenTiedAt
import Derived.KernelRfl
namespace Go.Proofs.YtmbhkfclpkopiaaGreatDoor.history
open Go
set_option linter.unusedVariables false

theorem w1 : Rows.refdataHistoryRow.wfByText (OpenSpec.ofChange Rows.refdataHistorySpec) = true := by kernel_rfl
theorem w3 : false = Rows.refdataHistoryRow.goesBy Tryz.pinned.checked.prog := by kernel_rfl
theorem w4 : true = Tryz.pinned.checked.prog.looks [] := by kernel_rfl
theorem w2 : Tryz.pinned.checked.prog.mainIs = some (true, "dcf4bccd9396559be0947e60cc08540ff570da1892a2d2c22751d42d717b54e4".toList) := by kernel_rfl
end Go.Proofs.YtmbhkfclpkopiaaGreatDoor.history
