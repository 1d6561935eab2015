/- What the laws of the chapter share. -/
import Derived.Test.YtjdjplfkfpfifaaDoorW
namespace Go.Proofs.YtjdjplfkfpfifaaDoor
open Go Go.RowKit
set_option linter.unusedVariables false
set_option linter.unusedSimpArgs false

theorem TabAt.pos {w : World} (h : TabAt w) : 0 < w.heap.size := by
  have := World.block_lt_of_cell? w _ (h 0 (by decide))
  omega
end Go.Proofs.YtjdjplfkfpfifaaDoor
