/- What the rows list, met by a world that is written out; and what it gives the walks. -/
import Derived.Test.YteoehlcjllbhfaaDoorLaid
import Derived.Test.YteoehlcjllbhfaaDoorRows
import Derived.Stop.LaidErr
import Derived.Lib.LaidU8
import Derived.Lib.LaidTab
import Derived.LaidHandle
import Derived.KernelRfl
import Derived.MakeChecks
import Derived.Lay
set_option linter.unusedVariables false
namespace Go.Proofs.YteoehlcjllbhfaaDoor
open Go.RowKit Go.Shelf Go.Lib
def laidAll : List (String × DataW Unit) := Rows.timesPrintsRow.laid
theorem laid_plain (w : World) : laidMetH Tryd.prog laidAll w = laidMet Tryd.prog laidAll w := MakeChecks.laidMetH_plain _ _ _ (by kernel_rfl)
set_option maxRecDepth 100000
theorem powIs : (Rows.laid_internal_strconv_uint64pow10 : DataW Unit) = Lib.tabData .u64 Lib.pow10Tab := by kernel_rfl
theorem gPowM : Tryd.prog.globalNamed "internal/strconv.uint64pow10" = some 1 := by kernel_rfl
theorem yPowM : (Tryd.prog.globals[1]?).map (·.type) = some 84 := by kernel_rfl
theorem c132 : Tryd.prog.cellsOf 84 = 20 := by kernel_rfl
theorem c23 : Tryd.prog.cellsOf 23 = 1 := by kernel_rfl
/-- What the rows list gives what the walks ask. -/
theorem laidW_of {w : World} (h : laidMetH Tryd.prog laidAll w) : LaidW w := by
  rw [laid_plain] at h
  have r : ∀ n d, (n, d) ∈ laidAll → VarReads Tryd.prog w n d := fun n d hm => Lib.laidMet.reads h hm
  have rp := r "internal/strconv.uint64pow10" Rows.laid_internal_strconv_uint64pow10 (.tail _ (.tail _ (.head _)))
  rw [powIs] at rp
  refine ⟨?_⟩
  obtain ⟨g, t, cs, fuel, p, hg, hty, hvar, hd⟩ := rp
  obtain rfl := Option.some.inj (gPowM.symm.trans hg)
  obtain rfl := Option.some.inj (yPowM.symm.trans hty)
  unfold TabIs
  rw [hvar, ← cells_of_tab Tryd.underlying84 Tryd.underlying23 c23 c132 hd]
/-- The world of the witness. -/
noncomputable abbrev met (os : Os) : World := World.laidAll Tryd.prog os laidAll
theorem met_laid (os : Os) (args : Array Value) : laidMet Tryd.prog laidAll ((met os).forCall (fun _ _ => 0) ⟨#[], args, []⟩).memory := laidMet_laidAll _ (by kernel_rfl) (by kernel_rfl)
theorem met_shaped (os : Os) (args : Array Value) : ((met os).forCall (fun _ _ => 0) ⟨#[], args, []⟩).Shaped Tryd.prog := World.shaped_of_ZipB (by kernel_rfl) (by kernel_rfl)
end Go.Proofs.YteoehlcjllbhfaaDoor
