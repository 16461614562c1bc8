/- What the rows list, met by a world that is written out; and what it gives the walks. -/
import Derived.Test.YtmdkbhbconnmmaaDoorLaid
import Derived.Test.YtmdkbhbconnmmaaDoorRows
import Derived.Stop.LaidErr
import Derived.Lib.LaidU8
import Derived.Lib.LaidTab
import Derived.LaidHandle
import Derived.KernelRfl
import Derived.MakeChecks
import Derived.Lay
set_option linter.unusedVariables false
namespace Go.Proofs.YtmdkbhbconnmmaaDoor
open Go.RowKit Go.Shelf Go.Lib
def laidAll : List (String × DataW Unit) := Rows.lexNamesRow.laid
theorem laid_plain (w : World) : laidMetH Tryd.prog laidAll w = laidMet Tryd.prog laidAll w := MakeChecks.laidMetH_plain _ _ _ (by kernel_rfl)
set_option maxRecDepth 100000
theorem powIs : (Rows.laid_internal_strconv_uint64pow10 : DataW Unit) = Lib.tabData .u64 Lib.pow10Tab := by kernel_rfl
theorem gPow3 : Tryd.prog.globalNamed "internal/strconv.uint64pow10" = some 3 := by kernel_rfl
theorem yPow3 : (Tryd.prog.globals[3]?).map (·.type) = some 63 := by kernel_rfl
theorem gSyn6 : Tryd.prog.globalNamed "strconv.ErrSyntax" = some 1 := by kernel_rfl
theorem ySyn6 : (Tryd.prog.globals[1]?).map (·.type) = some 27 := by kernel_rfl
theorem gRan7 : Tryd.prog.globalNamed "strconv.ErrRange" = some 2 := by kernel_rfl
theorem yRan7 : (Tryd.prog.globals[2]?).map (·.type) = some 27 := by kernel_rfl
theorem c132 : Tryd.prog.cellsOf 63 = 20 := by kernel_rfl
theorem c23 : Tryd.prog.cellsOf 44 = 1 := by kernel_rfl
/-- An error's variable holds some interface value. -/
theorem err_reads {n nm : String} {d : DataW Unit} {g : Nat} {w : World} (hg : Tryd.prog.globalNamed n = some g) (hy : (Tryd.prog.globals[g]?).map (·.type) = some 27) (h : VarReads Tryd.prog w n (.iface nm d)) :
    ∃ tp p, w.var? Tryd.prog n = some #[.iface tp p] := by
  obtain ⟨g', t, cs, fuel, p, hg', hty, hvar, hd⟩ := h
  obtain rfl := Option.some.inj (hg.symm.trans hg')
  obtain rfl := Option.some.inj (hy.symm.trans hty)
  obtain ⟨f1, u, v, e, _, _⟩ := iface_of_trod Tryd.underlying27 hd
  exact ⟨u, v, by rw [hvar]; cases cs; simp_all⟩
/-- What the rows list gives what the walks ask. -/
theorem laidW_of {w : World} (h : laidMetH Tryd.prog laidAll w) : LaidW w := by
  rw [laid_plain] at h
  have r : ∀ n d, (n, d) ∈ laidAll → VarReads Tryd.prog w n d := fun n d hm => Lib.laidMet.reads h hm
  have rp := r "internal/strconv.uint64pow10" Rows.laid_internal_strconv_uint64pow10 (.tail _ (.tail _ (.head _)))
  have rr := r "strconv.ErrRange" Rows.laid_strconv_ErrRange (.tail _ (.tail _ (.tail _ (.head _))))
  have rs := r "strconv.ErrSyntax" Rows.laid_strconv_ErrSyntax (.tail _ (.tail _ (.tail _ (.tail _ (.head _)))))
  rw [powIs] at rp
  refine ⟨?_, err_reads gSyn6 ySyn6 rs, err_reads gRan7 yRan7 rr⟩
  obtain ⟨g, t, cs, fuel, p, hg, hty, hvar, hd⟩ := rp
  obtain rfl := Option.some.inj (gPow3.symm.trans hg)
  obtain rfl := Option.some.inj (yPow3.symm.trans hty)
  unfold TabIs
  rw [hvar, ← cells_of_tab Tryd.underlying63 Tryd.underlying44 c23 c132 hd]
/-- The world of the witness. -/
noncomputable abbrev met (os : Os) : World := World.laidAll Tryd.prog os laidAll
theorem met_laid (os : Os) (args : Array Value) : laidMet Tryd.prog laidAll ((met os).forCall (fun _ _ => 0) ⟨#[], args, []⟩).memory := laidMet_laidAll _ (by kernel_rfl) (by kernel_rfl)
theorem met_shaped (os : Os) (args : Array Value) : ((met os).forCall (fun _ _ => 0) ⟨#[], args, []⟩).Shaped Tryd.prog := World.shaped_of_ZipB (by kernel_rfl) (by kernel_rfl)
end Go.Proofs.YtmdkbhbconnmmaaDoor
