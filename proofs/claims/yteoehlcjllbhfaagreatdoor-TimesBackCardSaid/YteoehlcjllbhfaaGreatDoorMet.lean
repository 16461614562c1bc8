/- What the rows list, met by a world that is written out; and what it gives the walks. -/
import Derived.Test.YteoehlcjllbhfaaGreatDoorLaid
import Derived.Test.YteoehlcjllbhfaaGreatDoorRows
import Derived.PinnedBridge
import Derived.Lib.LaidU8T
import Derived.Lib.LaidCase
import Derived.Stop.LaidErr
import Derived.MakeChecks
import Derived.Lay
set_option linter.unusedVariables false
namespace Go.Proofs.YteoehlcjllbhfaaGreatDoor
open Go.RowKit Go.Shelf Go.Lib
def laidAll : List (String × DataW Unit) := Rows.timesDailyRow.laid
theorem laid_plain (w : World) : laidMetH Tryz.prog laidAll w = laidMet Tryz.prog laidAll w := MakeChecks.laidMetH_plain _ _ _ (by kernel_rfl)
set_option maxRecDepth 100000
theorem xCase : CaseExtra Tryz.prog Tryz.lays159_ren := ⟨by kernel_rfl, by kernel_rfl, by kernel_rfl, by kernel_rfl, by kernel_rfl, by kernel_rfl⟩
theorem xU8 : U8Extra Tryz.prog Tryz.lays159_ren := ⟨by kernel_rfl, by kernel_rfl, by kernel_rfl, by kernel_rfl, by kernel_rfl, by kernel_rfl, by kernel_rfl⟩
theorem caseIs : (Rows.laid_unicode_CaseRanges : DataW Unit) = caseData := Pinned.caseRanges_eq
theorem firstIs : (Rows.laid_unicode_utf8_first : DataW Unit) = firstData := Pinned.utf8First_eq
theorem acceptIs : (Rows.laid_unicode_utf8_acceptRanges : DataW Unit) = acceptData := by kernel_rfl
theorem powIs : (Rows.laid_internal_strconv_uint64pow10 : DataW Unit) = Lib.tabData .u64 Lib.pow10Tab := by kernel_rfl
theorem gPow3 : Tryz.prog.globalNamed "internal/strconv.uint64pow10" = some 3 := by kernel_rfl
theorem yPow3 : (Tryz.prog.globals[3]?).map (·.type) = some 132 := by kernel_rfl
theorem gSyn6 : Tryz.prog.globalNamed "strconv.ErrSyntax" = some 6 := by kernel_rfl
theorem ySyn6 : (Tryz.prog.globals[6]?).map (·.type) = some 79 := by kernel_rfl
theorem gRan7 : Tryz.prog.globalNamed "strconv.ErrRange" = some 7 := by kernel_rfl
theorem yRan7 : (Tryz.prog.globals[7]?).map (·.type) = some 79 := by kernel_rfl
theorem c132 : Tryz.prog.cellsOf 132 = 20 := by kernel_rfl
theorem c23 : Tryz.prog.cellsOf 23 = 1 := by kernel_rfl
/-- An error's variable holds some interface value. -/
theorem err_reads {n nm : String} {d : DataW Unit} {g : Nat} {w : World} (hg : Tryz.prog.globalNamed n = some g) (hy : (Tryz.prog.globals[g]?).map (·.type) = some 79) (h : VarReads Tryz.prog w n (.iface nm d)) :
    ∃ tp p, w.var? Tryz.prog n = some #[.iface tp p] := by
  obtain ⟨g', t, cs, fuel, p, hg', hty, hvar, hd⟩ := h
  obtain rfl := Option.some.inj (hg.symm.trans hg')
  obtain rfl := Option.some.inj (hy.symm.trans hty)
  obtain ⟨f1, u, v, e, _, _⟩ := iface_of_trod Tryz.underlying79 hd
  exact ⟨u, v, by rw [hvar]; cases cs; simp_all⟩
/-- What the rows list gives what the walks ask. -/
theorem laidW_of {w : World} (h : laidMetH Tryz.prog laidAll w) : LaidW w := by
  rw [laid_plain] at h
  have r : ∀ n d, (n, d) ∈ laidAll → VarReads Tryz.prog w n d := fun n d hm => Lib.laidMet.reads h hm
  have rp := r "internal/strconv.uint64pow10" Rows.laid_internal_strconv_uint64pow10 (.tail _ (.tail _ (.head _)))
  have ra := r "unicode/utf8.acceptRanges" Rows.laid_unicode_utf8_acceptRanges (.tail _ (.tail _ (.tail _ (.head _))))
  have rr := r "strconv.ErrRange" Rows.laid_strconv_ErrRange (.tail _ (.tail _ (.tail _ (.tail _ (.head _)))))
  have rs := r "strconv.ErrSyntax" Rows.laid_strconv_ErrSyntax (.tail _ (.tail _ (.tail _ (.tail _ (.tail _ (.head _))))))
  have rc := r "unicode.CaseRanges" Rows.laid_unicode_CaseRanges (.tail _ (.tail _ (.tail _ (.tail _ (.tail _ (.tail _ (.head _)))))))
  have rf := r "unicode/utf8.first" Rows.laid_unicode_utf8_first (.tail _ (.tail _ (.tail _ (.tail _ (.tail _ (.tail _ (.tail _ (.head _))))))))
  rw [powIs] at rp
  rw [acceptIs] at ra
  rw [caseIs] at rc
  rw [firstIs] at rf
  refine ⟨?_, err_reads gSyn6 ySyn6 rs, err_reads gRan7 yRan7 rr, caseVar_of_reads { Tryz.lays159 with } (by kernel_rfl) xCase rc, utf8Tabs_of_readsT { Tryz.lays159 with } xU8 rf ra⟩
  obtain ⟨g, t, cs, fuel, p, hg, hty, hvar, hd⟩ := rp
  obtain rfl := Option.some.inj (gPow3.symm.trans hg)
  obtain rfl := Option.some.inj (yPow3.symm.trans hty)
  unfold TabIs
  rw [hvar, ← cells_of_tab Tryz.underlying132 Tryz.underlying23 c23 c132 hd]
/-- The world of the witness. -/
noncomputable abbrev met (os : Os) : World := World.laidAll Tryz.prog os laidAll
theorem met_laid (os : Os) (args : Array Value) : laidMet Tryz.prog laidAll ((met os).forCall (fun _ _ => 0) ⟨#[], args, []⟩).memory := laidMet_laidAll _ (by kernel_rfl) (by kernel_rfl)
theorem met_shaped (os : Os) (args : Array Value) : ((met os).forCall (fun _ _ => 0) ⟨#[], args, []⟩).Shaped Tryz.prog := World.shaped_of_ZipB (by kernel_rfl) (by kernel_rfl)
end Go.Proofs.YteoehlcjllbhfaaGreatDoor
