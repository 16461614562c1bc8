/- What the listed package variables hold while the laws run, as one word on worlds, and that it stays where nothing that was there is turned. -/
import Derived.Test.YteoehlcjllbhfaaGreatDoorShelf
import Derived.Test.YteoehlcjllbhfaaGreatDoorWWords
import Derived.Lib.SmallJoins
namespace Go.Proofs.YteoehlcjllbhfaaGreatDoor
open Go.RowKit Go.Joins Go.Proofs.YteoehlcjllbhfaaGreatDoorW.PrintWords
theorem size_mk (a : Array UInt8) : (⟨a⟩ : ByteArray).size = a.size := rfl
theorem gPow : Tryz.prog.globalNamed "internal/strconv.uint64pow10" = some (Tryz.prog.globalNamed "internal/strconv.uint64pow10").get! := by kernel_rfl
theorem gSyn : Tryz.prog.globalNamed "strconv.ErrSyntax" = some (Tryz.prog.globalNamed "strconv.ErrSyntax").get! := by kernel_rfl
theorem gRan : Tryz.prog.globalNamed "strconv.ErrRange" = some (Tryz.prog.globalNamed "strconv.ErrRange").get! := by kernel_rfl
/-- The table of powers, the two errors, the tables of letters and of UTF-8 are laid. -/
structure LaidW (w : World) : Prop where
  pow : Lib.TabIs Tryz.prog w "internal/strconv.uint64pow10" .u64 Lib.pow10Tab
  syn : ∃ tp p, w.var? Tryz.prog "strconv.ErrSyntax" = some #[.iface tp p]
  ran : ∃ tp p, w.var? Tryz.prog "strconv.ErrRange" = some #[.iface tp p]
  case : Lib.CaseVar 2 Lib.caseA w
  utf8 : Lib.Utf8Tabs 4 5 w
theorem LaidW.below {w w' : World} (h : LaidW w) (hb : Below w.heap.size w w') : LaidW w' := by
  obtain ⟨h1, ⟨t2, p2, h2⟩, ⟨t3, p3, h3⟩, h4, h5⟩ := h
  exact ⟨tab_stays gPow h1 hb (Nat.le_refl _), ⟨t2, p2, var_stays gSyn h2 hb (Nat.le_refl _)⟩, ⟨t3, p3, var_stays gRan h3 hb (Nat.le_refl _)⟩, Lib.CaseVar_below h4 hb, Utf8Tabs_below h5 hb⟩
theorem LaidW.drawn {w w' : World} (h : LaidW w) (hd : Drawn0 w w') : LaidW w' := h.below hd.below
end Go.Proofs.YteoehlcjllbhfaaGreatDoor
