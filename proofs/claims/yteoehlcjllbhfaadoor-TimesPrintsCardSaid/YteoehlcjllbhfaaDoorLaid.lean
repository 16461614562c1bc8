/- What the listed package variables hold while the law runs, as one word on worlds, and that it stays where nothing that was there is turned. -/
import Derived.Test.YteoehlcjllbhfaaDoorShelf
import Derived.Test.YteoehlcjllbhfaaDoorWWords
import Derived.Lib.SmallJoins
namespace Go.Proofs.YteoehlcjllbhfaaDoor
open Go.RowKit Go.Joins Go.Proofs.YteoehlcjllbhfaaDoorW.PrintWords
theorem size_mk (a : Array UInt8) : (⟨a⟩ : ByteArray).size = a.size := rfl
theorem gPow1 : Tryd.prog.globalNamed "internal/strconv.uint64pow10" = some 1 := by kernel_rfl
/-- The table of powers is laid. -/
structure LaidW (w : World) : Prop where
  pow : Lib.TabIs Tryd.prog w "internal/strconv.uint64pow10" .u64 Lib.pow10Tab
theorem LaidW.below {w w' : World} (h : LaidW w) (hb : Below w.heap.size w w') : LaidW w' := ⟨tab_stays gPow1 h.pow hb (Nat.le_refl _)⟩
theorem LaidW.drawn {w w' : World} (h : LaidW w) (hd : Drawn0 w w') : LaidW w' := h.below hd.below
end Go.Proofs.YteoehlcjllbhfaaDoor
