/- What the listed package variables hold while the law runs, as one word on worlds, and that it stays where nothing that was there is turned. -/
import Derived.Test.YtmdkbhbconnmmaaDoorShelf
import Derived.Test.YtmdkbhbconnmmaaDoorWWords
import Derived.Lib.SmallJoins
namespace Go.Proofs.YtmdkbhbconnmmaaDoor
open Go.RowKit Go.Joins Go.Proofs.YtmdkbhbconnmmaaDoorW.PrintWords
theorem gSyn0 : Tryd.prog.globalNamed "strconv.ErrSyntax" = some 1 := by kernel_rfl
theorem gRan0 : Tryd.prog.globalNamed "strconv.ErrRange" = some 2 := by kernel_rfl
theorem gPow0 : Tryd.prog.globalNamed "internal/strconv.uint64pow10" = some 3 := by kernel_rfl
/-- The table of powers and the two errors are laid. -/
structure LaidW (w : World) : Prop where
  pow : Lib.TabIs Tryd.prog w "internal/strconv.uint64pow10" .u64 Lib.pow10Tab
  syn : ∃ tp p, w.var? Tryd.prog "strconv.ErrSyntax" = some #[.iface tp p]
  ran : ∃ tp p, w.var? Tryd.prog "strconv.ErrRange" = some #[.iface tp p]
theorem LaidW.below {w w' : World} (h : LaidW w) (hb : Below w.heap.size w w') : LaidW w' := by
  obtain ⟨h1, ⟨t2, p2, h2⟩, ⟨t3, p3, h3⟩⟩ := h
  exact ⟨tab_stays gPow0 h1 hb (Nat.le_refl _), ⟨t2, p2, var_stays gSyn0 h2 hb (Nat.le_refl _)⟩, ⟨t3, p3, var_stays gRan0 h3 hb (Nat.le_refl _)⟩⟩
theorem LaidW.drawn {w w' : World} (h : LaidW w) (hd : Drawn0 w w') : LaidW w' := h.below hd.below
end Go.Proofs.YtmdkbhbconnmmaaDoor
