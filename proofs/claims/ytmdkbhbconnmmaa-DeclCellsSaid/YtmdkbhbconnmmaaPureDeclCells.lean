/- DeclCells: for every type the program's Cells tells what the document's Cells tells, and the array from 1 to 3 has 3 cells. No condition. (This text: of the printed functions alone.) -/
import Derived.Test.YtmdkbhbconnmmaaXDeclCellsx1
namespace Go.Proofs.Ytmdkbhbconnmmaa.Pure
open Go.RowKit Go.Proofs.Ytmdkbhbconnmmaa.XDeclCells Go.Proofs.YtmdkbhbconnmmaaW.PrintWords Go.Proofs.YtmdkbhbconnmmaaW.PrintLast

theorem u64_wrap (a : Int) : IntKind.u64.wrap a = a % 18446744073709551616 := by
  simp only [IntKind.wrap, IntKind.signed, IntKind.bits, Bool.false_and]
  rfl

theorem DeclCells (a0 : Int) (a1 : Bool) (a2 a3 a4 : Int) (a5 : Bool) (a6 a7 : Int) (a8 : ByteArray) :
    ∃ k, relaylaw04_DeclCells.f k a0 a1 a2 a3 a4 a5 a6 a7 a8 = some true := by
  have h3 : decl_Cells.f 3 false 0 0 0 true 1 3 (⟨#[]⟩ : ByteArray) = some 3 := by
    unfold decl_Cells.f
    rw [if_pos rfl, if_neg (by omega), u64_wrap, show wrap64 (3 - 1) = 2 by unfold wrap64; omega, if_neg (by omega), show wrap64 (2 + 1) = 3 by unfold wrap64; omega]
  refine ⟨1, ?_⟩
  unfold relaylaw04_DeclCells.f
  have key : decl_Cells.f a0 a1 a2 a3 a4 a5 a6 a7 a8 = relayref04_Cells.f 1 a0 a1 a2 a3 a4 a5 a6 a7 a8 ∧ ∃ r, decl_Cells.f a0 a1 a2 a3 a4 a5 a6 a7 a8 = some r := by
    unfold decl_Cells.f relayref04_Cells.f
    simp only [relayref04_Cells.j0, u64_wrap]
    cases a5 with
    | true =>
      simp only [if_true, Bool.false_eq_true, if_false]
      by_cases h : a6 > a7
      · rw [if_pos h, if_pos h]
        exact ⟨rfl, _, rfl⟩
      · rw [if_neg h, if_neg h]
        have e : (wrap64 (a7 - a6)) % 18446744073709551616 = (a7 % 18446744073709551616 - a6 % 18446744073709551616) % 18446744073709551616 := by
          unfold wrap64
          omega
        rw [e]
        split
        · exact ⟨rfl, _, rfl⟩
        · exact ⟨rfl, _, rfl⟩
    | false =>
      simp only [Bool.false_eq_true, if_false]
      by_cases h : a8.toList = []
      · simp [h]
      · simp [h]
  obtain ⟨e, r, hr⟩ := key
  rw [← e, hr, h3]
  simp

end Go.Proofs.Ytmdkbhbconnmmaa.Pure
