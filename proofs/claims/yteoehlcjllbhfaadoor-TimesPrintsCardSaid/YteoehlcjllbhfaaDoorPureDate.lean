/- TimesPrints: dates' texts. (This text: of the Lean functions alone.) -/
import Derived.Test.YteoehlcjllbhfaaDoorPurePad
import Derived.Test.YteoehlcjllbhfaaDoorPureCivil
import Derived.Test.YteoehlcjllbhfaaDoorXPrintsx11
namespace Go.Proofs.YteoehlcjllbhfaaDoor.PurePad
open Go.RowKit Go.Proofs.YteoehlcjllbhfaaDoor.XPrints Go.Proofs.YteoehlcjllbhfaaDoorW.PrintWords Go.Proofs.YteoehlcjllbhfaaDoorW.PrintLast Go.Proofs.YteoehlcjllbhfaaDoorW.PrintMore Go.Proofs.YteoehlcjllbhfaaDoor.Dec
set_option linter.unusedVariables false
set_option linter.unusedSimpArgs false
theorem pad_le (n least : Nat) (h : n < 10 ^ 20) (hl : least ≤ 20) : (padL n least).length ≤ 20 := by
  have := dec_length 19 n h
  unfold padL
  rw [List.length_append, List.length_replicate]
  omega
/-- Both dates' texts. -/
theorem date_both (n : Int) (d : Int) (hd : wrap64 (Int.tdiv n 86400000000000) = d) : ∃ l : List UInt8, l.length ≤ 100 ∧ Ev (fun k => times_dateText.f k d) (mk l) ∧ Ev (fun k => relayref02_dateText.f k n) (mk l) := by
  obtain ⟨⟨y, m, c, ok⟩, ⟨Kp, hp⟩, ⟨Kq, hq⟩, ⟨y0, y1⟩, ⟨m0, m1⟩, ⟨c0, c1⟩⟩ := PureCivil.civil d
  simp only at y0 y1 m0 m1 c0 c1
  obtain ⟨y, rfl⟩ : ∃ t : Nat, y = t := ⟨y.toNat, by omega⟩
  obtain ⟨m, rfl⟩ : ∃ t : Nat, m = t := ⟨m.toNat, by omega⟩
  obtain ⟨c, rfl⟩ : ∃ t : Nat, c = t := ⟨c.toNat, by omega⟩
  have big : (4000000001 : Nat) ≤ 10 ^ 20 := by decide
  have l1 := pad_le y 4 (by omega) (by omega)
  have l2 := pad_le m 2 (by omega) (by omega)
  have l3 := pad_le c 2 (by omega) (by omega)
  refine ⟨padL y 4 ++ [45] ++ padL m 2 ++ [45] ++ padL c 2, by simp only [List.length_append, List.length_singleton]; omega, ⟨Kp, fun k hk => ?_⟩, ?_⟩
  · have e : times_Civil.f k d = _ := hp k hk
    show times_dateText.f k d = _
    unfold times_dateText.f
    rw [e]
    simp only [Option.bind_some]
    rw [show ((4 : Int)) = ((4 : Nat) : Int) from rfl, show ((2 : Int)) = ((2 : Nat) : Int) from rfl, pad_eq y 4 (by omega) (by omega)]
    simp only [Option.bind_some]
    rw [mk_size, if_pos (by omega), pad_eq m 2 (by omega) (by omega)]
    simp only [Option.bind_some]
    rw [show (⟨#[45]⟩ : ByteArray) = mk [45] from rfl, mk_append, mk_append, mk_append, mk_size, mk_size, mk_size, if_pos (by simp only [List.length_append, List.length_singleton]; omega), if_pos (by simp only [List.length_append, List.length_singleton]; omega), pad_eq c 2 (by omega) (by omega)]
    simp only [Option.bind_some]
    rw [mk_append, mk_size, mk_size, if_pos (by simp only [List.length_append, List.length_singleton]; omega)]
  · obtain ⟨K1, h1⟩ := digits_eq y 4 (by omega) (by omega) (by omega)
    obtain ⟨K2, h2⟩ := digits_eq m 2 (by omega) (by omega) (by omega)
    obtain ⟨K3, h3⟩ := digits_eq c 2 (by omega) (by omega) (by omega)
    refine ⟨Kq + K1 + K2 + K3, fun k hk => ?_⟩
    have e : relayref02_Civil.f k d = _ := hq k (by omega)
    have f1 : relayref02_digits.f k (y : Int) 4 = _ := h1 k (by omega)
    have f2 : relayref02_digits.f k (m : Int) 2 = _ := h2 k (by omega)
    have f3 : relayref02_digits.f k (c : Int) 2 = _ := h3 k (by omega)
    show relayref02_dateText.f k n = _
    unfold relayref02_dateText.f
    rw [hd, e]
    simp only [Option.bind_some]
    rw [u64_eq (by omega) (by omega), u64_eq (by omega) (by omega), u64_eq (by omega) (by omega), f1]
    simp only [Option.bind_some]
    rw [mk_size, if_pos (by omega), f2]
    simp only [Option.bind_some]
    rw [show (⟨#[45]⟩ : ByteArray) = mk [45] from rfl, mk_append, mk_append, mk_append, mk_size, mk_size, mk_size, if_pos (by simp only [List.length_append, List.length_singleton]; omega), if_pos (by simp only [List.length_append, List.length_singleton]; omega), f3]
    simp only [Option.bind_some]
    rw [mk_append, mk_size, mk_size, if_pos (by simp only [List.length_append, List.length_singleton]; omega)]
end Go.Proofs.YteoehlcjllbhfaaDoor.PurePad
