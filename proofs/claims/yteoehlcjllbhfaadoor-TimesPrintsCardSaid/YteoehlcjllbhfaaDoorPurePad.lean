/- TimesPrints: the program's pad and the document's digits tell the same text. (This text: of the Lean functions alone.) -/
import Derived.Test.YteoehlcjllbhfaaDoorXPrintsx8
import Derived.Test.YteoehlcjllbhfaaDoorXPrintsx4
import Derived.Test.YteoehlcjllbhfaaDoorDec
import Derived.Lib.ItoaMem
namespace Go.Proofs.YteoehlcjllbhfaaDoor.PurePad
open Go.RowKit Go.Proofs.YteoehlcjllbhfaaDoor.XPrints Go.Proofs.YteoehlcjllbhfaaDoorW.PrintWords Go.Proofs.YteoehlcjllbhfaaDoorW.PrintLast Go.Proofs.YteoehlcjllbhfaaDoorW.PrintMore Go.Proofs.YteoehlcjllbhfaaDoor.Dec
set_option linter.unusedVariables false
set_option linter.unusedSimpArgs false

/-- A text by its bytes. -/
def mk (l : List UInt8) : ByteArray := ⟨l.toArray⟩
theorem mk_size (l : List UInt8) : (mk l).size = l.length := by
  show l.toArray.size = _
  rw [List.size_toArray]
theorem mk_data (s : ByteArray) : mk s.data.toList = s := by
  obtain ⟨⟨l⟩⟩ := s
  rfl
theorem mk_list (l : List UInt8) : (mk l).toList = l := ByteArray.toList_mk l
theorem mk_inj {a b : ByteArray} (h : a.data.toList = b.data.toList) : a = b := by rw [← mk_data a, ← mk_data b, h]
theorem mk_append (a b : List UInt8) : mk a ++ mk b = mk (a ++ b) := mk_inj (Go.Joins.data_append (mk a) (mk b))
theorem wrap_eq {a : Int} (h0 : -9223372036854775808 ≤ a) (h : a ≤ 9223372036854775807) : wrap64 a = a := by unfold wrap64; omega
theorem u64_eq {a : Int} (h0 : 0 ≤ a) (h : a < 18446744073709551616) : IntKind.u64.wrap a = a := by
  simp [IntKind.wrap, IntKind.signed, IntKind.bits]
  omega
theorem pow20 : (18446744073709551616 : Nat) ≤ 10 ^ 20 := by decide

/-- The program's pad. -/
theorem pad_eq (n : Nat) (least : Nat) (hn : n ≤ 9223372036854775807) (hl : least ≤ 100) : times_pad.f (n : Int) (least : Int) = some (mk (padL n least)) := by
  have hd : (Lib.decDigits n).length ≤ 20 := dec_length 19 n (by have := pow20; omega)
  have e1 : strconv_Itoa.f (n : Int) = some (mk (Lib.decDigits n)) := by
    unfold strconv_Itoa.f
    rw [if_pos ⟨by omega, by omega⟩, Lib.itoa_nonneg]
    rfl
  unfold times_pad.f
  rw [e1]
  simp only [Option.bind_some]
  rw [mk_size, wrap_eq (by omega) (by omega)]
  have e2 : strings_Repeat.f (⟨#[48]⟩ : ByteArray) (mx 0 ((least : Int) - ((Lib.decDigits n).length : Int))) = some (mk (List.replicate (least - (Lib.decDigits n).length) 48)) := by
    have em : mx 0 ((least : Int) - ((Lib.decDigits n).length : Int)) = ((least - (Lib.decDigits n).length : Nat) : Int) := by
      unfold mx
      split <;> omega
    rw [em]
    unfold strings_Repeat.f
    rw [if_pos ⟨rfl, by omega, by omega⟩]
    rfl
  rw [e2]
  simp only [Option.bind_some]
  rw [mk_size, List.length_replicate, if_pos (by omega), mk_append]
  rfl
/-- One digit, as the document lays it. -/
theorem digit_one (x : Int) (h : 0 ≤ x) : strOfNums [(48 + ((Int.tmod x 10) % 256)) % 256] = mk [UInt8.ofNat (48 + x.toNat % 10)] := by
  have e : (48 + ((Int.tmod x 10) % 256)) % 256 = ((48 + x.toNat % 10 : Nat) : Int) := by
    rw [Int.tmod_eq_emod_of_nonneg h]
    omega
  rw [e]
  rfl
/-- The document's loop over digits. -/
theorem digits_loop (least : Nat) (hl : least ≤ 100) : ∀ (t : Nat) (x : Nat) (s : List UInt8), x + (least - s.length) ≤ t → x < 18446744073709551616 → s.length + (body x).length ≤ 200 →
    Ev (fun k => relayref02_digits.l0 k (x : Int) (least : Int) (mk s)) (mk (List.replicate (least - ((body x).length + s.length)) 48 ++ (body x ++ s))) := by
  intro t
  induction t with
  | zero =>
    intro x s h hx hz
    obtain rfl : x = 0 := by omega
    refine Ev.step (f := fun _ => some (mk s)) (fun k => ?_) (by
      have e : least - ((body 0).length + s.length) = 0 := by simp [body_zero]; omega
      rw [e, body_zero]
      exact Ev.now _)
    simp only [relayref02_digits.l0]
    rw [if_neg (by omega), mk_size, if_neg (by omega)]
  | succ t ih =>
    intro x s h hx hz
    by_cases c : 0 < x
    · have hb := body_step x c
      have hq : IntKind.u64.wrap (Int.tdiv (x : Int) 10) = ((x / 10 : Nat) : Int) := by
        rw [Int.tdiv_eq_ediv_of_nonneg (by omega), u64_eq (by omega) (by omega)]
        omega
      have hlen : (body x).length = (body (x / 10)).length + 1 := by rw [hb]; simp
      have hi := ih (x / 10) (UInt8.ofNat (48 + x % 10) :: s) (by simp only [List.length_cons]; omega) (by omega) (by simp only [List.length_cons]; omega)
      have e : List.replicate (least - ((body x).length + s.length)) (48 : UInt8) ++ (body x ++ s) = List.replicate (least - ((body (x / 10)).length + (UInt8.ofNat (48 + x % 10) :: s).length)) 48 ++ (body (x / 10) ++ (UInt8.ofNat (48 + x % 10) :: s)) := by
        rw [List.length_cons, show (body (x / 10)).length + (s.length + 1) = (body x).length + s.length by omega]
        congr 1
        rw [hb, List.append_assoc]
        rfl
      rw [e]
      refine Ev.step (fun k => ?_) hi
      simp only [relayref02_digits.l0]
      rw [if_pos (by omega)]
      simp only [Option.bind_some]
      rw [digit_one _ (by omega), mk_size, mk_size, if_pos (by simp only [List.length_singleton]; omega), hq, mk_append]
      rfl
    · obtain rfl : x = 0 := by omega
      by_cases c2 : s.length < least
      · have hi := ih 0 ((48 : UInt8) :: s) (by simp only [List.length_cons]; omega) (by omega) (by simp only [List.length_cons, body_zero, List.length_nil]; omega)
        have e : List.replicate (least - ((body 0).length + s.length)) (48 : UInt8) ++ (body 0 ++ s) = List.replicate (least - ((body 0).length + ((48 : UInt8) :: s).length)) 48 ++ (body 0 ++ ((48 : UInt8) :: s)) := by
          rw [body_zero, List.nil_append, List.nil_append, rep_snoc]
          congr 2
          simp only [List.length_nil, List.length_cons]
          omega
        rw [e]
        refine Ev.step (fun k => ?_) hi
        simp only [relayref02_digits.l0]
        rw [if_neg (by omega), mk_size, if_pos (by omega)]
        simp only [Option.bind_some]
        rw [digit_one _ (by omega), mk_size, if_pos (by simp only [List.length_singleton]; omega), mk_append]
        rfl
      · refine Ev.step (f := fun _ => some (mk s)) (fun k => ?_) (by
          have e : least - ((body 0).length + s.length) = 0 := by simp [body_zero]; omega
          rw [e, body_zero]
          exact Ev.now _)
        simp only [relayref02_digits.l0]
        rw [if_neg (by omega), mk_size, if_neg (by omega)]
theorem digits_eq (n least : Nat) (hn : n < 18446744073709551616) (h1 : 1 ≤ least) (hl : least ≤ 100) : Ev (fun k => relayref02_digits.f k (n : Int) (least : Int)) (mk (padL n least)) := by
  have hb := body_length 20 n (by have := pow20; omega)
  have h := digits_loop least hl (n + least) n [] (by simp only [List.length_nil]; omega) hn (by simp only [List.length_nil]; omega)
  rw [pad_body n least h1]
  simp only [List.length_nil, Nat.add_zero, List.append_nil] at h
  exact h
end Go.Proofs.YteoehlcjllbhfaaDoor.PurePad
