/- TimesPrints: times of day. (This text: of the Lean functions alone.) -/
import Derived.Test.YteoehlcjllbhfaaDoorXPrintsx11
import Derived.Test.YteoehlcjllbhfaaDoorXPrintsx5
import Derived.Test.YteoehlcjllbhfaaDoorPurePad
import Derived.Lib.TrimByte
namespace Go.Proofs.YteoehlcjllbhfaaDoor.PurePad
open Go.RowKit Go.Proofs.YteoehlcjllbhfaaDoor.XPrints Go.Proofs.YteoehlcjllbhfaaDoorW.PrintWords Go.Proofs.YteoehlcjllbhfaaDoorW.PrintLast Go.Proofs.YteoehlcjllbhfaaDoorW.PrintMore Go.Proofs.YteoehlcjllbhfaaDoor.Dec
set_option linter.unusedVariables false
set_option linter.unusedSimpArgs false

theorem bt_mk (l : List UInt8) (i : Nat) (h : i < l.length) : bt (mk l) (i : Int) = ((l[i]).toNat : Int) := by
  unfold bt
  have h' : (i : Int).toNat < (mk l).size := by rw [mk_size]; exact h
  rw [dif_pos h']
  rfl
theorem take_mk (l : List UInt8) (e : Nat) : (mk l).extract 0 e = mk (l.take e) := by
  apply mk_inj
  rw [Lib.extract_data]
  rfl
/-- What stands behind the seconds. -/
def tail (l : List UInt8) : List UInt8 := if Lib.trimRightB l 48 = [] then [] else 46 :: Lib.trimRightB l 48
/-- The document's loop: the noughts at the end are left out. -/
theorem clock_loop (B l : List UInt8) (hB : B.length ≤ 200) (hl : l.length ≤ 200) : ∀ (e : Nat), e ≤ l.length → (∀ (j : Nat) b, e ≤ j → l[j]? = some b → b = 48) →
    Ev (fun k => relayref02_clockText.l0 k (mk B) (mk l) (e : Int)) (mk (B ++ tail l))
  | 0, h, ha => by
    have ht : Lib.trimRightB l 48 = l.take 0 := Lib.trimRightB_take l 48 0 (by omega) (fun j b h1 h2 => ha j b (by omega) h2) (fun b h => by simp at h)
    refine Ev.step (f := fun _ => some (mk B)) (fun k => ?_) (by unfold tail; rw [ht]; simp; exact Ev.now _)
    simp only [relayref02_clockText.l0]
    rw [if_neg (by omega), if_pos (by omega)]
  | e + 1, h, ha => by
    have w1 : wrap64 (((e + 1 : Nat) : Int) - 1) = (e : Int) := by rw [wrap_eq (by omega) (by omega)]; omega
    by_cases c : l[e] = 48
    · have ih := clock_loop B l hB hl e (by omega) (fun j b h1 h2 => by
        by_cases hj : j = e
        · subst hj
          rw [List.getElem?_eq_getElem (by omega)] at h2
          rw [← Option.some.inj h2, c]
        · exact ha j b (by omega) h2)
      refine Ev.step (fun k => ?_) ih
      simp only [relayref02_clockText.l0]
      rw [if_pos (by omega), w1, if_pos (by omega), mk_size, if_pos (by omega), bt_mk l e (by omega), if_pos (by rw [c]; rfl)]
    · have ht : Lib.trimRightB l 48 = l.take (e + 1) := Lib.trimRightB_take l 48 (e + 1) h ha (fun b h1 hb e48 => c (by
        subst e48
        rw [show e + 1 - 1 = e by omega, List.getElem?_eq_getElem (show e < l.length by omega)] at hb
        exact Option.some.inj hb))
      have hne : Lib.trimRightB l 48 ≠ [] := by
        rw [ht]
        intro hh
        have := congrArg List.length hh
        rw [List.length_take, List.length_nil] at this
        omega
      have hn48 : ¬ ((l[e]).toNat : Int) = 48 := fun hh => c (UInt8.toNat_inj.mp (by have : (48 : UInt8).toNat = 48 := rfl; omega))
      refine Ev.step (f := fun _ => some (mk (B ++ tail l))) (fun k => ?_) (Ev.now _)
      simp only [relayref02_clockText.l0]
      rw [if_pos (by omega), w1, if_pos (by omega), mk_size, if_pos (by omega), bt_mk l e (by omega), if_neg hn48, if_neg (by omega), mk_size, if_pos (by omega), if_pos (by omega), if_pos (by omega)]
      rw [show (((e + 1 : Nat) : Int)).toNat = e + 1 by omega, take_mk, show (⟨#[46]⟩ : ByteArray) = mk [46] from rfl, mk_append, mk_size, mk_size, if_pos (by rw [List.length_append, List.length_take]; simp; omega), mk_append]
      unfold tail
      rw [if_neg hne, ht]
      congr 2
      simp
theorem pad_length (n least k : Nat) (h : n < 10 ^ (k + 1)) (hk : k + 1 ≤ least) : (padL n least).length = least := by
  have := dec_length k n h
  unfold padL
  rw [List.length_append, List.length_replicate]
  omega
/-- The head of a time of day. -/
def clockHead (h m c : Nat) : List UInt8 := padL h 2 ++ [58] ++ padL m 2 ++ [58] ++ padL c 2
theorem head_length (h m c : Nat) (hh : h < 100) (hm : m < 100) (hc : c < 100) : (clockHead h m c).length = 8 := by
  unfold clockHead
  simp only [List.length_append, List.length_singleton, pad_length h 2 1 hh (by omega), pad_length m 2 1 hm (by omega), pad_length c 2 1 hc (by omega)]
theorem clock_ref (n : Nat) (hn : n < 86400000000000) : Ev (fun k => relayref02_clockText.f k (n : Int)) (mk (clockHead (n / 3600000000000) (n % 3600000000000 / 60000000000) (n % 60000000000 / 1000000000) ++ tail (padL (n % 1000000000) 9))) := by
  have hx : wrap64 (Int.tdiv (n : Int) 1000000000) = (n : Int) / 1000000000 := by
    rw [Int.tdiv_eq_ediv_of_nonneg (by omega), wrap_eq (by omega) (by omega)]
  have e1 : IntKind.u64.wrap (wrap64 (Int.tdiv (wrap64 (Int.tdiv (n : Int) 1000000000)) 3600)) = ((n / 3600000000000 : Nat) : Int) := by
    rw [hx, Int.tdiv_eq_ediv_of_nonneg (by omega), wrap_eq (by omega) (by omega), u64_eq (by omega) (by omega)]
    omega
  have e2 : IntKind.u64.wrap (Int.tmod (wrap64 (Int.tdiv (wrap64 (Int.tdiv (n : Int) 1000000000)) 60)) 60) = ((n % 3600000000000 / 60000000000 : Nat) : Int) := by
    rw [hx, Int.tdiv_eq_ediv_of_nonneg (by omega), wrap_eq (by omega) (by omega), Int.tmod_eq_emod_of_nonneg (by omega), u64_eq (by omega) (by omega)]
    omega
  have e3 : IntKind.u64.wrap (Int.tmod (wrap64 (Int.tdiv (n : Int) 1000000000)) 60) = ((n % 60000000000 / 1000000000 : Nat) : Int) := by
    rw [hx, Int.tmod_eq_emod_of_nonneg (by omega), u64_eq (by omega) (by omega)]
    omega
  have e4 : IntKind.u64.wrap (Int.tmod (n : Int) 1000000000) = ((n % 1000000000 : Nat) : Int) := by
    rw [Int.tmod_eq_emod_of_nonneg (by omega), u64_eq (by omega) (by omega)]
    omega
  obtain ⟨K1, h1⟩ := digits_eq (n / 3600000000000) 2 (by omega) (by omega) (by omega)
  obtain ⟨K2, h2⟩ := digits_eq (n % 3600000000000 / 60000000000) 2 (by omega) (by omega) (by omega)
  obtain ⟨K3, h3⟩ := digits_eq (n % 60000000000 / 1000000000) 2 (by omega) (by omega) (by omega)
  obtain ⟨K4, h4⟩ := digits_eq (n % 1000000000) 9 (by omega) (by omega) (by omega)
  have l1 := pad_length (n / 3600000000000) 2 1 (by show _ < 100; omega) (by omega)
  have l2 := pad_length (n % 3600000000000 / 60000000000) 2 1 (by show _ < 100; omega) (by omega)
  have l3 := pad_length (n % 60000000000 / 1000000000) 2 1 (by show _ < 100; omega) (by omega)
  have l4 := pad_length (n % 1000000000) 9 8 (by show _ < 1000000000; omega) (by omega)
  obtain ⟨K5, h5⟩ := clock_loop (clockHead (n / 3600000000000) (n % 3600000000000 / 60000000000) (n % 60000000000 / 1000000000)) (padL (n % 1000000000) 9) (by rw [head_length _ _ _ (by omega) (by omega) (by omega)]; omega) (by omega) 9 (by omega) (fun j b h hb => by
    rw [List.getElem?_eq_none (by omega)] at hb
    cases hb)
  refine ⟨K1 + K2 + K3 + K4 + K5, fun k hk => ?_⟩
  have f1 : relayref02_digits.f k ((n / 3600000000000 : Nat) : Int) 2 = _ := h1 k (by omega)
  have f2 : relayref02_digits.f k ((n % 3600000000000 / 60000000000 : Nat) : Int) 2 = _ := h2 k (by omega)
  have f3 : relayref02_digits.f k ((n % 60000000000 / 1000000000 : Nat) : Int) 2 = _ := h3 k (by omega)
  have f4 : relayref02_digits.f k ((n % 1000000000 : Nat) : Int) 9 = _ := h4 k (by omega)
  have f5 := h5 k (by omega)
  simp only at f5
  show relayref02_clockText.f k (n : Int) = _
  unfold relayref02_clockText.f
  rw [e1, e2, e3, e4, f1]
  simp only [Option.bind_some]
  rw [mk_size, l1, if_pos (by omega), f2]
  simp only [Option.bind_some]
  rw [show (⟨#[58]⟩ : ByteArray) = mk [58] from rfl, mk_append, mk_append, mk_append, mk_size, mk_size, mk_size, if_pos (by simp only [List.length_append, List.length_singleton, l1, l2]; omega), if_pos (by simp only [List.length_append, List.length_singleton, l1, l2]; omega), f3]
  simp only [Option.bind_some]
  rw [mk_append, mk_size, mk_size, if_pos (by simp only [List.length_append, List.length_singleton, l1, l2, l3]; omega), f4]
  simp only [Option.bind_some]
  exact f5
theorem drop_nil (p : UInt8 → Bool) : ∀ (l : List UInt8), l.dropWhile p = [] → ∀ b ∈ l, p b = true
  | [], _, b, hb => by cases hb
  | a :: l, h, b, hb => by
    rw [List.dropWhile_cons] at h
    by_cases c : p a = true
    · rw [if_pos c] at h
      rcases List.mem_cons.mp hb with rfl | hb
      · exact c
      · exact drop_nil p l h b hb
    · rw [if_neg c] at h
      cases h
theorem trim_nil {l : List UInt8} (h : Lib.trimRightB l 48 = []) : ∀ b ∈ l, b = 48 := by
  unfold Lib.trimRightB at h
  rw [List.reverse_eq_nil_iff] at h
  intro b hb
  have := drop_nil _ _ h b (List.mem_reverse.mpr hb)
  simpa using this
theorem dec_not_all : ∀ (t n : Nat), n ≤ t → 1 ≤ n → ∃ b ∈ Lib.decDigits n, b ≠ 48
  | 0, n, h, h1 => by omega
  | t + 1, n, h, h1 => by
    by_cases c : n < 10
    · rw [Lib.decDigits_one c]
      refine ⟨_, List.mem_singleton.mpr rfl, fun e => ?_⟩
      have := congrArg UInt8.toNat e
      rw [show (UInt8.ofNat (48 + n)).toNat = 48 + n by simp [UInt8.toNat_ofNat]; omega] at this
      have : (48 : UInt8).toNat = 48 := rfl
      omega
    · obtain ⟨b, hb, hn⟩ := dec_not_all t (n / 10) (by omega) (by omega)
      rw [Lib.decDigits, dif_neg c]
      exact ⟨b, List.mem_append_left _ hb, hn⟩
theorem tail_zero : tail (padL 0 9) = [] := by decide +kernel
theorem tail_some (n : Nat) (h : 1 ≤ n) : tail (padL n 9) = 46 :: Lib.trimRightB (padL n 9) 48 := by
  unfold tail
  rw [if_neg]
  intro e
  obtain ⟨b, hb, hn⟩ := dec_not_all n n (Nat.le_refl _) h
  exact hn (trim_nil e b (List.mem_append_right _ hb))
end Go.Proofs.YteoehlcjllbhfaaDoor.PurePad
