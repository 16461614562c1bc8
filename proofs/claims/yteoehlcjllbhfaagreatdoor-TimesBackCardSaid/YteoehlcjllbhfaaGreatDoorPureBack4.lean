/- Parse's small functions, on lists of bytes. (This text: of the Lean functions alone.) -/
import Derived.Test.YteoehlcjllbhfaaGreatDoorPureBack1
import Derived.Test.YteoehlcjllbhfaaGreatDoorXBackx2
import Derived.Test.YteoehlcjllbhfaaGreatDoorXBackx3
import Derived.Test.YteoehlcjllbhfaaGreatDoorXBackx4
import Derived.Test.YteoehlcjllbhfaaGreatDoorXBackx7
import Derived.Lib.AtoiAllCases
namespace Go.Proofs.YteoehlcjllbhfaaGreatDoor.PureBack
open Go.RowKit Go.Proofs.YteoehlcjllbhfaaGreatDoor.XBack Go.Proofs.YteoehlcjllbhfaaGreatDoorW.PrintWords Go.Proofs.YteoehlcjllbhfaaGreatDoorW.PrintLast Go.Proofs.YteoehlcjllbhfaaGreatDoorW.PrintMore
open Go.Lib (decDigits decDigits_one)
set_option linter.unusedVariables false
set_option linter.unusedSimpArgs false
/-- A digit's byte. -/
def dg (b : UInt8) : Bool := decide (48 ≤ b.toNat ∧ b.toNat ≤ 57)
theorem drop_mk (l : List UInt8) (a : Nat) : (mk l).extract a (mk l).size = mk (l.drop a) := by
  apply mk_inj
  rw [Lib.extract_data, mk_size]
  show (l.drop a).take (l.length - a) = l.drop a
  exact List.take_of_length_le (by rw [List.length_drop]; omega)
theorem digits_from (l : List UInt8) (hl : l.length ≤ 1099511627776) : ∀ (n i : Nat), l.length - i = n → i ≤ l.length →
    Ev (fun k => times_digits.l0 k (mk l) (i : Int)) (mk (l.take i ++ (l.drop i).takeWhile dg), mk ((l.drop i).dropWhile dg))
  | 0, i, h, hi => by
    obtain rfl : i = l.length := by omega
    rw [List.drop_length, List.take_length]
    refine Ev.step (f := fun _ => some (mk (l ++ []), mk [])) (fun k => ?_) (Ev.now _)
    simp only [times_digits.l0]
    rw [mk_size, if_neg (by omega), if_pos (by omega), if_pos (by omega), ← mk_size l, drop_mk, take_mk, mk_size]
    simp
  | n + 1, i, h, hi => by
    have hlt : i < l.length := by omega
    have hd : l.drop i = l[i] :: l.drop (i + 1) := List.drop_eq_getElem_cons hlt
    have ht : l.take (i + 1) = l.take i ++ [l[i]] := List.take_succ_eq_append_getElem hlt
    have hb := bt_mk l i hlt
    by_cases c : dg l[i] = true
    · have hc := of_decide_eq_true c
      have ih := digits_from l hl n (i + 1) (by omega) (by omega)
      have e1 : l.take i ++ (l.drop i).takeWhile dg = l.take (i + 1) ++ (l.drop (i + 1)).takeWhile dg := by
        rw [hd, ht, List.takeWhile_cons_of_pos c, List.append_assoc]
        rfl
      have e2 : (l.drop i).dropWhile dg = (l.drop (i + 1)).dropWhile dg := by
        rw [hd, List.dropWhile_cons_of_pos c]
      rw [e1, e2]
      refine Ev.step (fun k => ?_) ih
      simp only [times_digits.l0]
      rw [mk_size, if_pos (by omega), if_pos (by omega), hb, if_pos (by omega), if_pos (by omega), wrap_eq (by omega) (by omega)]
      rfl
    · have e1 : (l.drop i).takeWhile dg = [] := by rw [hd, List.takeWhile_cons_of_neg c]
      have e2 : (l.drop i).dropWhile dg = l.drop i := by rw [hd, List.dropWhile_cons_of_neg c, ← hd]
      rw [e1, e2, List.append_nil]
      refine Ev.step (f := fun _ => some (mk (l.take i), mk (l.drop i))) (fun k => ?_) (Ev.now _)
      simp only [times_digits.l0]
      rw [mk_size, if_pos (by omega), if_pos (by omega), hb]
      by_cases c1 : ((l[i]).toNat : Int) ≥ 48
      · rw [if_pos c1, if_neg (fun h => c (decide_eq_true ⟨by omega, by omega⟩)), if_pos (by omega), ← mk_size l, drop_mk, take_mk]
        rfl
      · rw [if_neg c1, if_pos (by omega), ← mk_size l, drop_mk, take_mk]
        rfl
theorem digits_spec (l : List UInt8) (hl : l.length ≤ 1099511627776) : Ev (fun k => times_digits.f k (mk l)) (mk (l.takeWhile dg), mk (l.dropWhile dg)) := by
  have h := digits_from l hl _ 0 rfl (by omega)
  exact h
theorem takeWhile_all : ∀ (ds r : List UInt8), (∀ b ∈ ds, dg b = true) → (∀ b, r.head? = some b → dg b = false) → (ds ++ r).takeWhile dg = ds ∧ (ds ++ r).dropWhile dg = r
  | [], [], _, _ => ⟨rfl, rfl⟩
  | [], b :: r, _, h => by
    have hb : ¬ dg b = true := by rw [h b rfl]; simp
    exact ⟨List.takeWhile_cons_of_neg hb, List.dropWhile_cons_of_neg hb⟩
  | a :: ds, r, h1, h2 => by
    obtain ⟨i1, i2⟩ := takeWhile_all ds r (fun b hb => h1 b (List.mem_cons_of_mem _ hb)) h2
    have ha := h1 a (List.mem_cons_self ..)
    refine ⟨?_, ?_⟩
    · rw [List.cons_append, List.takeWhile_cons_of_pos ha, i1]
    · rw [List.cons_append, List.dropWhile_cons_of_pos ha, i2]
/-- The number that digits spell, behind some. -/
def valF : Nat → List UInt8 → Nat
  | a, [] => a
  | a, b :: r => valF (a * 10 + (b.toNat - 48)) r
/-- The number that digits spell. -/
def valL (l : List UInt8) : Nat := valF 0 l
theorem valF_append : ∀ (l m : List UInt8) (a : Nat), valF a (l ++ m) = valF (valF a l) m
  | [], m, a => rfl
  | b :: r, m, a => valF_append r m _
theorem valL_snoc (l : List UInt8) (b : UInt8) : valL (l ++ [b]) = valL l * 10 + (b.toNat - 48) := valF_append l [b] 0
theorem fold_ge : ∀ (l : List UInt8) (a : Nat), a ≤ valF a l
  | [], a => Nat.le_refl _
  | b :: r, a => Nat.le_trans (by omega) (fold_ge r (a * 10 + (b.toNat - 48)))
theorem parse10 : ∀ (l : List UInt8) (a : Nat), (∀ b ∈ l, dg b = true) → a < 18446744073709551616 →
    Lib.parseUint10 a l = if valF a l < 18446744073709551616 then .ok (valF a l) else .range
  | [], a, h, ha => by
    rw [show valF a [] = a from rfl, if_pos ha]
    rfl
  | b :: r, a, h, ha => by
    have hb := of_decide_eq_true (h b (List.mem_cons_self ..))
    have hr : ∀ x ∈ r, dg x = true := fun x hx => h x (List.mem_cons_of_mem _ hx)
    have hg := fold_ge r (a * 10 + (b.toNat - 48))
    rw [show valF a (b :: r) = valF (a * 10 + (b.toNat - 48)) r from rfl]
    unfold Lib.parseUint10
    rw [if_pos hb]
    by_cases c1 : 1844674407370955162 ≤ a
    · rw [if_pos c1, if_neg (by omega)]
    · rw [if_neg c1]
      by_cases c2 : 18446744073709551616 ≤ a * 10 + (b.toNat - 48)
      · rw [if_pos c2, if_neg (by omega)]
      · rw [if_neg c2]
        exact parse10 r _ hr (by omega)
theorem atoi_digits (l : List UInt8) (h : ∀ b ∈ l, dg b = true) (hne : l ≠ []) (hv : valL l ≤ 9223372036854775807) : Lib.atoiAll l = .ok (valL l : Int) := by
  obtain ⟨c, r, rfl⟩ := List.exists_cons_of_ne_nil hne
  have hc := of_decide_eq_true (h c (List.mem_cons_self ..))
  rw [Lib.atoiAll_plain c r (by omega) (by omega)]
  unfold Lib.parseMag
  rw [if_neg hne, parse10 _ 0 h (by omega)]
  have hv' : valF 0 (c :: r) ≤ 9223372036854775807 := hv
  rw [if_pos (by omega)]
  simp only [Lib.signless]
  rw [if_neg (by omega)]
  rfl
theorem whole_at (l : List UInt8) (h : ∀ b ∈ l, dg b = true) (hne : l ≠ []) (hv : valL l ≤ 9223372036854775807) (hl : l.length ≤ 281474976710656) : times_whole.f (mk l) = some ((valL l : Int), true) := by
  unfold times_whole.f
  rw [mk_size, if_pos hl, show (mk l).data.toList = l from rfl, atoi_digits l h hne hv]
theorem ofNat_dg (d : Nat) (h : d < 10) : (UInt8.ofNat (48 + d)).toNat = 48 + d := by
  rw [UInt8.toNat_ofNat']
  omega
theorem dec_spec : ∀ (t n : Nat), n ≤ t → valL (decDigits n) = n ∧ (∀ b ∈ decDigits n, dg b = true) ∧ decDigits n ≠ []
  | t, n, ht => by
    by_cases c : n < 10
    · have e : decDigits n = [UInt8.ofNat (48 + n)] := by rw [Lib.decDigits, dif_pos c]
      rw [e]
      have h := ofNat_dg n c
      refine ⟨?_, ?_, by simp⟩
      · show 0 * 10 + ((UInt8.ofNat (48 + n)).toNat - 48) = n
        omega
      · intro b hb
        obtain rfl := List.mem_singleton.mp hb
        exact decide_eq_true (by omega)
    · have e : decDigits n = decDigits (n / 10) ++ [UInt8.ofNat (48 + n % 10)] := by rw [Lib.decDigits, dif_neg c]
      cases t with
      | zero => omega
      | succ t =>
        obtain ⟨i1, i2, i3⟩ := dec_spec t (n / 10) (by omega)
        have h := ofNat_dg (n % 10) (by omega)
        rw [e]
        refine ⟨?_, ?_, by simp⟩
        · rw [valL_snoc, i1, h]
          omega
        · intro b hb
          rcases List.mem_append.mp hb with hb | hb
          · exact i2 b hb
          · obtain rfl := List.mem_singleton.mp hb
            exact decide_eq_true (by omega)
theorem fold_noughts : ∀ (k : Nat) (l : List UInt8), valF 0 (List.replicate k (48 : UInt8) ++ l) = valF 0 l
  | 0, l => rfl
  | k + 1, l => by
    rw [List.replicate_succ, List.cons_append]
    exact fold_noughts k l
theorem pad_spec (n least : Nat) : valL (padL n least) = n ∧ (∀ b ∈ padL n least, dg b = true) ∧ padL n least ≠ [] := by
  obtain ⟨i1, i2, i3⟩ := dec_spec n n (Nat.le_refl _)
  unfold padL
  refine ⟨?_, ?_, ?_⟩
  · show valF 0 (List.replicate _ (48 : UInt8) ++ decDigits n) = n
    rw [fold_noughts]
    exact i1
  · intro b hb
    rcases List.mem_append.mp hb with hb | hb
    · rw [(List.mem_replicate.mp hb).2]
      decide
    · exact i2 b hb
  · simp [i3]
/-- Two digits ahead of something. -/
theorem two_at (d r : List UInt8) (hd : d.length = 2) (h : ∀ b ∈ d, dg b = true) (hr : r.length ≤ 1000000) : Ev (fun k => times_two.f k (mk (d ++ r))) ((valL d : Int), mk r, true) := by
  obtain ⟨K, hK⟩ := digits_spec d (by omega)
  have hw : d.takeWhile dg = d ∧ d.dropWhile dg = [] := by
    have := takeWhile_all d [] h (fun b hb => by cases hb)
    rwa [List.append_nil] at this
  rw [hw.1, hw.2] at hK
  have hne : d ≠ [] := by intro e; rw [e] at hd; cases hd
  have hv : valL d ≤ 9223372036854775807 := by
    obtain ⟨a, b, rfl⟩ : ∃ a b, d = [a, b] := by
      match d, hd with
      | [a, b], _ => exact ⟨a, b, rfl⟩
    show (0 * 10 + (a.toNat - 48)) * 10 + (b.toNat - 48) ≤ _
    have := a.toNat_lt
    have := b.toNat_lt
    omega
  refine ⟨K, fun k hk => ?_⟩
  have h1 : times_digits.f k (mk d) = _ := hK k hk
  have hm : mn 2 ((d ++ r).length : Int) = 2 := by
    unfold mn
    rw [List.length_append]
    split <;> omega
  have ht : (d ++ r).take 2 = d := by rw [← hd]; exact List.take_left
  have hdr : (d ++ r).drop 2 = r := by rw [← hd]; exact List.drop_left
  show times_two.f k (mk (d ++ r)) = _
  unfold times_two.f
  rw [mk_size, hm, if_pos (by omega), if_pos (by rw [List.length_append]; omega), show ((2 : Int)).toNat = 2 from rfl, take_mk, ht, h1]
  rw [Option.bind_some]
  rw [mk_size, if_pos (by omega), mk_list, if_pos rfl, whole_at d h hne hv (by omega)]
  rw [Option.bind_some]
  rw [if_pos (by rw [List.length_append]; omega), ← mk_size (d ++ r), drop_mk, hdr]
end Go.Proofs.YteoehlcjllbhfaaGreatDoor.PureBack
