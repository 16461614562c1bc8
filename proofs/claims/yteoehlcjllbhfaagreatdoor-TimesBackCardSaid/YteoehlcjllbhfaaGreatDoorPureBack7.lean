/- TimesBack: clocks and dates, told and read. (This text: of the Lean functions alone.) -/
import Derived.Test.YteoehlcjllbhfaaGreatDoorPureBack4
import Derived.Test.YteoehlcjllbhfaaGreatDoorPureBack6
import Derived.Test.YteoehlcjllbhfaaGreatDoorXBackx8
import Derived.Test.YteoehlcjllbhfaaGreatDoorCalB
import Derived.Laws.RangeString
namespace Go.Proofs.YteoehlcjllbhfaaGreatDoor.PureBack
open Go.RowKit Go.Proofs.YteoehlcjllbhfaaGreatDoor.XBack Go.Proofs.YteoehlcjllbhfaaGreatDoorW.PrintWords Go.Proofs.YteoehlcjllbhfaaGreatDoorW.PrintLast Go.Proofs.YteoehlcjllbhfaaGreatDoorW.PrintMore
open Go.Lib (decDigits)
set_option linter.unusedVariables false
set_option linter.unusedSimpArgs false
theorem tl_some (l : List UInt8) (h : ∀ b ∈ l, b.toNat < 128) (hl : l.length ≤ 1000000) : strings_ToLower.f (mk l) = some (mk (l.map Lib.lowerB)) := by
  unfold strings_ToLower.f
  rw [mk_size, if_pos (by omega), show (mk l).data.toList = l from rfl, Lib.toLowerD_ascii l h]
  rfl
theorem span_ascii : ∀ (l : List (Nat × List UInt8)) (u : Nat), (∀ x ∈ l, ∀ b ∈ x.2, b.toNat < 128) → ∀ b ∈ spanL l u, b.toNat < 128
  | [], u, h, b, hb => by cases hb
  | x :: r, u, h, b, hb => by
    unfold spanL at hb
    rcases List.mem_append.mp hb with hb | hb
    · by_cases c : x.1 ≤ u
      · rw [if_pos c] at hb
        rcases List.mem_append.mp hb with hb | hb
        · obtain ⟨_, h2, _⟩ := dec_spec (u / x.1) _ (Nat.le_refl _)
          have := of_decide_eq_true (h2 b hb)
          omega
        · exact h x (List.mem_cons_self ..) b hb
      · rw [if_neg c] at hb
        cases hb
    · exact span_ascii r _ (fun y hy => h y (List.mem_cons_of_mem _ hy)) b hb
/-- Parse's span of a printed span. -/
theorem span_back (b : Nat) (h0 : 1 ≤ magn b) (hm : magn b ≤ 9223372036854775807) : Ev (fun k => times_span.f k (mk (signL b ++ spanL units (magn b)))) ((if 9223372036854775808 ≤ b then -((magn b : Nat) : Int) else ((magn b : Nat) : Int)), true) := by
  have hu20 : magn b < 10 ^ 20 := Nat.lt_of_lt_of_le (Nat.lt_of_le_of_lt hm (by decide)) pow20
  have hle : (spanL units (magn b)).length ≤ 154 := spanL_le units (magn b) hu20 (by decide)
  have hsg := sign_le b
  have hA : ∀ x ∈ signL b ++ spanL units (magn b), x.toNat < 128 := by
    intro x hx
    rcases List.mem_append.mp hx with hx | hx
    · unfold signL at hx
      by_cases c : 9223372036854775808 ≤ b
      · rw [if_pos c] at hx
        obtain rfl := List.mem_singleton.mp hx
        decide
      · rw [if_neg c] at hx
        cases hx
    · exact span_ascii units _ (by decide) x hx
  have hlow : (signL b ++ spanL units (magn b)).map Lib.lowerB = signL b ++ spanL lunits (magn b) := by
    rw [List.map_append, span_lower, units_lower]
    congr 1
    unfold signL
    by_cases c : 9223372036854775808 ≤ b
    · rw [if_pos c]; decide +kernel
    · rw [if_neg c]; rfl
  have hle2 : (spanL lunits (magn b)).length ≤ 154 := spanL_le lunits (magn b) hu20 (by decide)
  have htl := tl_some _ hA (by rw [List.length_append]; omega)
  rw [hlow] at htl
  by_cases c : 9223372036854775808 ≤ b
  · have hs : signL b = [45] := by unfold signL; rw [if_pos c]
    have hp := span_parse true 7 0 (magn b) 0 (-1) true rfl (by omega) (by omega) (fun _ => ⟨h0, by omega⟩) (fun h => by cases h) (by omega)
    obtain ⟨K, hK⟩ := hp
    refine ⟨K, fun k hk => ?_⟩
    have hk' := hK k hk
    rw [List.drop_zero, if_pos rfl, Nat.zero_add] at hk'
    show times_span.f k (mk (signL b ++ spanL units (magn b))) = _
    unfold times_span.f
    rw [htl, Option.bind_some, show (⟨#[45]⟩ : ByteArray) = mk [45] from rfl, cut_mk _ [45] (by rw [List.length_append]; omega), hs, if_pos (show List.take [(45 : UInt8)].length ([45] ++ spanL lunits (magn b)) = [45] from rfl), Option.bind_some, if_pos c]
    exact hk'
  · have hs : signL b = [] := by unfold signL; rw [if_neg c]
    have hp := span_parse false 7 0 (magn b) 0 (-1) true rfl (by omega) (by omega) (fun _ => ⟨h0, by omega⟩) (fun h => by cases h) (by omega)
    obtain ⟨K, hK⟩ := hp
    refine ⟨K, fun k hk => ?_⟩
    have hk' := hK k hk
    rw [List.drop_zero, if_neg (by decide), Nat.zero_add] at hk'
    have h45 : ¬ (spanL lunits (magn b)).take [(45 : UInt8)].length = [45] := by
      intro e
      have hh := fun x hx => spanL_head lunits (magn b) x hx
      generalize spanL lunits (magn b) = q at e hh
      cases q with
      | nil => cases e
      | cons a r =>
        have e3 : [a] = [45] := e
        injection e3 with e3
        have := hh a rfl
        rw [e3] at this
        exact absurd this (by decide)
    show times_span.f k (mk (signL b ++ spanL units (magn b))) = _
    unfold times_span.f
    rw [htl, Option.bind_some, show (⟨#[45]⟩ : ByteArray) = mk [45] from rfl, hs, List.nil_append, cut_mk _ [45] (by omega), if_neg h45, Option.bind_some, if_neg c]
    exact hk'
/-! Parts of a second. -/
theorem valF_snoc2 (l : List UInt8) (i : Nat) (h : i < l.length) : valL (l.take (i + 1)) = valL (l.take i) * 10 + ((l[i]).toNat - 48) := by
  rw [List.take_succ_eq_append_getElem h]
  exact valL_snoc _ _
theorem ten_le (e : Nat) (h : e ≤ 9) : 10 ^ e ≤ 1000000000 := Nat.le_trans (Nat.pow_le_pow_right (n := 10) (by decide) h) (by decide)
theorem valF_lt : ∀ (l : List UInt8) (a : Nat), (∀ b ∈ l, dg b = true) → valF a l < (a + 1) * 10 ^ l.length
  | [], a, _ => by
    show a < (a + 1) * 10 ^ 0
    rw [Nat.pow_zero]
    omega
  | b :: r, a, h => by
    have hb := of_decide_eq_true (h b (List.mem_cons_self ..))
    have hq : a * 10 + (b.toNat - 48) + 1 ≤ (a + 1) * 10 := by omega
    have ih := valF_lt r (a * 10 + (b.toNat - 48)) (fun x hx => h x (List.mem_cons_of_mem _ hx))
    have e : (a * 10 + (b.toNat - 48) + 1) * 10 ^ r.length ≤ (a + 1) * 10 ^ (r.length + 1) := by
      rw [Nat.pow_succ, Nat.mul_comm (10 ^ r.length) 10, ← Nat.mul_assoc]
      exact Nat.mul_le_mul_right _ hq
    exact Nat.lt_of_lt_of_le ih e
theorem frac_num (v c p : Nat) (hv : v ≤ 1000000000) (hc : 48 ≤ c ∧ c ≤ 57) (hp : p ≤ 1000000000) (hs : v * (p * 10) + (c - 48) * p ≤ 9000000000000) :
    wrap64 (((v * (p * 10) : Nat) : Int) + wrap64 (wrap64 (wrap32 ((c : Int) - 48)) * wrap64 (Int.tdiv ((p * 10 : Nat) : Int) 10))) = (((v * 10 + (c - 48)) * p : Nat) : Int) := by
  have e1 : wrap32 ((c : Int) - 48) = ((c - 48 : Nat) : Int) := by unfold wrap32; omega
  have e2 : Int.tdiv ((p * 10 : Nat) : Int) 10 = (p : Int) := by
    rw [Int.tdiv_eq_ediv_of_nonneg (Int.natCast_nonneg _)]
    omega
  rw [e1, e2]
  clear e1 e2
  have hd : c - 48 ≤ 9 := by omega
  generalize c - 48 = d at *
  rw [wrap_eq (a := (d : Int)) (by omega) (by omega), wrap_eq (a := (p : Int)) (by omega) (by omega), ← Int.natCast_mul]
  have e4 : (v * 10 + d) * p = v * (p * 10) + d * p := by rw [Nat.add_mul, Nat.mul_assoc, Nat.mul_comm 10 p]
  rw [e4]
  have e5 : d * p ≤ 9000000000000 := by omega
  have e6 : v * (p * 10) ≤ 9000000000000 := by omega
  generalize d * p = y at *
  generalize v * (p * 10) = z at *
  have e3 : wrap64 (y : Int) = (y : Int) := wrap_eq (by omega) (by omega)
  rw [e3]
  clear e3
  exact (wrap_eq (by omega) (by omega)).trans (by omega)
theorem frac_loop (l : List UInt8) (hd : ∀ b ∈ l, dg b = true) (hl : l.length ≤ 9) : ∀ (b pos : Nat), b = l.length - pos → pos ≤ l.length →
    fractionL (mk l) b pos ((valL (l.take pos) * 10 ^ (9 - pos) : Nat) : Int) ((10 ^ (9 - pos) : Nat) : Int) = (((valL l * 10 ^ (9 - l.length) : Nat) : Int), true)
  | 0, pos, hb, hp => by
    obtain rfl : pos = l.length := by omega
    rw [List.take_length]
    rfl
  | b + 1, pos, hb, hp => by
    have hlt : pos < l.length := by omega
    have hx := of_decide_eq_true (hd l[pos] (List.getElem_mem hlt))
    have hpos : pos < (mk l).size := by rw [mk_size]; exact hlt
    have hdec : Utf8.decode (mk l) pos = ((l[pos]).toNat, 1) := decode_ascii (mk l) pos hpos (by show (l[pos]).toNat < 128; omega)
    have hten : 10 ^ (9 - pos) = 10 ^ (8 - pos) * 10 := by rw [← Nat.pow_succ]; congr 1; omega
    have hp8 := ten_le (8 - pos) (by omega)
    have hv : valL (l.take pos) < 1 * 10 ^ pos := by
      have := valF_lt (l.take pos) 0 (fun x hx => hd x (List.mem_of_mem_take hx))
      rwa [List.length_take, Nat.min_eq_left (by omega)] at this
    have hv2 : valL (l.take (pos + 1)) < 1 * 10 ^ (pos + 1) := by
      have := valF_lt (l.take (pos + 1)) 0 (fun x hx => hd x (List.mem_of_mem_take hx))
      rwa [List.length_take, Nat.min_eq_left (by omega)] at this
    have h9 : 10 ^ (pos + 1) * 10 ^ (8 - pos) = 1000000000 := by
      rw [← Nat.pow_add, show pos + 1 + (8 - pos) = 9 by omega]
    have hX := valF_snoc2 l pos hlt
    have hsum : (valL (l.take pos) * 10 + ((l[pos]).toNat - 48)) * 10 ^ (8 - pos) ≤ 1000000000 := by
      rw [← h9]
      exact Nat.mul_le_mul_right _ (Nat.le_of_lt (Nat.lt_of_lt_of_le (Nat.lt_of_le_of_lt (Nat.le_of_eq hX.symm) hv2) (Nat.le_of_eq (Nat.one_mul _))))
    have hvle : valL (l.take pos) ≤ 1000000000 := Nat.le_of_lt (Nat.lt_of_lt_of_le hv (Nat.le_trans (Nat.le_of_eq (Nat.one_mul _)) (ten_le pos (by omega))))
    have hsum2 : valL (l.take pos) * (10 ^ (8 - pos) * 10) + ((l[pos]).toNat - 48) * 10 ^ (8 - pos) ≤ 9000000000000 := by
      have e4 : (valL (l.take pos) * 10 + ((l[pos]).toNat - 48)) * 10 ^ (8 - pos) = valL (l.take pos) * (10 ^ (8 - pos) * 10) + ((l[pos]).toNat - 48) * 10 ^ (8 - pos) := by rw [Nat.add_mul, Nat.mul_assoc, Nat.mul_comm 10]
      exact Nat.le_trans (Nat.le_of_eq e4.symm) (Nat.le_trans hsum (by decide))
    have ih := frac_loop l hd hl b (pos + 1) (by omega) (by omega)
    rw [show 9 - (pos + 1) = 8 - pos by omega, valF_snoc2 l pos hlt] at ih
    have hn := frac_num (valL (l.take pos)) (l[pos]).toNat (10 ^ (8 - pos)) hvle hx hp8 hsum2
    have hmod : Int.tmod ((10 ^ (8 - pos) * 10 : Nat) : Int) 10 = 0 := by
      rw [Int.tmod_eq_emod_of_nonneg (Int.natCast_nonneg _)]
      omega
    have hdiv : wrap64 (Int.tdiv ((10 ^ (8 - pos) * 10 : Nat) : Int) 10) = ((10 ^ (8 - pos) : Nat) : Int) := by
      rw [Int.tdiv_eq_ediv_of_nonneg (Int.natCast_nonneg _)]
      generalize 10 ^ (8 - pos) = z at hp8 ⊢
      rw [show ((z * 10 : Nat) : Int) / 10 = (z : Int) by omega]
      exact wrap_eq (by omega) (by omega)
    rw [hten]
    unfold fractionL
    rw [if_pos hpos, if_pos hmod, hdec]
    dsimp only
    rw [hn, hdiv]
    exact ih
theorem frac_spec (l : List UInt8) (hd : ∀ b ∈ l, dg b = true) (hl : l.length ≤ 9) : times_fraction.f (mk l) 1000000000 = some (((valL l * 10 ^ (9 - l.length) : Nat) : Int), true) := by
  have h := frac_loop l hd hl l.length 0 rfl (Nat.zero_le _)
  unfold times_fraction.f
  rw [mk_size]
  have e : ((valL (l.take 0) * 10 ^ (9 - 0) : Nat) : Int) = 0 := by
    show (((0 : Nat) * 10 ^ 9 : Nat) : Int) = 0
    rw [Nat.zero_mul]
    rfl
  have e2 : ((10 ^ (9 - 0) : Nat) : Int) = 1000000000 := by decide +kernel
  rw [e, e2] at h
  exact congrArg some h
/-- Digits and the noughts behind them. -/
theorem drop_rep : ∀ (l : List UInt8), ∃ k, l = List.replicate k (48 : UInt8) ++ l.dropWhile (· == (48 : UInt8))
  | [] => ⟨0, rfl⟩
  | b :: r => by
    by_cases c : b = 48
    · obtain ⟨k, hk⟩ := drop_rep r
      refine ⟨k + 1, ?_⟩
      rw [List.dropWhile_cons_of_pos (by simp [c]), List.replicate_succ, List.cons_append, ← hk, c]
    · exact ⟨0, by rw [List.dropWhile_cons_of_neg (by simp [c])]; rfl⟩
theorem trim_rep (l : List UInt8) : ∃ k, l = Lib.trimRightB l 48 ++ List.replicate k (48 : UInt8) := by
  obtain ⟨k, hk⟩ := drop_rep l.reverse
  refine ⟨k, ?_⟩
  have := congrArg List.reverse hk
  rw [List.reverse_reverse, List.reverse_append, List.reverse_replicate] at this
  exact this
theorem valF_noughts : ∀ (k a : Nat), valF a (List.replicate k (48 : UInt8)) = a * 10 ^ k
  | 0, a => by
    show a = a * 10 ^ 0
    rw [Nat.pow_zero, Nat.mul_one]
  | k + 1, a => by
    rw [List.replicate_succ]
    show valF (a * 10 + 0) (List.replicate k 48) = _
    rw [valF_noughts k, Nat.add_zero, Nat.pow_succ, Nat.mul_comm (10 ^ k) 10, Nat.mul_assoc]
theorem trim_val (n : Nat) (hn : n < 1000000000) : ∃ t, Lib.trimRightB (padL n 9) 48 = t ∧ (∀ b ∈ t, dg b = true) ∧ t.length ≤ 9 ∧ valL t * 10 ^ (9 - t.length) = n := by
  obtain ⟨p1, p2, p3⟩ := pad_spec n 9
  have hl := pad_length n 9 8 (by show _ < 1000000000; omega) (by omega)
  obtain ⟨k, hk⟩ := trim_rep (padL n 9)
  generalize Lib.trimRightB (padL n 9) 48 = t at hk
  refine ⟨t, rfl, fun b hb => p2 b (by rw [hk]; exact List.mem_append_left _ hb), ?_, ?_⟩
  · rw [hk, List.length_append] at hl
    omega
  · have e : k = 9 - t.length := by rw [hk, List.length_append, List.length_replicate] at hl; omega
    have : valL (t ++ List.replicate k 48) = n := by rw [← hk]; exact p1
    unfold valL at this
    rw [valF_append, valF_noughts, e] at this
    exact this
end Go.Proofs.YteoehlcjllbhfaaGreatDoor.PureBack
