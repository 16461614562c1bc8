/- TimesBack: Parse of what Print tells of spans, the loop. (This text: of the Lean functions alone.) -/
import Derived.Test.YteoehlcjllbhfaaGreatDoorPureBack5
namespace Go.Proofs.YteoehlcjllbhfaaGreatDoor.PureBack
open Go.RowKit Go.Proofs.YteoehlcjllbhfaaGreatDoor.XBack Go.Proofs.YteoehlcjllbhfaaGreatDoorW.PrintWords Go.Proofs.YteoehlcjllbhfaaGreatDoorW.PrintLast Go.Proofs.YteoehlcjllbhfaaGreatDoorW.PrintMore
open Go.Lib (decDigits decDigits_one)
set_option linter.unusedVariables false
set_option linter.unusedSimpArgs false
theorem spanL_head : ∀ (l : List (Nat × List UInt8)) (u : Nat) (b : UInt8), (spanL l u).head? = some b → dg b = true
  | [], u, b, h => by cases h
  | x :: r, u, b, h => by
    unfold spanL at h
    by_cases c : x.1 ≤ u
    · rw [if_pos c] at h
      obtain ⟨_, h2, h3⟩ := dec_spec (u / x.1) (u / x.1) (Nat.le_refl _)
      obtain ⟨a, t, e⟩ := List.exists_cons_of_ne_nil h3
      rw [e] at h h2
      obtain rfl : a = b := by simpa using h
      exact h2 a (List.mem_cons_self ..)
    · rw [if_neg c] at h
      exact spanL_head r _ b h
theorem lower_dg (b : UInt8) (h : dg b = true) : Lib.lowerB b = b := by
  have hb := of_decide_eq_true h
  unfold Lib.lowerB
  rw [if_neg]
  unfold Lib.isUpperB
  simp only [Bool.and_eq_true, decide_eq_true_eq, UInt8.le_iff_toNat_le, not_and]
  intro h1 h2
  have e1 : (65 : UInt8).toNat = 65 := rfl
  omega
theorem lower_dec (n : Nat) : (decDigits n).map Lib.lowerB = decDigits n := by
  obtain ⟨_, h2, _⟩ := dec_spec n n (Nat.le_refl _)
  conv => rhs; rw [← List.map_id (decDigits n)]
  exact List.map_congr_left (fun b hb => lower_dg b (h2 b hb))
theorem span_lower : ∀ (l : List (Nat × List UInt8)) (u : Nat), (spanL l u).map Lib.lowerB = spanL (l.map fun x => (x.1, x.2.map Lib.lowerB)) u
  | [], u => rfl
  | x :: r, u => by
    simp only [spanL, List.map_cons, List.map_append, span_lower r]
    congr 1
    by_cases c : x.1 ≤ u
    · rw [if_pos c, if_pos c, List.map_append, lower_dec]
    · rw [if_neg c, if_neg c]
      rfl
theorem units_lower : units.map (fun x => (x.1, x.2.map Lib.lowerB)) = lunits := by decide +kernel
/-- What a span lies below behind a unit. -/
def bnd (j : Nat) : Nat := match j with
  | 1 => 86400000000000
  | 2 => 3600000000000
  | 3 => 60000000000
  | 4 => 1000000000
  | 5 => 1000000
  | 6 => 1000
  | _ => 1
theorem sz_at (j : Nat) (hj : j < 7) {sz : Nat} {nm : List UInt8} (h : lunits.drop j = (sz, nm) :: lunits.drop (j + 1)) : sz = bnd (j + 1) := by
  obtain rfl | rfl | rfl | rfl | rfl | rfl | rfl : j = 0 ∨ j = 1 ∨ j = 2 ∨ j = 3 ∨ j = 4 ∨ j = 5 ∨ j = 6 := by omega
  all_goals (injection h with h1 _; injection h1 with h1 _; exact h1.symm)
theorem most_at (j : Nat) (h1 : 1 ≤ j) (hj : j < 7) : ∃ m : Nat, times_most.f (j : Int) = some (m : Int) ∧ bnd j = m * bnd (j + 1) := by
  obtain rfl | rfl | rfl | rfl | rfl | rfl : j = 1 ∨ j = 2 ∨ j = 3 ∨ j = 4 ∨ j = 5 ∨ j = 6 := by omega
  · exact ⟨24, rfl, rfl⟩
  · exact ⟨60, rfl, rfl⟩
  · exact ⟨60, rfl, rfl⟩
  · exact ⟨1000, rfl, rfl⟩
  · exact ⟨1000, rfl, rfl⟩
  · exact ⟨1000, rfl, rfl⟩
theorem arith1 (total sz : Nat) (h : total ≤ 9223372036854775807) : wrap64 (Int.tdiv (wrap64 ((wrap64 (9223372036854775807 - (total : Int))) - 0)) (sz : Int)) = (((9223372036854775807 - total) / sz : Nat) : Int) := by
  have e : (9223372036854775807 : Int) - (total : Int) = ((9223372036854775807 - total : Nat) : Int) := by omega
  have hz : 9223372036854775807 - total ≤ 9223372036854775807 := by omega
  rw [e]
  clear e
  generalize 9223372036854775807 - total = y at hz ⊢
  have p3 := Nat.div_le_self y sz
  have p1 : wrap64 (y : Int) = (y : Int) := wrap_eq (by omega) (by omega)
  rw [p1, Int.sub_zero, p1, Int.tdiv_eq_ediv_of_nonneg (Int.natCast_nonneg _), ← Int.natCast_ediv]
  clear p1
  generalize y / sz = z at p3 ⊢
  exact wrap_eq (by omega) (by omega)
theorem arith2 (total q sz : Nat) (h1 : 1 ≤ sz) (hq : total + q * sz ≤ 9223372036854775807) : ¬ (q : Int) > (((9223372036854775807 - total) / sz : Nat) : Int) := by
  have : q ≤ (9223372036854775807 - total) / sz := (Nat.le_div_iff_mul_le (by omega)).mpr (by omega)
  exact Int.not_lt.mpr (Int.ofNat_le.mpr this)
theorem arith3 (total q sz : Nat) (hq : total + q * sz ≤ 9223372036854775807) : wrap64 ((total : Int) + (wrap64 ((wrap64 ((q : Int) * (sz : Int))) + 0))) = ((total + q * sz : Nat) : Int) := by
  have p0 : (q : Int) * (sz : Int) = ((q * sz : Nat) : Int) := by rw [Int.natCast_mul]
  rw [p0]
  clear p0
  generalize q * sz = z at hq ⊢
  have p1 : wrap64 (z : Int) = (z : Int) := wrap_eq (by omega) (by omega)
  rw [p1, Int.add_zero, p1]
  clear p1
  exact (wrap_eq (by omega) (by omega)).trans rfl
/-- One part: its digits, its unit. -/
theorem part_ev (neg first : Bool) (j q total sz : Nat) (rank : Int) (nm rest : List UInt8) (R : Int × Bool) (hrk : rank < (j : Int)) (h1 : 1 ≤ sz) (h2 : sz ≤ 86400000000000) (hq : total + q * sz ≤ 9223372036854775807)
    (hm : first = false → ∃ m : Int, times_most.f (j : Int) = some m ∧ (q : Int) < m) (hrl : rest.length ≤ 1000000) (hnl : nm.length ≤ 2) (hnd : ∀ b, nm.head? = some b → dg b = false ∧ b ≠ 46) (hnn : nm ≠ [])
    (hu : Ev (fun k => times_unit.f k (mk (nm ++ rest))) ((j : Int), (sz : Int), mk rest, true)) (ih : Ev (fun k => times_span.l0 k (mk rest) neg ((total + q * sz : Nat) : Int) (j : Int) false) R) :
    Ev (fun k => times_span.j2 k (mk (decDigits q ++ (nm ++ rest))) neg (total : Int) rank first) R := by
  obtain ⟨d1, d2, d3⟩ := dec_spec q q (Nat.le_refl _)
  have hqm : q ≤ 9223372036854775807 := by
    have : q * 1 ≤ q * sz := Nat.mul_le_mul_left q h1
    omega
  have hdl : (decDigits q).length ≤ 20 := dec_length 19 q (Nat.lt_of_lt_of_le (Nat.lt_of_le_of_lt hqm (by decide)) pow20)
  have hh : ∀ b, (nm ++ rest).head? = some b → dg b = false := by
    intro b hb
    obtain ⟨a, t, e⟩ := List.exists_cons_of_ne_nil hnn
    rw [e] at hb hnd
    obtain rfl : a = b := by simpa using hb
    exact (hnd a rfl).1
  obtain ⟨t1, t2⟩ := takeWhile_all (decDigits q) (nm ++ rest) d2 hh
  have hsz0 : ¬ (sz : Int) = 0 := by omega
  have hrk2 : ¬ (j : Int) ≤ rank := by omega
  have ht0 : total ≤ 9223372036854775807 := by omega
  obtain ⟨K1, k1⟩ := digits_spec (decDigits q ++ (nm ++ rest)) (by simp only [List.length_append]; omega)
  rw [t1, t2] at k1
  have hw := whole_at (decDigits q) d2 d3 (by rw [d1]; exact hqm) (by omega)
  rw [d1] at hw
  have hdot : ¬ (nm ++ rest).take [(46 : UInt8)].length = [46] := by
    obtain ⟨a, t, e⟩ := List.exists_cons_of_ne_nil hnn
    rw [e] at hnd ⊢
    intro e2
    have e3 : a = 46 := by
      have : [a] = [46] := e2
      injection this
    exact (hnd a rfl).2 e3
  have hp := pre_mk2 (nm ++ rest) [46] (by simp only [List.length_append]; omega)
  rw [decide_eq_false hdot] at hp
  obtain ⟨K2, k2⟩ := hu
  obtain ⟨K3, k3⟩ := exact_none sz h1 h2
  obtain ⟨K4, k4⟩ := ih
  have e2 : ¬ (q : Int) > (((9223372036854775807 - total) / sz : Nat) : Int) := arith2 total q sz h1 hq
  refine ⟨K1 + K2 + K3 + K4 + 3, fun n hn => ?_⟩
  obtain ⟨m, rfl⟩ : ∃ m, n = m + 3 := ⟨n - 3, by omega⟩
  have g1 : times_digits.f (m + 2) (mk (decDigits q ++ (nm ++ rest))) = _ := k1 (m + 2) (by omega)
  have g2 : times_unit.f (m + 1) (mk (nm ++ rest)) = _ := k2 (m + 1) (by omega)
  have g3 : times_exact.f m (mk []) (sz : Int) = _ := k3 m (by omega)
  have g4 := k4 m (by omega)
  show times_span.j2 (m + 2 + 1) (mk (decDigits q ++ (nm ++ rest))) neg (total : Int) rank first = _
  rw [times_span.j2, g1, Option.bind_some]
  dsimp only
  rw [hw, Option.bind_some]
  dsimp only
  rw [if_pos rfl, show (⟨#[46]⟩ : ByteArray) = mk [46] from rfl, hp, Option.bind_some, if_neg (by decide), times_span.j3, g2, Option.bind_some]
  dsimp only
  rw [if_pos rfl, if_neg hrk2]
  have hj4 : times_span.j4 (m + 1) neg (total : Int) (mk rest) (q : Int) (⟨#[]⟩ : ByteArray) (j : Int) (sz : Int) false = some R := by
    rw [times_span.j4, if_neg (by decide), show (⟨#[]⟩ : ByteArray) = mk [] from rfl, g3, Option.bind_some]
    dsimp only
    rw [if_pos rfl, if_neg hsz0, arith1 total sz ht0, if_neg e2, arith3 total q sz hq]
    exact g4
  cases first with
  | true =>
    rw [if_pos rfl, if_neg (by decide)]
    exact hj4
  | false =>
    obtain ⟨b, hb1, hb2⟩ := hm rfl
    rw [if_neg (by decide), hb1, Option.bind_some, if_neg (Int.not_le.mpr hb2), if_neg (by decide)]
    exact hj4
/-- The loop over what a span's text tells. -/
theorem span_parse (neg : Bool) : ∀ (t j u total : Nat) (rank : Int) (first : Bool), 7 - j = t → j ≤ 7 → rank < (j : Int) → (first = true → 1 ≤ u ∧ j ≠ 7) → (first = false → 1 ≤ j ∧ u < bnd j) → total + u ≤ 9223372036854775807 →
    Ev (fun k => times_span.l0 k (mk (spanL (lunits.drop j) u)) neg (total : Int) rank first) ((if neg = true then -((total + u : Nat) : Int) else ((total + u : Nat) : Int)), true)
  | 0, j, u, total, rank, first, h, hj, hrk, hf, hg, hs => by
    obtain rfl : j = 7 := by omega
    have hfirst : first = false := by
      cases first with
      | false => rfl
      | true => exact absurd rfl (hf rfl).2
    subst hfirst
    have hu : u < 1 := (hg rfl).2
    obtain rfl : u = 0 := by omega
    refine ev_some 2 (fun k => ?_)
    show times_span.l0 (k + 1 + 1) (mk []) neg (total : Int) rank false = _
    rw [times_span.l0, if_neg (by decide), mk_list, show (([] : List UInt8) != []) = false by decide, times_span.j1, if_neg (by decide), Nat.add_zero]
    cases neg with
    | true => rw [if_pos rfl, if_pos rfl, wrap_eq (by omega) (by omega)]
    | false => rw [if_neg (by decide), if_neg (by decide)]
  | t + 1, j, u, total, rank, first, h, hj, hrk, hf, hg, hs => by
    have hj7 : j < 7 := by omega
    have hrest : ∀ r, (spanL (lunits.drop (j + 1)) r).length ≤ 1000000 → ∀ b, (spanL (lunits.drop (j + 1)) r).head? = some b → dg b = true := fun r _ b hb => spanL_head _ _ b hb
    have hlun : lunits.length = 7 := rfl
    have hl2 : ∀ x ∈ lunits, x.2.length ≤ 2 := by decide
    have hlen : ∀ (i r : Nat), r < 10 ^ 20 → (spanL (lunits.drop i) r).length ≤ 1000 := by
      intro i r hr
      have h1 := spanL_le (lunits.drop i) r hr (fun x hx => hl2 x (List.mem_of_mem_drop hx))
      have h2 : (lunits.drop i).length ≤ 7 := by rw [List.length_drop]; omega
      omega
    have hu20 : u < 10 ^ 20 := Nat.lt_of_lt_of_le (show u < 18446744073709551616 by omega) pow20
    have hrl := hlen (j + 1) (u % bnd (j + 1)) (Nat.lt_of_le_of_lt (Nat.mod_le _ _) hu20)
    obtain ⟨sz, nm, e1, e2, e3, e4, e5, e6, e7⟩ := unit_at_head j hj7 (spanL (lunits.drop (j + 1)) (u % bnd (j + 1))) (fun b hb => spanL_head _ _ b hb) (by omega)
    obtain rfl := sz_at j hj7 e1
    by_cases c : bnd (j + 1) ≤ u
    · have et : spanL (lunits.drop j) u = decDigits (u / bnd (j + 1)) ++ (nm ++ spanL (lunits.drop (j + 1)) (u % bnd (j + 1))) := by
        rw [e1]
        simp only [spanL, if_pos c, List.append_assoc]
      have hsum : u / bnd (j + 1) * bnd (j + 1) + u % bnd (j + 1) = u := by rw [Nat.mul_comm]; exact Nat.div_add_mod u (bnd (j + 1))
      have hmod : u % bnd (j + 1) < bnd (j + 1) := Nat.mod_lt _ (by omega)
      have hmost : first = false → ∃ m : Int, times_most.f (j : Int) = some m ∧ ((u / bnd (j + 1) : Nat) : Int) < m := by
        intro hfirst
        obtain ⟨h1, h2⟩ := hg hfirst
        obtain ⟨m, hm1, hm2⟩ := most_at j h1 hj7
        refine ⟨m, hm1, ?_⟩
        have : u / bnd (j + 1) < m := (Nat.div_lt_iff_lt_mul (by omega)).mpr (by omega)
        exact Int.ofNat_lt.mpr this
      have hnew : total + u / bnd (j + 1) * bnd (j + 1) + u % bnd (j + 1) = total + u := by omega
      have ih := span_parse neg t (j + 1) (u % bnd (j + 1)) (total + u / bnd (j + 1) * bnd (j + 1)) (j : Int) false (by omega) (by omega) (by omega) (fun h => by cases h) (fun _ => ⟨by omega, hmod⟩) (by omega)
      rw [hnew] at ih
      have hp := part_ev neg first j (u / bnd (j + 1)) total (bnd (j + 1)) rank nm (spanL (lunits.drop (j + 1)) (u % bnd (j + 1))) _ hrk e3 e4 (by omega) hmost (by omega) e5 e6 e7 e2 ih
      rw [← et] at hp
      have hhead := fun b hb => spanL_head (lunits.drop j) u b hb
      have hne : spanL (lunits.drop j) u ≠ [] := by
        rw [et]
        obtain ⟨_, _, d3⟩ := dec_spec (u / bnd (j + 1)) _ (Nat.le_refl _)
        simp [d3]
      have htl := hlen j u hu20
      generalize spanL (lunits.drop j) u = T at hp hhead hne htl
      cases first with
      | true =>
        refine Ev.step (fun k => ?_) (Ev.step (f := fun k => times_span.j2 k (mk T) neg (total : Int) rank true) (g := fun k => times_span.j1 k (mk T) neg (total : Int) rank true true) (fun k => ?_) hp)
        · rw [times_span.l0, if_pos rfl]
        · rw [times_span.j1, if_pos rfl, if_pos rfl]
      | false =>
        have hu95 : ¬ T.take [(95 : UInt8)].length = [95] := by
          obtain ⟨a, r, e⟩ := List.exists_cons_of_ne_nil hne
          rw [e] at hhead ⊢
          intro e2
          have e3 : [a] = [95] := e2
          injection e3 with e3
          have := hhead a rfl
          rw [e3] at this
          exact absurd this (by decide)
        refine Ev.step (fun k => ?_) (Ev.step (f := fun k => times_span.j2 k (mk T) neg (total : Int) rank false) (g := fun k => times_span.j1 k (mk T) neg (total : Int) rank false true) (fun k => ?_) hp)
        · rw [times_span.l0, if_neg (by decide), mk_list, show (T != []) = true from bne_iff_ne.mpr hne]
        · rw [times_span.j1, if_pos rfl, if_neg (by decide), show (⟨#[95]⟩ : ByteArray) = mk [95] from rfl, trimp_mk T [95] (by omega) hu95, Option.bind_some]
    · have et : spanL (lunits.drop j) u = spanL (lunits.drop (j + 1)) u := by
        rw [e1]
        simp only [spanL, if_neg c, List.nil_append, Nat.mod_eq_of_lt (Nat.lt_of_not_le c)]
      rw [et]
      refine span_parse neg t (j + 1) u total rank first (by omega) (by omega) (by omega) (fun hfi => ⟨(hf hfi).1, fun e => ?_⟩) (fun _ => ⟨by omega, by omega⟩) hs
      have h6 : j = 6 := by omega
      subst h6
      have h1 := (hf hfi).1
      exact c h1
end Go.Proofs.YteoehlcjllbhfaaGreatDoor.PureBack
