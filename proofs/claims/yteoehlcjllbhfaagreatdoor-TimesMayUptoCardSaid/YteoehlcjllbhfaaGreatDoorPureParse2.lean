/- Parse tells something, second part: spans. (This text: of the Lean functions alone.) -/
import Derived.Test.YteoehlcjllbhfaaGreatDoorPureParse
import Derived.Lib.MapU
import Derived.Lib.RuneBytes
namespace Go.Proofs.YteoehlcjllbhfaaGreatDoor.PureParse
open Go.RowKit Go.Proofs.YteoehlcjllbhfaaGreatDoor.XTimes Go.Proofs.YteoehlcjllbhfaaGreatDoorW.PrintWords Go.Proofs.YteoehlcjllbhfaaGreatDoorW.PrintLast Go.Proofs.YteoehlcjllbhfaaGreatDoorW.PrintMore
set_option linter.unusedVariables false
set_option linter.unusedSimpArgs false

/-- The greatest common divisor's loop: a number from 1 to the second of the two, where that is not nought. -/
theorem common_loop : ∀ (n : Nat) (a b : Int), b.toNat ≤ n → 1 ≤ a → 0 ≤ b → ∃ g, Ev (fun k => times_common.l0 k a b) g ∧ 1 ≤ g ∧ g ≤ a ∧ (1 ≤ b → g ≤ b)
  | 0, a, b, h, h1, h0 => ⟨a, Ev.step (f := fun _ => some a) (fun k => by simp only [times_common.l0]; rw [if_neg (by omega)]) (Ev.now _), h1, Int.le_refl _, fun h => by omega⟩
  | n + 1, a, b, h, h1, h0 => by
    by_cases c : b = 0
    · exact ⟨a, Ev.step (f := fun _ => some a) (fun k => by simp only [times_common.l0]; rw [if_neg (by omega)]) (Ev.now _), h1, Int.le_refl _, fun h => by omega⟩
    have hm : Int.tmod a b = a % b := Int.tmod_eq_emod_of_nonneg (by omega)
    have m0 : 0 ≤ a % b := Int.emod_nonneg a c
    have m1 : a % b < b := Int.emod_lt_of_pos a (by omega)
    have m2 : a % b ≤ a := by
      have := Int.emod_add_mul_ediv a b
      have q : 0 ≤ a / b := Int.ediv_nonneg (by omega) (by omega)
      have := Int.mul_nonneg (show (0 : Int) ≤ b by omega) q
      omega
    obtain ⟨g, he, g1, g2, g3⟩ := common_loop n b (a % b) (by omega) (by omega) m0
    refine ⟨g, Ev.step (fun k => ?_) he, g1, ?_, fun _ => g2⟩
    · simp only [times_common.l0]
      rw [if_pos (by omega), if_neg c, hm]
    · by_cases z : a % b = 0
      · have hd : b ∣ a := Int.dvd_of_emod_eq_zero z
        have := Int.le_of_dvd (by omega) hd
        omega
      · have := g3 (by omega)
        omega
theorem over_total (x a b : Int) (ha : 1 ≤ a) (hb : 1 ≤ b) (hb2 : b ≤ 9223372036854775807) : ∃ n ok, Ev (fun k => times_over.f k x a b) (n, ok) := by
  obtain ⟨g, he, g1, g2, g3⟩ := common_loop b.toNat a b (Nat.le_refl _) ha (by omega)
  have g3 := g3 hb
  have hd : Int.tdiv b g = b / g := Int.tdiv_eq_ediv_of_nonneg (by omega)
  have q1 : 1 ≤ b / g := by
    rw [Int.le_ediv_iff_mul_le (by omega)]
    omega
  have q2 : b / g ≤ b := Int.ediv_le_self _ (by omega)
  have hw : wrap64 (Int.tdiv b g) = b / g := by rw [hd, wrap_eq (by omega) (by omega)]
  have bind : ∀ r, ((if g = 0 then (none : Option (Int × Bool)) else (if (wrap64 (Int.tdiv b g)) = 0 then none else (if (Int.tmod x (wrap64 (Int.tdiv b g))) = 0 then (some (wrap64 ((wrap64 (Int.tdiv x (wrap64 (Int.tdiv b g)))) * (wrap64 (Int.tdiv a g))), true)) else (some (0, false))))) = some r) → Ev (fun k => times_over.f k x a b) r := by
    intro r hr
    unfold times_over.f times_common.f
    exact Ev.bind he ⟨0, fun k _ => hr⟩
  by_cases c : Int.tmod x (wrap64 (Int.tdiv b g)) = 0
  · exact ⟨_, true, bind _ (by rw [if_neg (by omega), if_neg (by omega), if_pos c])⟩
  · exact ⟨0, false, bind _ (by rw [if_neg (by omega), if_neg (by omega), if_neg c])⟩
theorem ten_pow (m : Nat) (h : m ≤ 16) : 1 ≤ (10 : Int) ^ m ∧ (10 : Int) ^ m ≤ 9223372036854775807 := by
  have : m = 0 ∨ m = 1 ∨ m = 2 ∨ m = 3 ∨ m = 4 ∨ m = 5 ∨ m = 6 ∨ m = 7 ∨ m = 8 ∨ m = 9 ∨ m = 10 ∨ m = 11 ∨ m = 12 ∨ m = 13 ∨ m = 14 ∨ m = 15 ∨ m = 16 := by omega
  rcases this with rfl | rfl | rfl | rfl | rfl | rfl | rfl | rfl | rfl | rfl | rfl | rfl | rfl | rfl | rfl | rfl | rfl <;> decide
theorem exact_ten (s : ByteArray) : ∀ (b pos j : Nat) (n : Int), b + j ≤ 16 → ∃ m, m ≤ 16 ∧ (exactL s b pos n (10 ^ j)).2 = 10 ^ m
  | 0, pos, j, n, h => ⟨j, by omega, rfl⟩
  | b + 1, pos, j, n, h => by
    unfold exactL
    by_cases c : pos < s.size
    · rw [if_pos c]
      have e : wrap64 ((10 : Int) ^ j * 10) = 10 ^ (j + 1) := by
        have t := ten_pow (j + 1) (by omega)
        rw [show (10 : Int) ^ j * 10 = 10 ^ (j + 1) from (Int.pow_succ 10 j).symm, wrap_eq (by omega) t.2]
      rw [e]
      exact exact_ten s b _ (j + 1) _ (by omega)
    · rw [if_neg c]
      exact ⟨j, by omega, rfl⟩
theorem exact_total (s : ByteArray) (hs : s.size ≤ lim) (a : Int) (ha : 1 ≤ a) : ∃ n ok, Ev (fun k => times_exact.f k s a) (n, ok) := by
  have hz : s.size ≤ 1099511627776 := hs
  have ht : strings_TrimRight.f s (⟨#[48]⟩ : ByteArray) = some (⟨(Lib.trimRightB s.data.toList 48).toArray⟩ : ByteArray) := by
    unfold strings_TrimRight.f
    rw [if_pos (by rfl), if_pos (by omega)]
  generalize (⟨(Lib.trimRightB s.data.toList 48).toArray⟩ : ByteArray) = t at ht
  by_cases c : (t.size : Int) > 16
  · refine ⟨0, false, Ev.congr (f := fun _ => some (0, false)) (fun k => ?_) (Ev.now _)⟩
    unfold times_exact.f
    rw [ht]
    simp only [Option.bind_some]
    rw [if_pos c]
  · obtain ⟨m, hm, e⟩ := exact_ten t t.size 0 0 0 (by omega)
    have e' : (exactL t t.size 0 0 1).2 = 10 ^ m := e
    obtain ⟨t1, t2⟩ := ten_pow m hm
    obtain ⟨n, ok, he⟩ := over_total (exactL t t.size 0 0 1).1 a (exactL t t.size 0 0 1).2 ha (by rw [e']; exact t1) (by rw [e']; exact t2)
    refine ⟨n, ok, Ev.congr (fun k => ?_) he⟩
    unfold times_exact.f
    rw [ht]
    simp only [Option.bind_some]
    rw [if_neg c]
theorem most_total (u : Int) : ∃ m, times_most.f u = some m := by
  unfold times_most.f
  repeat' split
  all_goals exact ⟨_, rfl⟩
/-- A join that tells something tells it behind a bind. -/
theorem ev_const {α β : Type} {o : Option α} {a : α} {f : Nat → α → Option β} {r : β} (h : o = some a) (k : Ev (fun n => f n a) r) : Ev (fun n => o.bind (f n)) r := Ev.bind ⟨0, fun _ _ => h⟩ k
theorem pred {k a : Nat} (h : a + 1 ≤ k) : ∃ m, k = m + 1 ∧ a ≤ m := ⟨k - 1, by omega, by omega⟩
/-- span's loop: each round takes a byte at least. -/
theorem span_loop : ∀ (n : Nat) (s : ByteArray) (neg : Bool) (x u : Int) (first : Bool), s.size ≤ n → s.size ≤ lim → ∃ r, Ev (fun k => times_span.l0 k s neg x u first) r := by
  intro n
  induction n using Nat.strongRecOn with
  | _ n ih =>
  intro s neg x u first hn hs
  have hz : s.size ≤ 1099511627776 := hs
  -- the rest of a round, from a text on
  have j2 : ∀ t : ByteArray, t.size ≤ s.size → ∃ r, Ev (fun k => times_span.j2 k t neg x u first) r := by
    intro t ht
    have htl : t.size ≤ lim := Nat.le_trans ht hs
    obtain ⟨p, q, ⟨Kd, hd⟩, hpq⟩ := digits_total t htl
    obtain ⟨w, okw, hw, hw1⟩ := whole_total p (Nat.le_trans (by omega) htl)
    cases okw with
    | false =>
      refine ⟨(0, false), Kd + 1, fun k hk => ?_⟩
      obtain ⟨m, rfl, hm⟩ := pred hk
      have e1 : times_digits.f m t = some (p, q) := hd m hm
      simp only [times_span.j2]
      rw [e1]
      simp only [Option.bind_some]
      rw [hw]
      rfl
    | true =>
      have hp := hw1 rfl
      -- from the unit on
      have j3 : ∀ (y d : ByteArray) (dot : Bool), y.size < s.size → d.size ≤ lim → ∃ r, Ev (fun k => times_span.j3 k neg x u first y w d dot) r := by
        intro y d dot hy hdl
        obtain ⟨v, sc, rest, oku, ⟨Ku, hu⟩, hu1⟩ := unit_total y
        have j4no : Ev (fun k => times_span.j4 k neg x rest w d v sc true) (0, false) := Ev.step (f := fun _ => some (0, false)) (fun k => by simp only [times_span.j4]; rfl) (Ev.now _)
        cases oku with
        | false =>
          obtain ⟨K4, h4⟩ := j4no
          refine ⟨(0, false), Ku + K4 + 1, fun k hk => ?_⟩
          obtain ⟨m, rfl, hm⟩ := pred hk
          have e1 : times_unit.f m y = some (v, sc, rest, false) := hu m (by omega)
          have e2 : times_span.j4 m neg x rest w d v sc true = some (0, false) := h4 m (by omega)
          simp only [times_span.j3]
          rw [e1]
          exact e2
        | true =>
          obtain ⟨u1, u2, u3⟩ := hu1 rfl
          have j4yes : ∃ r, Ev (fun k => times_span.j4 k neg x rest w d v sc false) r := by
            obtain ⟨en, eok, ⟨Ke, he⟩⟩ := exact_total d hdl sc u2
            obtain ⟨r, ⟨Kr, hr⟩⟩ := ih (n - 1) (by omega) rest neg (wrap64 (x + (wrap64 ((wrap64 (w * sc)) + en)))) v false (by omega) (Nat.le_trans (by omega) hs)
            cases eok with
            | false =>
              refine ⟨(0, false), Ke + 1, fun k hk => ?_⟩
              obtain ⟨m, rfl, hm⟩ := pred hk
              have e1 : times_exact.f m d sc = some (en, false) := he m hm
              simp only [times_span.j4]
              rw [if_neg (by simp), e1]
              rfl
            | true =>
              by_cases cg : w > (wrap64 (Int.tdiv (wrap64 ((wrap64 (9223372036854775807 - x)) - en)) sc))
              · refine ⟨(0, false), Ke + 1, fun k hk => ?_⟩
                obtain ⟨m, rfl, hm⟩ := pred hk
                have e1 : times_exact.f m d sc = some (en, true) := he m hm
                simp only [times_span.j4]
                rw [if_neg (by simp), e1]
                simp only [Option.bind_some, if_true]
                rw [if_neg (by omega), if_pos cg]
              · refine ⟨r, Ke + Kr + 1, fun k hk => ?_⟩
                obtain ⟨m, rfl, hm⟩ := pred hk
                have e1 : times_exact.f m d sc = some (en, true) := he m (by omega)
                have e2 := hr m (by omega)
                simp only at e2
                simp only [times_span.j4]
                rw [if_neg (by simp), e1]
                simp only [Option.bind_some, if_true]
                rw [if_neg (by omega), if_neg cg]
                exact e2
          have j4 : ∀ b : Bool, ∃ r, Ev (fun k => times_span.j4 k neg x rest w d v sc b) r := fun b => by
            cases b with
            | true => exact ⟨_, j4no⟩
            | false => exact j4yes
          obtain ⟨m0, hm0⟩ := most_total v
          have go : ∀ b : Bool, (∀ k, times_unit.f k y = some (v, sc, rest, true) → times_span.j3 (k + 1) neg x u first y w d dot = times_span.j4 k neg x rest w d v sc b) → ∃ r, Ev (fun k => times_span.j3 k neg x u first y w d dot) r := by
            intro b hb
            obtain ⟨r, ⟨Kr, hr⟩⟩ := j4 b
            refine ⟨r, Ku + Kr + 1, fun k hk => ?_⟩
            obtain ⟨m, rfl, hm⟩ := pred hk
            have e2 := hr m (by omega)
            simp only at e2 ⊢
            rw [hb m (hu m (by omega)), e2]
          have start : ∀ (k : Nat), times_unit.f k y = some (v, sc, rest, true) → times_span.j3 (k + 1) neg x u first y w d dot = (if v ≤ u then (times_span.j4 k neg x rest w d v sc true) else (if first = true then (if dot = true then (if d.toList = ([] : List UInt8) then (times_span.j4 k neg x rest w d v sc true) else (times_span.j4 k neg x rest w d v sc (rest.toList != ([] : List UInt8)))) else (times_span.j4 k neg x rest w d v sc false)) else (if w ≥ m0 then (times_span.j4 k neg x rest w d v sc true) else (if dot = true then (if d.toList = ([] : List UInt8) then (times_span.j4 k neg x rest w d v sc true) else (times_span.j4 k neg x rest w d v sc (rest.toList != ([] : List UInt8)))) else (times_span.j4 k neg x rest w d v sc false))))) := by
            intro k e1
            simp only [times_span.j3]
            rw [e1]
            simp only [Option.bind_some, if_true, hm0]
          by_cases c1 : v ≤ u
          · exact go true (fun k e => by rw [start k e, if_pos c1])
          by_cases c2 : first = true
          · by_cases c5 : dot = true
            · by_cases c3 : d.toList = []
              · exact go true (fun k e => by rw [start k e, if_neg c1, if_pos c2, if_pos c5, if_pos c3])
              · exact go _ (fun k e => by rw [start k e, if_neg c1, if_pos c2, if_pos c5, if_neg c3])
            · exact go false (fun k e => by rw [start k e, if_neg c1, if_pos c2, if_neg c5])
          · by_cases c4 : w ≥ m0
            · exact go true (fun k e => by rw [start k e, if_neg c1, if_neg c2, if_pos c4])
            by_cases c5 : dot = true
            · by_cases c3 : d.toList = []
              · exact go true (fun k e => by rw [start k e, if_neg c1, if_neg c2, if_neg c4, if_pos c5, if_pos c3])
              · exact go _ (fun k e => by rw [start k e, if_neg c1, if_neg c2, if_neg c4, if_pos c5, if_neg c3])
            · exact go false (fun k e => by rw [start k e, if_neg c1, if_neg c2, if_neg c4, if_neg c5])
      obtain ⟨dot, hdot, hdot1⟩ := prefix_total q (⟨#[46]⟩ : ByteArray)
      have hdz : (⟨#[46]⟩ : ByteArray).size = 1 := rfl
      cases dot with
      | false =>
        obtain ⟨r, ⟨Kr, hr⟩⟩ := j3 q (⟨#[]⟩ : ByteArray) false (by omega) (Nat.zero_le _)
        refine ⟨r, Kd + Kr + 1, fun k hk => ?_⟩
        obtain ⟨m, rfl, hm⟩ := pred hk
        have e1 : times_digits.f m t = some (p, q) := hd m (by omega)
        have e2 := hr m (by omega)
        simp only at e2
        simp only [times_span.j2]
        rw [e1]
        simp only [Option.bind_some]
        rw [hw]
        simp only [Option.bind_some, if_true]
        rw [hdot]
        simp only [Option.bind_some]
        rw [if_neg (by simp)]
        exact e2
      | true =>
        have hq := hdot1 rfl
        obtain ⟨p2, q2, ⟨Kd2, hd2⟩, hpq2⟩ := digits_total (q.extract 1 q.size) (Nat.le_trans (Nat.le_trans (size_drop _ _ _) (by omega)) htl)
        have hx : (q.extract 1 q.size).size ≤ q.size := size_drop _ _ _
        obtain ⟨r, ⟨Kr, hr⟩⟩ := j3 q2 p2 true (by omega) (Nat.le_trans (by omega) htl)
        refine ⟨r, Kd + Kd2 + Kr + 1, fun k hk => ?_⟩
        obtain ⟨m, rfl, hm⟩ := pred hk
        have e1 : times_digits.f m t = some (p, q) := hd m (by omega)
        have e3 : times_digits.f m (q.extract 1 q.size) = some (p2, q2) := hd2 m (by omega)
        have e2 := hr m (by omega)
        simp only at e2
        simp only [times_span.j2]
        rw [e1]
        simp only [Option.bind_some]
        rw [hw]
        simp only [Option.bind_some, if_true]
        rw [hdot]
        simp only [Option.bind_some, if_true]
        rw [if_pos (by omega), e3]
        exact e2
  have j1 : ∀ b : Bool, ∃ r, Ev (fun k => times_span.j1 k s neg x u first b) r := by
    intro b
    cases b with
    | false =>
      by_cases c : neg = true
      · exact ⟨_, Ev.step (f := fun _ => some (wrap64 (-x), true)) (fun k => by simp only [times_span.j1]; rw [if_neg (by simp), if_pos c]) (Ev.now _)⟩
      · exact ⟨_, Ev.step (f := fun _ => some (x, true)) (fun k => by simp only [times_span.j1]; rw [if_neg (by simp), if_neg c]) (Ev.now _)⟩
    | true =>
      by_cases c : first = true
      · obtain ⟨r, hr⟩ := j2 s (Nat.le_refl _)
        exact ⟨r, Ev.step (fun k => by simp only [times_span.j1, if_true]; rw [if_pos c]) hr⟩
      · obtain ⟨t, ht, htz⟩ := trim_total s (⟨#[95]⟩ : ByteArray)
        obtain ⟨r, hr⟩ := j2 t htz
        exact ⟨r, Ev.step (fun k => by simp only [times_span.j1, if_true]; rw [if_neg c, ht]; rfl) hr⟩
  by_cases c : first = true
  · obtain ⟨r, hr⟩ := j1 true
    exact ⟨r, Ev.step (fun k => by simp only [times_span.l0]; rw [if_pos c]) hr⟩
  · obtain ⟨r, hr⟩ := j1 (s.toList != ([] : List UInt8))
    exact ⟨r, Ev.step (fun k => by simp only [times_span.l0]; rw [if_neg c]) hr⟩
theorem mapGo_length (f : Int → Int) : ∀ (n : Nat) (l : List UInt8), (Lib.mapGoD f n l).length ≤ 4 * n
  | 0, l => by simp [Lib.mapGoD]
  | n + 1, l => by
    unfold Lib.mapGoD
    by_cases c : l = []
    · rw [if_pos c]; simp
    · rw [if_neg c, List.length_append]
      have ih := mapGo_length f n (l.drop (Lib.decodeL l).2)
      have h : (if 0 ≤ f (Lib.decodeL l).1 then Lib.encodeRune (f (Lib.decodeL l).1) else []).length ≤ 4 := by
        split
        · have := (Lib.encodeRuneZ_length (f (Lib.decodeL l).1)).2
          simpa [Lib.encodeRune] using this
        · simp
      omega
theorem span_total (s : ByteArray) (hs : s.size ≤ 1048576) : ∃ r, Ev (fun k => times_span.f k s) r := by
  have ht : strings_ToLower.f s = some (⟨(Lib.toLowerD s.data.toList).toArray⟩ : ByteArray) := by
    unfold strings_ToLower.f
    rw [if_pos (by omega)]
  have hz : (⟨(Lib.toLowerD s.data.toList).toArray⟩ : ByteArray).size ≤ 4194304 := by
    show (Lib.toLowerD s.data.toList).toArray.size ≤ _
    rw [List.size_toArray]
    have := mapGo_length Lib.toLowerU s.data.toList.length s.data.toList
    have e : s.data.toList.length = s.size := by rw [Array.length_toList]; rfl
    unfold Lib.toLowerD Lib.mapD
    omega
  generalize (⟨(Lib.toLowerD s.data.toList).toArray⟩ : ByteArray) = t at ht hz
  obtain ⟨c, neg, hc, hcz⟩ := cut_total t (⟨#[45]⟩ : ByteArray)
  obtain ⟨r, hr⟩ := span_loop c.size c neg 0 (-1) true (Nat.le_refl _) (by show _ ≤ 1099511627776; omega)
  refine ⟨r, Ev.congr (fun k => ?_) hr⟩
  unfold times_span.f
  rw [ht]
  simp only [Option.bind_some]
  rw [hc]
  rfl
end Go.Proofs.YteoehlcjllbhfaaGreatDoor.PureParse
