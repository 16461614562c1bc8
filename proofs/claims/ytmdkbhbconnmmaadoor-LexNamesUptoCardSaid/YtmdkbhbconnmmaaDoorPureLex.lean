/- LexNames: the program and the document agree on every text, on names and on addresses. (This text: of the Lean functions alone.) -/
import Derived.Test.YtmdkbhbconnmmaaDoorXLexx6
import Derived.Test.YtmdkbhbconnmmaaDoorNum
namespace Go.Proofs.YtmdkbhbconnmmaaDoor.PureLex
open Go.RowKit Go.Proofs.YtmdkbhbconnmmaaDoor.XLex Go.Proofs.YtmdkbhbconnmmaaDoorW.PrintWords Go.Proofs.YtmdkbhbconnmmaaDoorW.PrintLast Go.Proofs.YtmdkbhbconnmmaaDoorW.PrintMore Go.Proofs.YtmdkbhbconnmmaaDoor.Num
set_option linter.unusedVariables false
set_option linter.unusedSimpArgs false

def LT (a : Int) : Bool := decide ((97 ≤ a ∧ a ≤ 122) ∨ (65 ≤ a ∧ a ≤ 90))
def DG (a : Int) : Bool := decide (48 ≤ a ∧ a ≤ 57)
def IN (a : Int) : Bool := LT a || (DG a || a == 95)
theorem letter_eq (a : Int) : relayref03_letter.f a = some (LT a) := by
  unfold relayref03_letter.f LT
  repeat' split
  all_goals (congr 1; first | exact decide_eq_decide.mpr (by omega) | exact (decide_eq_true (by omega)).symm | exact (decide_eq_false (by omega)).symm)
theorem lex_letter_eq (a : Int) : lex_letter.f a = some (LT a) := (show lex_letter.f a = relayref03_letter.f a from rfl).trans (letter_eq a)
theorem digit_eq (a : Int) : relayref03_digit.f a = some (DG a) := by
  unfold relayref03_digit.f DG
  split
  all_goals (congr 1; first | exact decide_eq_decide.mpr (by omega) | exact (decide_eq_true (by omega)).symm | exact (decide_eq_false (by omega)).symm)
theorem lex_digit_eq (a : Int) : lex_digit.f a = some (DG a) := (show lex_digit.f a = relayref03_digit.f a from rfl).trans (digit_eq a)
theorem inner_eq (a : Int) : relayref03_inner.f a = some (IN a) := by
  unfold relayref03_inner.f IN
  rw [letter_eq, digit_eq]
  cases LT a <;> cases DG a <;> rfl
theorem inWord_eq (a : Int) : lex_inWord.f a = some (IN a) := by
  unfold lex_inWord.f IN
  rw [lex_letter_eq, lex_digit_eq]
  cases LT a <;> cases DG a <;> rfl
theorem wrap_eq {a : Int} (h0 : -4000000000 ≤ a) (h : a ≤ 4000000000) : wrap64 a = a := by unfold wrap64; omega

/-- The two loops over a name. -/
theorem name_loops (s : ByteArray) (hs : s.size ≤ 1048576) : ∀ (n : Nat) (i : Int), (s.size : Int) - i = n → 0 ≤ i → ∃ r, Ev (fun k => lex_IsName.l0 k s (s.size : Int) i) r ∧ Ev (fun k => relayref03_IsName.l0 k s i) r
  | 0, i, h, h0 => ⟨true, Ev.step (f := fun _ => some true) (fun k => by simp only [lex_IsName.l0]; rw [if_neg (by omega)]) (Ev.now _), Ev.step (f := fun _ => some true) (fun k => by simp only [relayref03_IsName.l0]; rw [if_neg (by omega)]) (Ev.now _)⟩
  | n + 1, i, h, h0 => by
    obtain ⟨r, h1, h2⟩ := name_loops s hs n (i + 1) (by omega) (by omega)
    cases hb : IN (bt s i) with
    | false =>
      exact ⟨false, Ev.step (f := fun _ => some false) (fun k => by simp only [lex_IsName.l0]; rw [if_pos (by omega), if_pos h0, if_pos (by omega), inWord_eq, hb]; rfl) (Ev.now _),
        Ev.step (f := fun _ => some false) (fun k => by simp only [relayref03_IsName.l0]; rw [if_pos (by omega), if_pos h0, inner_eq, hb]; rfl) (Ev.now _)⟩
    | true =>
      refine ⟨r, Ev.step (fun k => ?_) h1, Ev.step (fun k => ?_) h2⟩
      · simp only [lex_IsName.l0]
        rw [if_pos (by omega), if_pos h0, if_pos (by omega), inWord_eq, hb, wrap_eq (by omega) (by omega)]
        rfl
      · simp only [relayref03_IsName.l0]
        rw [if_pos (by omega), if_pos h0, inner_eq, hb, wrap_eq (by omega) (by omega)]
        rfl
theorem toList_eq (s : ByteArray) : s.toList = s.data.toList := ByteArray.toList_eq s
theorem names (s : ByteArray) (hs : s.size ≤ 1048576) : ∃ r, Ev (fun k => lex_IsName.f k s) r ∧ Ev (fun k => relayref03_IsName.f k s) r := by
  have no1 : Ev (fun k => lex_IsName.j0 k s true) false := Ev.step (f := fun _ => some false) (fun k => by simp only [lex_IsName.j0]; rfl) (Ev.now _)
  have no2 : Ev (fun k => relayref03_IsName.j0 k s true) false := Ev.step (f := fun _ => some false) (fun k => by simp only [relayref03_IsName.j0]; rfl) (Ev.now _)
  have hz : s.toList = [] ↔ (s.size : Int) < 1 := by
    rw [toList_eq]
    constructor
    · intro h
      have := congrArg List.length h
      simp only [Array.length_toList, List.length_nil] at this
      have e : s.data.size = s.size := rfl
      omega
    · intro h
      have e : s.data.size = s.size := rfl
      apply List.eq_nil_of_length_eq_zero
      rw [Array.length_toList]
      omega
  unfold lex_IsName.f relayref03_IsName.f
  by_cases c1 : (s.size : Int) < 1
  · exact ⟨false, Ev.congr (fun k => by rw [if_pos (hz.2 c1)]) no1, Ev.congr (fun k => by rw [if_pos c1]) no2⟩
  have c1' : ¬ s.toList = [] := fun h => c1 (hz.1 h)
  by_cases c2 : (s.size : Int) > 24
  · exact ⟨false, Ev.congr (fun k => by rw [if_neg c1', if_pos c2]) no1, Ev.congr (fun k => by rw [if_neg c1, if_pos c2]) no2⟩
  cases hb : LT (bt s 0) with
  | false => exact ⟨false, Ev.congr (fun k => by rw [if_neg c1', if_neg c2, if_pos (by omega), lex_letter_eq, hb]; rfl) no1, Ev.congr (fun k => by rw [if_neg c1, if_neg c2, if_pos (by omega), letter_eq, hb]; rfl) no2⟩
  | true =>
    obtain ⟨r, h1, h2⟩ := name_loops s hs s.size 0 (by omega) (by omega)
    refine ⟨r, Ev.congr (f := fun k => lex_IsName.j0 k s false) (fun k => by rw [if_neg c1', if_neg c2, if_pos (by omega), lex_letter_eq, hb]; rfl) (Ev.step (fun k => ?_) h1),
      Ev.congr (f := fun k => relayref03_IsName.j0 k s false) (fun k => by rw [if_neg c1, if_neg c2, if_pos (by omega), letter_eq, hb]; rfl) (Ev.step (fun k => ?_) h2)⟩
    · simp only [lex_IsName.j0]
      rfl
    · simp only [relayref03_IsName.j0]
      rfl

/-! Addresses: the document's. -/
/-- Digits from i on, up to e. -/
structure Run (s : ByteArray) (i e : Int) : Prop where
  lo : i ≤ e
  hi : e ≤ s.size
  all : ∀ j, i ≤ j → j < e → DG (bt s j) = true
  stop : e < s.size → DG (bt s e) = false
theorem digits_loop (s u : ByteArray) (x : Int) (hs : s.size ≤ 1048576) : ∀ (n : Nat) (i : Int), (s.size : Int) - i = n → 0 ≤ i → ∃ e, Run s i e ∧ ∀ r, Ev (fun k => relayref03_address.j2 k s u x e) r → Ev (fun k => relayref03_address.l0 k s u x i) r
  | 0, i, h, h0 => ⟨i, ⟨Int.le_refl _, by omega, fun j h1 h2 => by omega, fun h => by omega⟩, fun r hr => Ev.step (fun k => by simp only [relayref03_address.l0]; rw [if_neg (by omega)]) hr⟩
  | n + 1, i, h, h0 => by
    cases hb : DG (bt s i) with
    | false => exact ⟨i, ⟨Int.le_refl _, by omega, fun j h1 h2 => by omega, fun _ => hb⟩, fun r hr => Ev.step (fun k => by simp only [relayref03_address.l0]; rw [if_pos (by omega), if_pos h0, digit_eq, hb]; rfl) hr⟩
    | true =>
      obtain ⟨e, ⟨g1, g2, g3, g4⟩, h2⟩ := digits_loop s u x hs n (i + 1) (by omega) (by omega)
      refine ⟨e, ⟨by omega, g2, fun j h1 h2 => ?_, g4⟩, fun r hr => Ev.step (fun k => ?_) (h2 r hr)⟩
      · by_cases c : j = i
        · subst c; exact hb
        · exact g3 j (by omega) h2
      · simp only [relayref03_address.l0]
        rw [if_pos (by omega), if_pos h0, digit_eq, hb, wrap_eq (by omega) (by omega)]
        rfl
/-- Where an address ends, from the end of its first digits. -/
def endX (s : ByteArray) (e : Int) : Int :=
  if e + 1 ≥ s.size then -1 else if bt s e = 46 then (if bt s (e + 1) < 48 then -1 else if bt s (e + 1) > 55 then -1 else if e + 2 < s.size then (if IN (bt s (e + 2)) = true then -1 else e + 2) else e + 2) else -1
def endN (s : ByteArray) (e : Int) : Int := if e < s.size then (if IN (bt s e) = true then -1 else e) else e
def endA (s : ByteArray) (x : Bool) (e : Int) : Int :=
  if e = 3 then -1 else if e - 3 > 4 then -1 else if e - 3 > 1 ∧ bt s 3 = 48 then -1 else if x = true then endX s e else endN s e
theorem ends (s u : ByteArray) (hs : s.size ≤ 1048576) (hu : 2 < u.size) (e : Int) (h3 : 3 ≤ e) (he : e ≤ s.size) : Ev (fun k => relayref03_address.j2 k s u 3 e) (endA s (bt u 2 == 88) e) := by
  have no : Ev (fun k => relayref03_address.j3 k s u e true) (-1) := Ev.step (f := fun _ => some (-1)) (fun k => by simp only [relayref03_address.j3]; rfl) (Ev.now _)
  have no4 : Ev (fun k => relayref03_address.j4 k s e true) (-1) := Ev.step (f := fun _ => some (-1)) (fun k => by simp only [relayref03_address.j4]; rfl) (Ev.now _)
  have w1 : wrap64 (e + 1) = e + 1 := wrap_eq (by omega) (by omega)
  have w2 : wrap64 (e + 2) = e + 2 := wrap_eq (by omega) (by omega)
  have w3 : wrap64 (e - 3) = e - 3 := wrap_eq (by omega) (by omega)
  have yes4 : Ev (fun k => relayref03_address.j4 k s e false) (if e + 2 < s.size then (if IN (bt s (e + 2)) = true then -1 else e + 2) else e + 2) := by
    refine Ev.step (f := fun _ => some (if e + 2 < s.size then (if IN (bt s (e + 2)) = true then -1 else e + 2) else e + 2)) (fun k => ?_) (Ev.now _)
    simp only [relayref03_address.j4, w2, inner_eq]
    rw [if_neg (by simp)]
    by_cases c : e + 2 < s.size
    · rw [if_pos c, if_pos (by omega), if_pos c]
      cases IN (bt s (e + 2)) <;> rfl
    · rw [if_neg c, if_neg c]
  have yes : Ev (fun k => relayref03_address.j3 k s u e false) (if (bt u 2 == 88) = true then endX s e else endN s e) := by
    by_cases cx : bt u 2 = 88
    · have cb : (bt u 2 == 88) = true := beq_iff_eq.mpr cx
      rw [if_pos cb]
      unfold endX
      by_cases k1 : e + 1 ≥ s.size
      · rw [if_pos k1]
        exact Ev.step (fun k => by simp only [relayref03_address.j3, w1]; rw [if_neg (by simp), if_pos (by omega), if_pos cx, if_pos k1]) no4
      rw [if_neg k1]
      by_cases k2 : bt s e = 46
      case neg =>
        rw [if_neg k2]
        exact Ev.step (fun k => by simp only [relayref03_address.j3, w1]; rw [if_neg (by simp), if_pos (by omega), if_pos cx, if_neg k1, if_pos (by omega), if_pos (by omega), if_neg k2]) no4
      rw [if_pos k2]
      by_cases k3 : bt s (e + 1) < 48
      · rw [if_pos k3]
        exact Ev.step (fun k => by simp only [relayref03_address.j3, w1]; rw [if_neg (by simp), if_pos (by omega), if_pos cx, if_neg k1, if_pos (by omega), if_pos (by omega), if_pos k2, if_pos (by omega), if_pos (by omega), if_pos k3]) no4
      rw [if_neg k3]
      by_cases k4 : bt s (e + 1) > 55
      · rw [if_pos k4]
        exact Ev.step (fun k => by simp only [relayref03_address.j3, w1]; rw [if_neg (by simp), if_pos (by omega), if_pos cx, if_neg k1, if_pos (by omega), if_pos (by omega), if_pos k2, if_pos (by omega), if_pos (by omega), if_neg k3, decide_eq_true k4]) no4
      rw [if_neg k4]
      exact Ev.step (fun k => by simp only [relayref03_address.j3, w1]; rw [if_neg (by simp), if_pos (by omega), if_pos cx, if_neg k1, if_pos (by omega), if_pos (by omega), if_pos k2, if_pos (by omega), if_pos (by omega), if_neg k3, decide_eq_false k4]) yes4
    · have cb : ¬ (bt u 2 == 88) = true := by simpa using cx
      rw [if_neg cb]
      unfold endN
      refine Ev.step (f := fun _ => some (if e < s.size then (if IN (bt s e) = true then -1 else e) else e)) (fun k => ?_) (Ev.now _)
      simp only [relayref03_address.j3, inner_eq]
      rw [if_neg (by simp), if_pos (by omega), if_neg cx]
      by_cases c : e < s.size
      · rw [if_pos c, if_pos (by omega), if_pos c]
        cases IN (bt s e) <;> rfl
      · rw [if_neg c, if_neg c]
  unfold endA
  by_cases c1 : e = 3
  · rw [if_pos c1]
    exact Ev.step (fun k => by simp only [relayref03_address.j2]; rw [if_pos c1]) no
  rw [if_neg c1]
  by_cases c2 : e - 3 > 4
  · rw [if_pos c2]
    exact Ev.step (fun k => by simp only [relayref03_address.j2, w3]; rw [if_neg c1, if_pos c2]) no
  rw [if_neg c2]
  by_cases c3 : e - 3 > 1
  case neg =>
    rw [if_neg (fun h => c3 h.1)]
    exact Ev.step (fun k => by simp only [relayref03_address.j2, w3]; rw [if_neg c1, if_neg c2, if_neg c3]) yes
  by_cases c4 : bt s 3 = 48
  · rw [if_pos ⟨c3, c4⟩]
    exact Ev.step (fun k => by simp only [relayref03_address.j2, w3]; rw [if_neg c1, if_neg c2, if_pos c3, if_pos (by omega), if_pos (by omega), beq_iff_eq.mpr c4]) no
  · rw [if_neg (fun h => c4 h.2)]
    exact Ev.step (fun k => by simp only [relayref03_address.j2, w3]; rw [if_neg c1, if_neg c2, if_pos c3, if_pos (by omega), if_pos (by omega), beq_eq_false_iff_ne.mpr c4]) yes
end Go.Proofs.YtmdkbhbconnmmaaDoor.PureLex
