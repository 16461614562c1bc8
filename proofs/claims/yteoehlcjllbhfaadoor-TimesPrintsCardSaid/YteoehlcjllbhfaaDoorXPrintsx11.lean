-- WRITTEN BY wip/tools/xprint.py out of the translation: the kit's print with this work's hooks.
import Derived.Test.YteoehlcjllbhfaaDoorXPrintsx0
import Derived.Test.YteoehlcjllbhfaaDoorXPrintsx8
import Derived.Test.YteoehlcjllbhfaaDoorXPrintsx10
namespace Go.Proofs.YteoehlcjllbhfaaDoor.XPrints
open Go.RowKit Go.Proofs.YteoehlcjllbhfaaDoorW.PrintWords Go.Proofs.YteoehlcjllbhfaaDoorW.PrintLast Go.Proofs.YteoehlcjllbhfaaDoorW.PrintMore
attribute [local go_sem] max2_int min2_int max_two min_two max_three min_three max_four min_four   -- for this text's walks alone
set_option linter.unusedVariables false
set_option linter.unusedSimpArgs false

/-! ### relayref02_dateText: function 12 -/
def relayref02_dateText.f (k : Nat) (a0 : Int) : Option (ByteArray) := (relayref02_Civil.f k (wrap64 (Int.tdiv a0 86400000000000))).bind fun bt168 => ((relayref02_digits.f k (IntKind.u64.wrap (bt168.1)) 4).bind fun t172 => (if t172.size + 1 ≤ 9223372036854775807 then ((relayref02_digits.f k (IntKind.u64.wrap (bt168.2.1)) 2).bind fun t173 => (if (t172 ++ (⟨#[45]⟩ : ByteArray)).size + t173.size ≤ 9223372036854775807 then (if ((t172 ++ (⟨#[45]⟩ : ByteArray)) ++ t173).size + 1 ≤ 9223372036854775807 then ((relayref02_digits.f k (IntKind.u64.wrap (bt168.2.2.1)) 2).bind fun t174 => (if (((t172 ++ (⟨#[45]⟩ : ByteArray)) ++ t173) ++ (⟨#[45]⟩ : ByteArray)).size + t174.size ≤ 9223372036854775807 then (some ((((t172 ++ (⟨#[45]⟩ : ByteArray)) ++ t173) ++ (⟨#[45]⟩ : ByteArray)) ++ t174)) else (none))) else (none)) else (none))) else (none)))
theorem relayref02_dateText.mono : ∀ a0 k, LeO (relayref02_dateText.f k a0) (relayref02_dateText.f (k + 1) a0) := by
  intro a0 k
  unfold relayref02_dateText.f
  repeat' first
      | (with_reducible exact relayref02_Civil.mono _ _)
      | (with_reducible exact relayref02_digits.mono _ _ _)
      | (with_reducible exact LeO.refl _)
      | (with_reducible exact LeO.none _)
      | (with_reducible refine LeO.ite ?_ ?_)
      | (with_reducible refine LeO.bind ?_ (fun _ => ?_))
      | exact relayref02_Civil.mono _ _
      | exact relayref02_digits.mono _ _ _
      | exact LeO.none _
      | refine LeO.ite ?_ ?_
      | refine LeO.bind ?_ (fun _ => ?_)
set_option maxHeartbeats 8000000 in
set_option maxRecDepth 100000 in
theorem relayref02_dateText.calls (k : Nat) (a0 : Int) (r : ByteArray) (w : World) (hL : LaidW w) (h : relayref02_dateText.f k a0 = some r) :
    Calls Tryd.prog 12 #[.int .i64 a0] w fun e w' => e = .returned (.string r) ∧ Below w.heap.size w w' := by
  have HLaid := Aside0.mk hL
  clear hL
  have HB := Aside0.mk (Below.refl w.heap.size w)
  have H : ((relayref02_Civil.f k (wrap64 (Int.tdiv a0 86400000000000))).bind fun bt168 => ((relayref02_digits.f k (IntKind.u64.wrap (bt168.1)) 4).bind fun t172 => (if t172.size + 1 ≤ 9223372036854775807 then ((relayref02_digits.f k (IntKind.u64.wrap (bt168.2.1)) 2).bind fun t173 => (if (t172 ++ (⟨#[45]⟩ : ByteArray)).size + t173.size ≤ 9223372036854775807 then (if ((t172 ++ (⟨#[45]⟩ : ByteArray)) ++ t173).size + 1 ≤ 9223372036854775807 then ((relayref02_digits.f k (IntKind.u64.wrap (bt168.2.2.1)) 2).bind fun t174 => (if (((t172 ++ (⟨#[45]⟩ : ByteArray)) ++ t173) ++ (⟨#[45]⟩ : ByteArray)).size + t174.size ≤ 9223372036854775807 then (some ((((t172 ++ (⟨#[45]⟩ : ByteArray)) ++ t173) ++ (⟨#[45]⟩ : ByteArray)) ++ t174)) else (none))) else (none)) else (none))) else (none)))) = some r := h
  clear h
  replace H := Option.bind_eq_some_iff.mp H
  obtain ⟨⟨t168, t169, t170, t171⟩, A20, H⟩ := H
  replace H : ((relayref02_digits.f k (IntKind.u64.wrap (t168)) 4).bind fun t172 => (if t172.size + 1 ≤ 9223372036854775807 then ((relayref02_digits.f k (IntKind.u64.wrap (t169)) 2).bind fun t173 => (if (t172 ++ (⟨#[45]⟩ : ByteArray)).size + t173.size ≤ 9223372036854775807 then (if ((t172 ++ (⟨#[45]⟩ : ByteArray)) ++ t173).size + 1 ≤ 9223372036854775807 then ((relayref02_digits.f k (IntKind.u64.wrap (t170)) 2).bind fun t174 => (if (((t172 ++ (⟨#[45]⟩ : ByteArray)) ++ t173) ++ (⟨#[45]⟩ : ByteArray)).size + t174.size ≤ 9223372036854775807 then (some ((((t172 ++ (⟨#[45]⟩ : ByteArray)) ++ t173) ++ (⟨#[45]⟩ : ByteArray)) ++ t174)) else (none))) else (none)) else (none))) else (none))) = some r := H
  have A2 := Aside0.mk A20
  clear A20
  replace H := Option.bind_eq_some_iff.mp H
  obtain ⟨t172, A30, H⟩ := H
  replace H : (if t172.size + 1 ≤ 9223372036854775807 then ((relayref02_digits.f k (IntKind.u64.wrap (t169)) 2).bind fun t173 => (if (t172 ++ (⟨#[45]⟩ : ByteArray)).size + t173.size ≤ 9223372036854775807 then (if ((t172 ++ (⟨#[45]⟩ : ByteArray)) ++ t173).size + 1 ≤ 9223372036854775807 then ((relayref02_digits.f k (IntKind.u64.wrap (t170)) 2).bind fun t174 => (if (((t172 ++ (⟨#[45]⟩ : ByteArray)) ++ t173) ++ (⟨#[45]⟩ : ByteArray)).size + t174.size ≤ 9223372036854775807 then (some ((((t172 ++ (⟨#[45]⟩ : ByteArray)) ++ t173) ++ (⟨#[45]⟩ : ByteArray)) ++ t174)) else (none))) else (none)) else (none))) else (none)) = some r := H
  have A3 := Aside0.mk A30
  clear A30
  by_cases c4 : t172.size + 1 ≤ 9223372036854775807
  · rw [if_pos c4] at H
    have c4b0 := eq_true c4
    have c4b1 : decide (t172.size + 1 ≤ 9223372036854775807) = true := decide_eq_true c4
    try have c4b2 : (9223372036854775807 < t172.size + 1) = False := eq_false (Nat.not_lt.2 c4)
    replace H := Option.bind_eq_some_iff.mp H
    obtain ⟨t173, A50, H⟩ := H
    replace H : (if (t172 ++ (⟨#[45]⟩ : ByteArray)).size + t173.size ≤ 9223372036854775807 then (if ((t172 ++ (⟨#[45]⟩ : ByteArray)) ++ t173).size + 1 ≤ 9223372036854775807 then ((relayref02_digits.f k (IntKind.u64.wrap (t170)) 2).bind fun t174 => (if (((t172 ++ (⟨#[45]⟩ : ByteArray)) ++ t173) ++ (⟨#[45]⟩ : ByteArray)).size + t174.size ≤ 9223372036854775807 then (some ((((t172 ++ (⟨#[45]⟩ : ByteArray)) ++ t173) ++ (⟨#[45]⟩ : ByteArray)) ++ t174)) else (none))) else (none)) else (none)) = some r := H
    have A5 := Aside0.mk A50
    clear A50
    by_cases c6 : (t172 ++ (⟨#[45]⟩ : ByteArray)).size + t173.size ≤ 9223372036854775807
    · rw [if_pos c6] at H
      have c6b0 := eq_true c6
      have c6b1 : decide ((t172 ++ (⟨#[45]⟩ : ByteArray)).size + t173.size ≤ 9223372036854775807) = true := decide_eq_true c6
      try have c6b2 : (9223372036854775807 < (t172 ++ (⟨#[45]⟩ : ByteArray)).size + t173.size) = False := eq_false (Nat.not_lt.2 c6)
      try (have c6b2n := c6b2; simp only [ByteArray.size_append, size_mk, List.size_toArray, List.length_cons, List.length_nil, Nat.zero_add, Nat.reduceAdd] at c6b2n)
      by_cases c7 : ((t172 ++ (⟨#[45]⟩ : ByteArray)) ++ t173).size + 1 ≤ 9223372036854775807
      · rw [if_pos c7] at H
        have c7b0 := eq_true c7
        have c7b1 : decide (((t172 ++ (⟨#[45]⟩ : ByteArray)) ++ t173).size + 1 ≤ 9223372036854775807) = true := decide_eq_true c7
        try have c7b2 : (9223372036854775807 < ((t172 ++ (⟨#[45]⟩ : ByteArray)) ++ t173).size + 1) = False := eq_false (Nat.not_lt.2 c7)
        try (have c7b2n := c7b2; simp only [ByteArray.size_append, size_mk, List.size_toArray, List.length_cons, List.length_nil, Nat.zero_add, Nat.reduceAdd] at c7b2n)
        replace H := Option.bind_eq_some_iff.mp H
        obtain ⟨t174, A80, H⟩ := H
        replace H : (if (((t172 ++ (⟨#[45]⟩ : ByteArray)) ++ t173) ++ (⟨#[45]⟩ : ByteArray)).size + t174.size ≤ 9223372036854775807 then (some ((((t172 ++ (⟨#[45]⟩ : ByteArray)) ++ t173) ++ (⟨#[45]⟩ : ByteArray)) ++ t174)) else (none)) = some r := H
        have A8 := Aside0.mk A80
        clear A80
        by_cases c9 : (((t172 ++ (⟨#[45]⟩ : ByteArray)) ++ t173) ++ (⟨#[45]⟩ : ByteArray)).size + t174.size ≤ 9223372036854775807
        · rw [if_pos c9] at H
          have c9b0 := eq_true c9
          have c9b1 : decide ((((t172 ++ (⟨#[45]⟩ : ByteArray)) ++ t173) ++ (⟨#[45]⟩ : ByteArray)).size + t174.size ≤ 9223372036854775807) = true := decide_eq_true c9
          try have c9b2 : (9223372036854775807 < (((t172 ++ (⟨#[45]⟩ : ByteArray)) ++ t173) ++ (⟨#[45]⟩ : ByteArray)).size + t174.size) = False := eq_false (Nat.not_lt.2 c9)
          try (have c9b2n := c9b2; simp only [ByteArray.size_append, size_mk, List.size_toArray, List.length_cons, List.length_nil, Nat.zero_add, Nat.reduceAdd] at c9b2n)
          obtain rfl := Option.some.inj H
          go_enter Tryd.func12, Tryd.ntmps12
          go_wp2_with (first | ((with_reducible refine gate_callee (f := 25) rfl ?_); refine goesL_ (some 10) rfl rfl Tryd.func25 (by kernel_rfl) rfl #[.int .i64 (wrap64 (Int.tdiv a0 86400000000000))] rfl (by (try simp only [List.map_toArray, List.map_cons, List.map_nil]); first | done | rfl | (simp only [List.length_drop, List.length_take]; rfl)) ?_; (with_reducible refine (relayref02_Civil.calls k (wrap64 (Int.tdiv a0 86400000000000)) t168 t169 t170 t171 _ ?side1 A2.out).mono ?_); (case side1 => first | exact HLaid.out | (refine LaidW.below HLaid.out ?_; repeat (first | (with_reducible first | exact HB.out | apply below_alloc | apply pw_below_drewN | apply below_drew1) | exact HB.out))); rintro e w' ⟨rfl, ⟨nd, rfl⟩⟩; refine ⟨_, rfl, ?_⟩) | ((with_reducible refine gate_callee (f := 24) rfl ?_); refine goesL_ (some 17) rfl rfl Tryd.func24 (by kernel_rfl) rfl #[.int .u64 (IntKind.u64.wrap (t168)), .int .i64 4] rfl (by (try simp only [List.map_toArray, List.map_cons, List.map_nil]); first | done | rfl | (simp only [List.length_drop, List.length_take]; rfl)) ?_; (with_reducible refine (relayref02_digits.calls k (IntKind.u64.wrap (t168)) 4 t172 _ ?side1 A3.out).mono ?_); (case side1 => first | exact HLaid.out | (refine LaidW.below HLaid.out ?_; repeat (first | (with_reducible first | exact HB.out | apply below_alloc | apply pw_below_drewN | apply below_drew1) | exact HB.out))); rintro e w10 ⟨rfl, hb⟩; refine ⟨_, rfl, ?_⟩; have n0_ := Aside0.mk (below_step (by repeat (first | (with_reducible first | exact HB.out | apply below_alloc | apply pw_below_drewN | apply below_drew1) | exact HB.out)) hb); clear HB; have HB := n0_; clear n0_; (try clear hb); (try clear hb2); (try clear hk); (try clear hi)) | ((with_reducible refine gate_callee (f := 24) rfl ?_); refine goesL_ (some 21) rfl rfl Tryd.func24 (by kernel_rfl) rfl #[.int .u64 (IntKind.u64.wrap (t169)), .int .i64 2] rfl (by (try simp only [List.map_toArray, List.map_cons, List.map_nil]); first | done | rfl | (simp only [List.length_drop, List.length_take]; rfl)) ?_; (with_reducible refine (relayref02_digits.calls k (IntKind.u64.wrap (t169)) 2 t173 _ ?side1 A5.out).mono ?_); (case side1 => first | exact HLaid.out | (refine LaidW.below HLaid.out ?_; repeat (first | (with_reducible first | exact HB.out | apply below_alloc | apply pw_below_drewN | apply below_drew1) | exact HB.out))); rintro e w11 ⟨rfl, hb⟩; refine ⟨_, rfl, ?_⟩; have n0_ := Aside0.mk (below_step (by repeat (first | (with_reducible first | exact HB.out | apply below_alloc | apply pw_below_drewN | apply below_drew1) | exact HB.out)) hb); clear HB; have HB := n0_; clear n0_; (try clear hb); (try clear hb2); (try clear hk); (try clear hi)) | ((with_reducible refine gate_callee (f := 24) rfl ?_); refine goesL_ (some 26) rfl rfl Tryd.func24 (by kernel_rfl) rfl #[.int .u64 (IntKind.u64.wrap (t170)), .int .i64 2] rfl (by (try simp only [List.map_toArray, List.map_cons, List.map_nil]); first | done | rfl | (simp only [List.length_drop, List.length_take]; rfl)) ?_; (with_reducible refine (relayref02_digits.calls k (IntKind.u64.wrap (t170)) 2 t174 _ ?side1 A8.out).mono ?_); (case side1 => first | exact HLaid.out | (refine LaidW.below HLaid.out ?_; repeat (first | (with_reducible first | exact HB.out | apply below_alloc | apply pw_below_drewN | apply below_drew1) | exact HB.out))); rintro e w12 ⟨rfl, hb⟩; refine ⟨_, rfl, ?_⟩; have n0_ := Aside0.mk (below_step (by repeat (first | (with_reducible first | exact HB.out | apply below_alloc | apply pw_below_drewN | apply below_drew1) | exact HB.out)) hb); clear HB; have HB := n0_; clear n0_; (try clear hb); (try clear hb2); (try clear hk); (try clear hi)))
          go_ret
          exact ⟨by first | rfl | (simp [errW_none, errW_some] <;> rfl) | (simp [*, errW_none, errW_some] <;> rfl), by repeat (first | (with_reducible first | exact HB.out | apply below_alloc | apply pw_below_drewN | apply below_drew1) | exact HB.out)⟩
        · rw [if_neg c9] at H
          exact absurd H (by simp)
      · rw [if_neg c7] at H
        exact absurd H (by simp)
    · rw [if_neg c6] at H
      exact absurd H (by simp)
  · rw [if_neg c4] at H
    exact absurd H (by simp)

/-! ### relayref02_clockText: function 13 -/
def relayref02_clockText.l0 : Nat → ByteArray → ByteArray → Int → Option (ByteArray)
  | 0, _, _, _ => none
  | k + 1, x4, x5, x6 => if x6 > 0 then (if 0 ≤ (wrap64 (x6 - 1)) then (if (wrap64 (x6 - 1)) < (x5.size : Int) then (if (bt x5 (wrap64 (x6 - 1))) = 48 then (relayref02_clockText.l0 k x4 x5 (wrap64 (x6 - 1))) else (if x6 = 0 then (some x4) else (if x4.size + 1 ≤ 9223372036854775807 then (if 0 ≤ x6 then (if x6 ≤ (x5.size : Int) then (if (x4 ++ (⟨#[46]⟩ : ByteArray)).size + (x5.extract 0 (x6 : Int).toNat).size ≤ 9223372036854775807 then (some ((x4 ++ (⟨#[46]⟩ : ByteArray)) ++ (x5.extract 0 (x6 : Int).toNat))) else (none)) else (none)) else (none)) else (none)))) else (none)) else (none)) else (if x6 = 0 then (some x4) else (if x4.size + 1 ≤ 9223372036854775807 then (if 0 ≤ x6 then (if x6 ≤ (x5.size : Int) then (if (x4 ++ (⟨#[46]⟩ : ByteArray)).size + (x5.extract 0 (x6 : Int).toNat).size ≤ 9223372036854775807 then (some ((x4 ++ (⟨#[46]⟩ : ByteArray)) ++ (x5.extract 0 (x6 : Int).toNat))) else (none)) else (none)) else (none)) else (none)))
def relayref02_clockText.f (k : Nat) (a0 : Int) : Option (ByteArray) := (relayref02_digits.f k (IntKind.u64.wrap (wrap64 (Int.tdiv (wrap64 (Int.tdiv a0 1000000000)) 3600))) 2).bind fun t175 => (if t175.size + 1 ≤ 9223372036854775807 then ((relayref02_digits.f k (IntKind.u64.wrap (Int.tmod (wrap64 (Int.tdiv (wrap64 (Int.tdiv a0 1000000000)) 60)) 60)) 2).bind fun t176 => (if (t175 ++ (⟨#[58]⟩ : ByteArray)).size + t176.size ≤ 9223372036854775807 then (if ((t175 ++ (⟨#[58]⟩ : ByteArray)) ++ t176).size + 1 ≤ 9223372036854775807 then ((relayref02_digits.f k (IntKind.u64.wrap (Int.tmod (wrap64 (Int.tdiv a0 1000000000)) 60)) 2).bind fun t177 => (if (((t175 ++ (⟨#[58]⟩ : ByteArray)) ++ t176) ++ (⟨#[58]⟩ : ByteArray)).size + t177.size ≤ 9223372036854775807 then ((relayref02_digits.f k (IntKind.u64.wrap (Int.tmod a0 1000000000)) 9).bind fun t178 => (relayref02_clockText.l0 k ((((t175 ++ (⟨#[58]⟩ : ByteArray)) ++ t176) ++ (⟨#[58]⟩ : ByteArray)) ++ t177) t178 9)) else (none))) else (none)) else (none))) else (none))
theorem relayref02_clockText.mono_l : ∀ k, (∀ y0 y1 y2, LeO (relayref02_clockText.l0 k y0 y1 y2) (relayref02_clockText.l0 (k + 1) y0 y1 y2))
  | 0 => fun _ _ _ r h => by simp [relayref02_clockText.l0] at h
  | k + 1 => by
    have ih0 := relayref02_clockText.mono_l k
    · intro y0 y1 y2
      unfold relayref02_clockText.l0
      repeat' first
      | (with_reducible exact ih0 _ _ _)
      | (with_reducible exact relayref02_digits.mono _ _ _)
      | (with_reducible exact LeO.refl _)
      | (with_reducible exact LeO.none _)
      | (with_reducible refine LeO.ite ?_ ?_)
      | (with_reducible refine LeO.bind ?_ (fun _ => ?_))
      | exact ih0 _ _ _
      | exact relayref02_digits.mono _ _ _
      | exact LeO.none _
      | refine LeO.ite ?_ ?_
      | refine LeO.bind ?_ (fun _ => ?_)
theorem relayref02_clockText.mono : ∀ a0 k, LeO (relayref02_clockText.f k a0) (relayref02_clockText.f (k + 1) a0) := by
  intro a0 k
  have ih0 := relayref02_clockText.mono_l k
  unfold relayref02_clockText.f
  repeat' first
      | (with_reducible exact ih0 _ _ _)
      | (with_reducible exact relayref02_digits.mono _ _ _)
      | (with_reducible exact LeO.refl _)
      | (with_reducible exact LeO.none _)
      | (with_reducible refine LeO.ite ?_ ?_)
      | (with_reducible refine LeO.bind ?_ (fun _ => ?_))
      | exact ih0 _ _ _
      | exact relayref02_digits.mono _ _ _
      | exact LeO.none _
      | refine LeO.ite ?_ ?_
      | refine LeO.bind ?_ (fun _ => ?_)
set_option maxHeartbeats 8000000 in
set_option maxRecDepth 100000 in
theorem relayref02_clockText.calls (k : Nat) (a0 : Int) (r : ByteArray) (w : World) (hL : LaidW w) (h : relayref02_clockText.f k a0 = some r) :
    Calls Tryd.prog 13 #[.int .i64 a0] w fun e w' => e = .returned (.string r) ∧ Below w.heap.size w w' := by
  have HLaid := Aside0.mk hL
  clear hL
  have HB := Aside0.mk (Below.refl w.heap.size w)
  have H : ((relayref02_digits.f k (IntKind.u64.wrap (wrap64 (Int.tdiv (wrap64 (Int.tdiv a0 1000000000)) 3600))) 2).bind fun t175 => (if t175.size + 1 ≤ 9223372036854775807 then ((relayref02_digits.f k (IntKind.u64.wrap (Int.tmod (wrap64 (Int.tdiv (wrap64 (Int.tdiv a0 1000000000)) 60)) 60)) 2).bind fun t176 => (if (t175 ++ (⟨#[58]⟩ : ByteArray)).size + t176.size ≤ 9223372036854775807 then (if ((t175 ++ (⟨#[58]⟩ : ByteArray)) ++ t176).size + 1 ≤ 9223372036854775807 then ((relayref02_digits.f k (IntKind.u64.wrap (Int.tmod (wrap64 (Int.tdiv a0 1000000000)) 60)) 2).bind fun t177 => (if (((t175 ++ (⟨#[58]⟩ : ByteArray)) ++ t176) ++ (⟨#[58]⟩ : ByteArray)).size + t177.size ≤ 9223372036854775807 then ((relayref02_digits.f k (IntKind.u64.wrap (Int.tmod a0 1000000000)) 9).bind fun t178 => (relayref02_clockText.l0 k ((((t175 ++ (⟨#[58]⟩ : ByteArray)) ++ t176) ++ (⟨#[58]⟩ : ByteArray)) ++ t177) t178 9)) else (none))) else (none)) else (none))) else (none))) = some r := h
  clear h
  replace H := Option.bind_eq_some_iff.mp H
  obtain ⟨t175, A20, H⟩ := H
  replace H : (if t175.size + 1 ≤ 9223372036854775807 then ((relayref02_digits.f k (IntKind.u64.wrap (Int.tmod (wrap64 (Int.tdiv (wrap64 (Int.tdiv a0 1000000000)) 60)) 60)) 2).bind fun t176 => (if (t175 ++ (⟨#[58]⟩ : ByteArray)).size + t176.size ≤ 9223372036854775807 then (if ((t175 ++ (⟨#[58]⟩ : ByteArray)) ++ t176).size + 1 ≤ 9223372036854775807 then ((relayref02_digits.f k (IntKind.u64.wrap (Int.tmod (wrap64 (Int.tdiv a0 1000000000)) 60)) 2).bind fun t177 => (if (((t175 ++ (⟨#[58]⟩ : ByteArray)) ++ t176) ++ (⟨#[58]⟩ : ByteArray)).size + t177.size ≤ 9223372036854775807 then ((relayref02_digits.f k (IntKind.u64.wrap (Int.tmod a0 1000000000)) 9).bind fun t178 => (relayref02_clockText.l0 k ((((t175 ++ (⟨#[58]⟩ : ByteArray)) ++ t176) ++ (⟨#[58]⟩ : ByteArray)) ++ t177) t178 9)) else (none))) else (none)) else (none))) else (none)) = some r := H
  have A2 := Aside0.mk A20
  clear A20
  by_cases c3 : t175.size + 1 ≤ 9223372036854775807
  · rw [if_pos c3] at H
    have c3b0 := eq_true c3
    have c3b1 : decide (t175.size + 1 ≤ 9223372036854775807) = true := decide_eq_true c3
    try have c3b2 : (9223372036854775807 < t175.size + 1) = False := eq_false (Nat.not_lt.2 c3)
    replace H := Option.bind_eq_some_iff.mp H
    obtain ⟨t176, A40, H⟩ := H
    replace H : (if (t175 ++ (⟨#[58]⟩ : ByteArray)).size + t176.size ≤ 9223372036854775807 then (if ((t175 ++ (⟨#[58]⟩ : ByteArray)) ++ t176).size + 1 ≤ 9223372036854775807 then ((relayref02_digits.f k (IntKind.u64.wrap (Int.tmod (wrap64 (Int.tdiv a0 1000000000)) 60)) 2).bind fun t177 => (if (((t175 ++ (⟨#[58]⟩ : ByteArray)) ++ t176) ++ (⟨#[58]⟩ : ByteArray)).size + t177.size ≤ 9223372036854775807 then ((relayref02_digits.f k (IntKind.u64.wrap (Int.tmod a0 1000000000)) 9).bind fun t178 => (relayref02_clockText.l0 k ((((t175 ++ (⟨#[58]⟩ : ByteArray)) ++ t176) ++ (⟨#[58]⟩ : ByteArray)) ++ t177) t178 9)) else (none))) else (none)) else (none)) = some r := H
    have A4 := Aside0.mk A40
    clear A40
    by_cases c5 : (t175 ++ (⟨#[58]⟩ : ByteArray)).size + t176.size ≤ 9223372036854775807
    · rw [if_pos c5] at H
      have c5b0 := eq_true c5
      have c5b1 : decide ((t175 ++ (⟨#[58]⟩ : ByteArray)).size + t176.size ≤ 9223372036854775807) = true := decide_eq_true c5
      try have c5b2 : (9223372036854775807 < (t175 ++ (⟨#[58]⟩ : ByteArray)).size + t176.size) = False := eq_false (Nat.not_lt.2 c5)
      try (have c5b2n := c5b2; simp only [ByteArray.size_append, size_mk, List.size_toArray, List.length_cons, List.length_nil, Nat.zero_add, Nat.reduceAdd] at c5b2n)
      by_cases c6 : ((t175 ++ (⟨#[58]⟩ : ByteArray)) ++ t176).size + 1 ≤ 9223372036854775807
      · rw [if_pos c6] at H
        have c6b0 := eq_true c6
        have c6b1 : decide (((t175 ++ (⟨#[58]⟩ : ByteArray)) ++ t176).size + 1 ≤ 9223372036854775807) = true := decide_eq_true c6
        try have c6b2 : (9223372036854775807 < ((t175 ++ (⟨#[58]⟩ : ByteArray)) ++ t176).size + 1) = False := eq_false (Nat.not_lt.2 c6)
        try (have c6b2n := c6b2; simp only [ByteArray.size_append, size_mk, List.size_toArray, List.length_cons, List.length_nil, Nat.zero_add, Nat.reduceAdd] at c6b2n)
        replace H := Option.bind_eq_some_iff.mp H
        obtain ⟨t177, A70, H⟩ := H
        replace H : (if (((t175 ++ (⟨#[58]⟩ : ByteArray)) ++ t176) ++ (⟨#[58]⟩ : ByteArray)).size + t177.size ≤ 9223372036854775807 then ((relayref02_digits.f k (IntKind.u64.wrap (Int.tmod a0 1000000000)) 9).bind fun t178 => (relayref02_clockText.l0 k ((((t175 ++ (⟨#[58]⟩ : ByteArray)) ++ t176) ++ (⟨#[58]⟩ : ByteArray)) ++ t177) t178 9)) else (none)) = some r := H
        have A7 := Aside0.mk A70
        clear A70
        by_cases c8 : (((t175 ++ (⟨#[58]⟩ : ByteArray)) ++ t176) ++ (⟨#[58]⟩ : ByteArray)).size + t177.size ≤ 9223372036854775807
        · rw [if_pos c8] at H
          have c8b0 := eq_true c8
          have c8b1 : decide ((((t175 ++ (⟨#[58]⟩ : ByteArray)) ++ t176) ++ (⟨#[58]⟩ : ByteArray)).size + t177.size ≤ 9223372036854775807) = true := decide_eq_true c8
          try have c8b2 : (9223372036854775807 < (((t175 ++ (⟨#[58]⟩ : ByteArray)) ++ t176) ++ (⟨#[58]⟩ : ByteArray)).size + t177.size) = False := eq_false (Nat.not_lt.2 c8)
          try (have c8b2n := c8b2; simp only [ByteArray.size_append, size_mk, List.size_toArray, List.length_cons, List.length_nil, Nat.zero_add, Nat.reduceAdd] at c8b2n)
          replace H := Option.bind_eq_some_iff.mp H
          obtain ⟨t178, A90, H⟩ := H
          replace H : (relayref02_clockText.l0 k ((((t175 ++ (⟨#[58]⟩ : ByteArray)) ++ t176) ++ (⟨#[58]⟩ : ByteArray)) ++ t177) t178 9) = some r := H
          have A9 := Aside0.mk A90
          clear A90
          have H' := Aside0.mk H
          clear H
          go_enter Tryd.func13, Tryd.ntmps13
          go_wp2_with (first | ((with_reducible refine gate_callee (f := 24) rfl ?_); refine goesL_ (some 12) rfl rfl Tryd.func24 (by kernel_rfl) rfl #[.int .u64 (IntKind.u64.wrap (wrap64 (Int.tdiv (wrap64 (Int.tdiv a0 1000000000)) 3600))), .int .i64 2] rfl (by (try simp only [List.map_toArray, List.map_cons, List.map_nil]); first | done | rfl | (simp only [List.length_drop, List.length_take]; rfl)) ?_; (with_reducible refine (relayref02_digits.calls k (IntKind.u64.wrap (wrap64 (Int.tdiv (wrap64 (Int.tdiv a0 1000000000)) 3600))) 2 t175 _ ?side1 A2.out).mono ?_); (case side1 => first | exact HLaid.out | (refine LaidW.below HLaid.out ?_; repeat (first | (with_reducible first | exact HB.out | apply below_alloc | apply pw_below_drewN | apply below_drew1) | exact HB.out))); rintro e w10 ⟨rfl, hb⟩; refine ⟨_, rfl, ?_⟩; have n0_ := Aside0.mk (below_step (by repeat (first | (with_reducible first | exact HB.out | apply below_alloc | apply pw_below_drewN | apply below_drew1) | exact HB.out)) hb); clear HB; have HB := n0_; clear n0_; (try clear hb); (try clear hb2); (try clear hk); (try clear hi)) | ((with_reducible refine gate_callee (f := 24) rfl ?_); refine goesL_ (some 18) rfl rfl Tryd.func24 (by kernel_rfl) rfl #[.int .u64 (IntKind.u64.wrap (Int.tmod (wrap64 (Int.tdiv (wrap64 (Int.tdiv a0 1000000000)) 60)) 60)), .int .i64 2] rfl (by (try simp only [List.map_toArray, List.map_cons, List.map_nil]); first | done | rfl | (simp only [List.length_drop, List.length_take]; rfl)) ?_; (with_reducible refine (relayref02_digits.calls k (IntKind.u64.wrap (Int.tmod (wrap64 (Int.tdiv (wrap64 (Int.tdiv a0 1000000000)) 60)) 60)) 2 t176 _ ?side1 A4.out).mono ?_); (case side1 => first | exact HLaid.out | (refine LaidW.below HLaid.out ?_; repeat (first | (with_reducible first | exact HB.out | apply below_alloc | apply pw_below_drewN | apply below_drew1) | exact HB.out))); rintro e w11 ⟨rfl, hb⟩; refine ⟨_, rfl, ?_⟩; have n0_ := Aside0.mk (below_step (by repeat (first | (with_reducible first | exact HB.out | apply below_alloc | apply pw_below_drewN | apply below_drew1) | exact HB.out)) hb); clear HB; have HB := n0_; clear n0_; (try clear hb); (try clear hb2); (try clear hk); (try clear hi)) | ((with_reducible refine gate_callee (f := 24) rfl ?_); refine goesL_ (some 24) rfl rfl Tryd.func24 (by kernel_rfl) rfl #[.int .u64 (IntKind.u64.wrap (Int.tmod (wrap64 (Int.tdiv a0 1000000000)) 60)), .int .i64 2] rfl (by (try simp only [List.map_toArray, List.map_cons, List.map_nil]); first | done | rfl | (simp only [List.length_drop, List.length_take]; rfl)) ?_; (with_reducible refine (relayref02_digits.calls k (IntKind.u64.wrap (Int.tmod (wrap64 (Int.tdiv a0 1000000000)) 60)) 2 t177 _ ?side1 A7.out).mono ?_); (case side1 => first | exact HLaid.out | (refine LaidW.below HLaid.out ?_; repeat (first | (with_reducible first | exact HB.out | apply below_alloc | apply pw_below_drewN | apply below_drew1) | exact HB.out))); rintro e w12 ⟨rfl, hb⟩; refine ⟨_, rfl, ?_⟩; have n0_ := Aside0.mk (below_step (by repeat (first | (with_reducible first | exact HB.out | apply below_alloc | apply pw_below_drewN | apply below_drew1) | exact HB.out)) hb); clear HB; have HB := n0_; clear n0_; (try clear hb); (try clear hb2); (try clear hk); (try clear hi)) | ((with_reducible refine gate_callee (f := 24) rfl ?_); refine goesL_ (some 29) rfl rfl Tryd.func24 (by kernel_rfl) rfl #[.int .u64 (IntKind.u64.wrap (Int.tmod a0 1000000000)), .int .i64 9] rfl (by (try simp only [List.map_toArray, List.map_cons, List.map_nil]); first | done | rfl | (simp only [List.length_drop, List.length_take]; rfl)) ?_; (with_reducible refine (relayref02_digits.calls k (IntKind.u64.wrap (Int.tmod a0 1000000000)) 9 t178 _ ?side1 A9.out).mono ?_); (case side1 => first | exact HLaid.out | (refine LaidW.below HLaid.out ?_; repeat (first | (with_reducible first | exact HB.out | apply below_alloc | apply pw_below_drewN | apply below_drew1) | exact HB.out))); rintro e w13 ⟨rfl, hb⟩; refine ⟨_, rfl, ?_⟩; have n0_ := Aside0.mk (below_step (by repeat (first | (with_reducible first | exact HB.out | apply below_alloc | apply pw_below_drewN | apply below_drew1) | exact HB.out)) hb); clear HB; have HB := n0_; clear n0_; (try clear hb); (try clear hb2); (try clear hk); (try clear hi)))
          go_loopg [6] k (fun kq v6 w' => ∃ (x6_1 : Int), v6 = .int .i64 x6_1 ∧ Aside0 (relayref02_clockText.l0 kq ((((t175 ++ (⟨#[58]⟩ : ByteArray)) ++ t176) ++ (⟨#[58]⟩ : ByteArray)) ++ t177) t178 x6_1 = some r) ∧ Aside0 (kq ≤ k) ∧ Aside0 (Below w.heap.size w w'))
          case atStart => exact ⟨(9), (by first | rfl | (simp; done) | (simp [*]; done) | (simp [*, bne]; done)), H', ⟨Nat.le_refl _⟩, ⟨by repeat (first | (with_reducible first | exact HB.out | apply below_alloc | apply pw_below_drewN | apply below_drew1) | exact HB.out)⟩⟩
          case round =>
            clear H'
            try clear c1
            try clear c2
            try clear p2
            try clear c3
            try clear c3b0
            try clear c3b1
            try clear c3b2
            try clear c5
            try clear c5b0
            try clear c5b1
            try clear c5b2
            try clear c6
            try clear c6b0
            try clear c6b1
            try clear c6b2
            try clear p6
            try clear c8
            try clear c8b0
            try clear c8b1
            try clear c8b2
            try clear c13
            obtain ⟨x6_1, rfl, HA, HK1, HB⟩ := hrel
            cases gk with
            | zero => exact absurd HA.out (by simp [relayref02_clockText.l0])
            | succ k1 =>
              have H := HA.out
              clear HA
              simp only [relayref02_clockText.l0] at H
              by_cases c14 : x6_1 > 0
              · rw [if_pos c14] at H
                have c14b0 : decide (0 < x6_1) = true := decide_eq_true c14
                clear c14
                obtain ⟨ji15, hji15⟩ : ∃ j_ : Int, (wrap64 (x6_1 - 1)) = j_ := ⟨_, rfl⟩
                replace H : (if 0 ≤ (ji15) then (if (ji15) < (t178.size : Int) then (if (bt t178 (ji15)) = 48 then (relayref02_clockText.l0 k1 ((((t175 ++ (⟨#[58]⟩ : ByteArray)) ++ t176) ++ (⟨#[58]⟩ : ByteArray)) ++ t177) t178 ji15) else (if x6_1 = 0 then (some ((((t175 ++ (⟨#[58]⟩ : ByteArray)) ++ t176) ++ (⟨#[58]⟩ : ByteArray)) ++ t177)) else (if ((((t175 ++ (⟨#[58]⟩ : ByteArray)) ++ t176) ++ (⟨#[58]⟩ : ByteArray)) ++ t177).size + 1 ≤ 9223372036854775807 then (if 0 ≤ x6_1 then (if x6_1 ≤ (t178.size : Int) then (if (((((t175 ++ (⟨#[58]⟩ : ByteArray)) ++ t176) ++ (⟨#[58]⟩ : ByteArray)) ++ t177) ++ (⟨#[46]⟩ : ByteArray)).size + (t178.extract 0 (x6_1 : Int).toNat).size ≤ 9223372036854775807 then (some ((((((t175 ++ (⟨#[58]⟩ : ByteArray)) ++ t176) ++ (⟨#[58]⟩ : ByteArray)) ++ t177) ++ (⟨#[46]⟩ : ByteArray)) ++ (t178.extract 0 (x6_1 : Int).toNat))) else (none)) else (none)) else (none)) else (none)))) else (none)) else (none)) = some r := by first | (rw [hji15] at H; exact H) | (simp only [hji15] at H ⊢; exact H)
                have hji15w : (IntKind.i64.wrap (x6_1 - 1)) = ji15 := (i64_w _).trans hji15
                by_cases c16 : 0 ≤ (ji15)
                · rw [if_pos c16] at H
                  have c16b0 : decide (0 ≤ (ji15)) = true := decide_eq_true c16
                  clear c16
                  by_cases c17 : (ji15) < (t178.size : Int)
                  · rw [if_pos c17] at H
                    have c17b0 : decide ((ji15) < (t178.size : Int)) = true := decide_eq_true c17
                    clear c17
                    by_cases c19 : (bt t178 (ji15)) = 48
                    · rw [if_pos c19] at H
                      have c19b0 : ((bt t178 (ji15)) == 48) = true := beq_iff_eq.mpr c19
                      have c19b1 : ((bt t178 (ji15)) != 48) = false := bne_eq_false_iff_eq.mpr c19
                      clear c19
                      have H' := Aside0.mk H
                      clear H
                      have p18 : 0 ≤ ((ji15) : Int) := of_decide_eq_true (by first | (with_reducible assumption) | assumption)
                      have q18 : (ji15) < (t178.size : Int) := of_decide_eq_true (by first | (with_reducible assumption) | assumption)
                      have hx18 := bt_at t178 (ji15)
                      replace p18 := eq_true p18
                      replace q18 := eq_true q18
                      go_wp2
                      go_roundg k1
                      case measure => have := HK1.out; omega
                      case rel => exact ⟨(ji15), (by first | rfl | (simp; done) | (simp only [← hji15] <;> (first | rfl | simp)) | (simp [*]; done)), H', ⟨by have := HK1.out; omega⟩, ⟨by repeat (first | (with_reducible first | exact HB.out | apply below_alloc | apply pw_below_drewN | apply below_drew1) | exact HB.out)⟩⟩
                    · rw [if_neg c19] at H
                      have c19b0 : ((bt t178 (ji15)) == 48) = false := beq_eq_false_iff_ne.mpr c19
                      have c19b1 : ((bt t178 (ji15)) != 48) = true := bne_iff_ne.mpr c19
                      by_cases c20 : x6_1 = 0
                      · rw [if_pos c20] at H
                        have c20b0 : (x6_1 == 0) = true := beq_iff_eq.mpr c20
                        have c20b1 : (x6_1 != 0) = false := bne_eq_false_iff_eq.mpr c20
                        clear c20
                        obtain rfl := Option.some.inj H
                        have p18 : 0 ≤ ((ji15) : Int) := of_decide_eq_true (by first | (with_reducible assumption) | assumption)
                        have q18 : (ji15) < (t178.size : Int) := of_decide_eq_true (by first | (with_reducible assumption) | assumption)
                        have hx18 := bt_at t178 (ji15)
                        replace p18 := eq_true p18
                        replace q18 := eq_true q18
                        go_wp2
                        go_ret
                        exact ⟨by first | rfl | (simp [errW_none, errW_some] <;> rfl) | (simp only [← hji15]; first | rfl | (simp [errW_none, errW_some] <;> rfl)) | (simp [*, errW_none, errW_some] <;> rfl), by repeat (first | (with_reducible first | exact HB.out | apply below_alloc | apply pw_below_drewN | apply below_drew1) | exact HB.out)⟩
                      · rw [if_neg c20] at H
                        have c20b0 : (x6_1 == 0) = false := beq_eq_false_iff_ne.mpr c20
                        have c20b1 : (x6_1 != 0) = true := bne_iff_ne.mpr c20
                        by_cases c21 : ((((t175 ++ (⟨#[58]⟩ : ByteArray)) ++ t176) ++ (⟨#[58]⟩ : ByteArray)) ++ t177).size + 1 ≤ 9223372036854775807
                        · rw [if_pos c21] at H
                          have c21b0 := eq_true c21
                          have c21b1 : decide (((((t175 ++ (⟨#[58]⟩ : ByteArray)) ++ t176) ++ (⟨#[58]⟩ : ByteArray)) ++ t177).size + 1 ≤ 9223372036854775807) = true := decide_eq_true c21
                          try have c21b2 : (9223372036854775807 < ((((t175 ++ (⟨#[58]⟩ : ByteArray)) ++ t176) ++ (⟨#[58]⟩ : ByteArray)) ++ t177).size + 1) = False := eq_false (Nat.not_lt.2 c21)
                          try (have c21b2n := c21b2; simp only [ByteArray.size_append, size_mk, List.size_toArray, List.length_cons, List.length_nil, Nat.zero_add, Nat.reduceAdd] at c21b2n)
                          by_cases c22 : 0 ≤ x6_1
                          · rw [if_pos c22] at H
                            have c22b0 := eq_true c22
                            have c22b1 : decide (0 ≤ x6_1) = true := decide_eq_true c22
                            clear c22
                            by_cases c23 : x6_1 ≤ (t178.size : Int)
                            · rw [if_pos c23] at H
                              have c23b0 := eq_true c23
                              have c23b1 : decide (x6_1 ≤ (t178.size : Int)) = true := decide_eq_true c23
                              clear c23
                              by_cases c24 : (((((t175 ++ (⟨#[58]⟩ : ByteArray)) ++ t176) ++ (⟨#[58]⟩ : ByteArray)) ++ t177) ++ (⟨#[46]⟩ : ByteArray)).size + (t178.extract 0 (x6_1 : Int).toNat).size ≤ 9223372036854775807
                              · rw [if_pos c24] at H
                                have c24b0 := eq_true c24
                                have c24b1 : decide ((((((t175 ++ (⟨#[58]⟩ : ByteArray)) ++ t176) ++ (⟨#[58]⟩ : ByteArray)) ++ t177) ++ (⟨#[46]⟩ : ByteArray)).size + (t178.extract 0 (x6_1 : Int).toNat).size ≤ 9223372036854775807) = true := decide_eq_true c24
                                try have c24b2 : (9223372036854775807 < (((((t175 ++ (⟨#[58]⟩ : ByteArray)) ++ t176) ++ (⟨#[58]⟩ : ByteArray)) ++ t177) ++ (⟨#[46]⟩ : ByteArray)).size + (t178.extract 0 (x6_1 : Int).toNat).size) = False := eq_false (Nat.not_lt.2 c24)
                                try (have c24b2n := c24b2; simp only [ByteArray.size_append, size_mk, List.size_toArray, List.length_cons, List.length_nil, Nat.zero_add, Nat.reduceAdd] at c24b2n)
                                obtain rfl := Option.some.inj H
                                have p18 : 0 ≤ ((ji15) : Int) := of_decide_eq_true (by first | (with_reducible assumption) | assumption)
                                have q18 : (ji15) < (t178.size : Int) := of_decide_eq_true (by first | (with_reducible assumption) | assumption)
                                have hx18 := bt_at t178 (ji15)
                                replace p18 := eq_true p18
                                replace q18 := eq_true q18
                                go_wp2
                                go_ret
                                exact ⟨by first | rfl | (simp [errW_none, errW_some] <;> rfl) | (simp only [← hji15]; first | rfl | (simp [errW_none, errW_some] <;> rfl)) | (simp [*, errW_none, errW_some] <;> rfl), by repeat (first | (with_reducible first | exact HB.out | apply below_alloc | apply pw_below_drewN | apply below_drew1) | exact HB.out)⟩
                              · rw [if_neg c24] at H
                                exact absurd H (by simp)
                            · rw [if_neg c23] at H
                              exact absurd H (by simp)
                          · rw [if_neg c22] at H
                            exact absurd H (by simp)
                        · rw [if_neg c21] at H
                          exact absurd H (by simp)
                  · rw [if_neg c17] at H
                    exact absurd H (by simp)
                · rw [if_neg c16] at H
                  exact absurd H (by simp)
              · rw [if_neg c14] at H
                have c14b0 : decide (0 < x6_1) = false := decide_eq_false c14
                clear c14
                by_cases c25 : x6_1 = 0
                · rw [if_pos c25] at H
                  have c25b0 : (x6_1 == 0) = true := beq_iff_eq.mpr c25
                  have c25b1 : (x6_1 != 0) = false := bne_eq_false_iff_eq.mpr c25
                  clear c25
                  obtain rfl := Option.some.inj H
                  go_wp2
                  go_ret
                  exact ⟨by first | rfl | (simp [errW_none, errW_some] <;> rfl) | (simp [*, errW_none, errW_some] <;> rfl), by repeat (first | (with_reducible first | exact HB.out | apply below_alloc | apply pw_below_drewN | apply below_drew1) | exact HB.out)⟩
                · rw [if_neg c25] at H
                  have c25b0 : (x6_1 == 0) = false := beq_eq_false_iff_ne.mpr c25
                  have c25b1 : (x6_1 != 0) = true := bne_iff_ne.mpr c25
                  by_cases c26 : ((((t175 ++ (⟨#[58]⟩ : ByteArray)) ++ t176) ++ (⟨#[58]⟩ : ByteArray)) ++ t177).size + 1 ≤ 9223372036854775807
                  · rw [if_pos c26] at H
                    have c26b0 := eq_true c26
                    have c26b1 : decide (((((t175 ++ (⟨#[58]⟩ : ByteArray)) ++ t176) ++ (⟨#[58]⟩ : ByteArray)) ++ t177).size + 1 ≤ 9223372036854775807) = true := decide_eq_true c26
                    try have c26b2 : (9223372036854775807 < ((((t175 ++ (⟨#[58]⟩ : ByteArray)) ++ t176) ++ (⟨#[58]⟩ : ByteArray)) ++ t177).size + 1) = False := eq_false (Nat.not_lt.2 c26)
                    try (have c26b2n := c26b2; simp only [ByteArray.size_append, size_mk, List.size_toArray, List.length_cons, List.length_nil, Nat.zero_add, Nat.reduceAdd] at c26b2n)
                    by_cases c27 : 0 ≤ x6_1
                    · rw [if_pos c27] at H
                      have c27b0 := eq_true c27
                      have c27b1 : decide (0 ≤ x6_1) = true := decide_eq_true c27
                      clear c27
                      by_cases c28 : x6_1 ≤ (t178.size : Int)
                      · rw [if_pos c28] at H
                        have c28b0 := eq_true c28
                        have c28b1 : decide (x6_1 ≤ (t178.size : Int)) = true := decide_eq_true c28
                        clear c28
                        by_cases c29 : (((((t175 ++ (⟨#[58]⟩ : ByteArray)) ++ t176) ++ (⟨#[58]⟩ : ByteArray)) ++ t177) ++ (⟨#[46]⟩ : ByteArray)).size + (t178.extract 0 (x6_1 : Int).toNat).size ≤ 9223372036854775807
                        · rw [if_pos c29] at H
                          have c29b0 := eq_true c29
                          have c29b1 : decide ((((((t175 ++ (⟨#[58]⟩ : ByteArray)) ++ t176) ++ (⟨#[58]⟩ : ByteArray)) ++ t177) ++ (⟨#[46]⟩ : ByteArray)).size + (t178.extract 0 (x6_1 : Int).toNat).size ≤ 9223372036854775807) = true := decide_eq_true c29
                          try have c29b2 : (9223372036854775807 < (((((t175 ++ (⟨#[58]⟩ : ByteArray)) ++ t176) ++ (⟨#[58]⟩ : ByteArray)) ++ t177) ++ (⟨#[46]⟩ : ByteArray)).size + (t178.extract 0 (x6_1 : Int).toNat).size) = False := eq_false (Nat.not_lt.2 c29)
                          try (have c29b2n := c29b2; simp only [ByteArray.size_append, size_mk, List.size_toArray, List.length_cons, List.length_nil, Nat.zero_add, Nat.reduceAdd] at c29b2n)
                          obtain rfl := Option.some.inj H
                          go_wp2
                          go_ret
                          exact ⟨by first | rfl | (simp [errW_none, errW_some] <;> rfl) | (simp [*, errW_none, errW_some] <;> rfl), by repeat (first | (with_reducible first | exact HB.out | apply below_alloc | apply pw_below_drewN | apply below_drew1) | exact HB.out)⟩
                        · rw [if_neg c29] at H
                          exact absurd H (by simp)
                      · rw [if_neg c28] at H
                        exact absurd H (by simp)
                    · rw [if_neg c27] at H
                      exact absurd H (by simp)
                  · rw [if_neg c26] at H
                    exact absurd H (by simp)
        · rw [if_neg c8] at H
          exact absurd H (by simp)
      · rw [if_neg c6] at H
        exact absurd H (by simp)
    · rw [if_neg c5] at H
      exact absurd H (by simp)
  · rw [if_neg c3] at H
    exact absurd H (by simp)

end Go.Proofs.YteoehlcjllbhfaaDoor.XPrints
