-- WRITTEN BY wip/tools/xprint.py out of the translation: the kit's print with this work's hooks.
import Derived.Test.YteoehlcjllbhfaaGreatDoorXBackx0
import Derived.Test.YteoehlcjllbhfaaGreatDoorXBackx2
import Derived.Test.YteoehlcjllbhfaaGreatDoorXBackx3
import Derived.Test.YteoehlcjllbhfaaGreatDoorXBackx4
namespace Go.Proofs.YteoehlcjllbhfaaGreatDoor.XBack
open Go.RowKit Go.Proofs.YteoehlcjllbhfaaGreatDoorW.PrintWords Go.Proofs.YteoehlcjllbhfaaGreatDoorW.PrintLast Go.Proofs.YteoehlcjllbhfaaGreatDoorW.PrintMore
attribute [local go_sem] max2_int min2_int max_two min_two max_three min_three max_four min_four   -- for this text's walks alone
set_option linter.unusedVariables false
set_option linter.unusedSimpArgs false

/-! ### times_span: function 18 -/
mutual
def times_span.l0 : Nat → ByteArray → Bool → Int → Int → Bool → Option (Int × Bool)
  | 0, _, _, _, _, _ => none
  | k + 1, x0, x4, x5, x6, x7 => if x7 = true then (times_span.j1 k x0 x4 x5 x6 x7 true) else (times_span.j1 k x0 x4 x5 x6 x7 (x0.toList != ([] : List UInt8)))
def times_span.j1 : Nat → ByteArray → Bool → Int → Int → Bool → Bool → Option (Int × Bool)
  | 0, _, _, _, _, _, _ => none
  | k + 1, x0, x4, x5, x6, x7, x28 => if x28 = true then (if x7 = true then (times_span.j2 k x0 x4 x5 x6 x7) else ((strings_TrimPrefix.f x0 (⟨#[95]⟩ : ByteArray)).bind fun t126 => (times_span.j2 k t126 x4 x5 x6 x7))) else (if x4 = true then (some (wrap64 (-x5), true)) else (some (x5, true)))
def times_span.j2 : Nat → ByteArray → Bool → Int → Int → Bool → Option (Int × Bool)
  | 0, _, _, _, _, _ => none
  | k + 1, x0, x4, x5, x6, x7 => (times_digits.f k x0).bind fun bt127 => ((times_whole.f bt127.1).bind fun bt129 => (if bt129.2 = true then ((strings_HasPrefix.f bt127.2 (⟨#[46]⟩ : ByteArray)).bind fun t131 => (if t131 = true then (if 1 ≤ (bt127.2.size : Int) then ((times_digits.f k (bt127.2.extract 1 bt127.2.size)).bind fun bt132 => (times_span.j3 k x4 x5 x6 x7 bt132.2 bt129.1 bt132.1 t131)) else (none)) else (times_span.j3 k x4 x5 x6 x7 bt127.2 bt129.1 (⟨#[]⟩ : ByteArray) t131))) else (some (0, false))))
def times_span.j3 : Nat → Bool → Int → Int → Bool → ByteArray → Int → ByteArray → Bool → Option (Int × Bool)
  | 0, _, _, _, _, _, _, _, _ => none
  | k + 1, x4, x5, x6, x7, x9, x10, x12, x13 => (times_unit.f k x9).bind fun bt134 => (if bt134.2.2.2 = true then (if bt134.1 ≤ x6 then (times_span.j4 k x4 x5 bt134.2.2.1 x10 x12 bt134.1 bt134.2.1 true) else (if x7 = true then (if x13 = true then (if x12.toList = ([] : List UInt8) then (times_span.j4 k x4 x5 bt134.2.2.1 x10 x12 bt134.1 bt134.2.1 true) else (times_span.j4 k x4 x5 bt134.2.2.1 x10 x12 bt134.1 bt134.2.1 (bt134.2.2.1.toList != ([] : List UInt8)))) else (times_span.j4 k x4 x5 bt134.2.2.1 x10 x12 bt134.1 bt134.2.1 false)) else ((times_most.f bt134.1).bind fun t138 => (if x10 ≥ t138 then (times_span.j4 k x4 x5 bt134.2.2.1 x10 x12 bt134.1 bt134.2.1 true) else (if x13 = true then (if x12.toList = ([] : List UInt8) then (times_span.j4 k x4 x5 bt134.2.2.1 x10 x12 bt134.1 bt134.2.1 true) else (times_span.j4 k x4 x5 bt134.2.2.1 x10 x12 bt134.1 bt134.2.1 (bt134.2.2.1.toList != ([] : List UInt8)))) else (times_span.j4 k x4 x5 bt134.2.2.1 x10 x12 bt134.1 bt134.2.1 false)))))) else (times_span.j4 k x4 x5 bt134.2.2.1 x10 x12 bt134.1 bt134.2.1 true))
def times_span.j4 : Nat → Bool → Int → ByteArray → Int → ByteArray → Int → Int → Bool → Option (Int × Bool)
  | 0, _, _, _, _, _, _, _, _ => none
  | k + 1, x4, x5, x9, x10, x12, x14, x15, x88 => if x88 = true then (some (0, false)) else ((times_exact.f k x12 x15).bind fun bt139 => (if bt139.2 = true then (if x15 = 0 then (none) else (if x10 > (wrap64 (Int.tdiv (wrap64 ((wrap64 (9223372036854775807 - x5)) - bt139.1)) x15)) then (some (0, false)) else (times_span.l0 k x9 x4 (wrap64 (x5 + (wrap64 ((wrap64 (x10 * x15)) + bt139.1)))) x14 false))) else (some (0, false))))
end
def times_span.f (k : Nat) (a0 : ByteArray) : Option (Int × Bool) := (strings_ToLower.f a0).bind fun t123 => ((strings_CutPrefix.f t123 (⟨#[45]⟩ : ByteArray)).bind fun bt124 => (times_span.l0 k bt124.1 bt124.2 0 (-1) true))
theorem times_span.mono_l : ∀ k, (∀ y0 y1 y2 y3 y4, LeO (times_span.l0 k y0 y1 y2 y3 y4) (times_span.l0 (k + 1) y0 y1 y2 y3 y4)) ∧ (∀ y0 y1 y2 y3 y4 y5, LeO (times_span.j1 k y0 y1 y2 y3 y4 y5) (times_span.j1 (k + 1) y0 y1 y2 y3 y4 y5)) ∧ (∀ y0 y1 y2 y3 y4, LeO (times_span.j2 k y0 y1 y2 y3 y4) (times_span.j2 (k + 1) y0 y1 y2 y3 y4)) ∧ (∀ y0 y1 y2 y3 y4 y5 y6 y7, LeO (times_span.j3 k y0 y1 y2 y3 y4 y5 y6 y7) (times_span.j3 (k + 1) y0 y1 y2 y3 y4 y5 y6 y7)) ∧ (∀ y0 y1 y2 y3 y4 y5 y6 y7, LeO (times_span.j4 k y0 y1 y2 y3 y4 y5 y6 y7) (times_span.j4 (k + 1) y0 y1 y2 y3 y4 y5 y6 y7))
  | 0 => ⟨fun _ _ _ _ _ r h => by simp [times_span.l0] at h, fun _ _ _ _ _ _ r h => by simp [times_span.j1] at h, fun _ _ _ _ _ r h => by simp [times_span.j2] at h, fun _ _ _ _ _ _ _ _ r h => by simp [times_span.j3] at h, fun _ _ _ _ _ _ _ _ r h => by simp [times_span.j4] at h⟩
  | k + 1 => by
    obtain ⟨ih0, ih1, ih2, ih3, ih4⟩ := times_span.mono_l k
    refine ⟨?_, ?_, ?_, ?_, ?_⟩
    · intro y0 y1 y2 y3 y4
      unfold times_span.l0
      repeat' first
      | (with_reducible exact ih0 _ _ _ _ _)
      | (with_reducible exact ih1 _ _ _ _ _ _)
      | (with_reducible exact ih2 _ _ _ _ _)
      | (with_reducible exact ih3 _ _ _ _ _ _ _ _)
      | (with_reducible exact ih4 _ _ _ _ _ _ _ _)
      | (with_reducible exact times_digits.mono _ _)
      | (with_reducible exact times_exact.mono _ _ _)
      | (with_reducible exact times_unit.mono _ _)
      | (with_reducible exact LeO.refl _)
      | (with_reducible exact LeO.none _)
      | (with_reducible refine LeO.ite ?_ ?_)
      | (with_reducible refine LeO.bind ?_ (fun _ => ?_))
      | exact ih0 _ _ _ _ _
      | exact ih1 _ _ _ _ _ _
      | exact ih2 _ _ _ _ _
      | exact ih3 _ _ _ _ _ _ _ _
      | exact ih4 _ _ _ _ _ _ _ _
      | exact times_digits.mono _ _
      | exact times_exact.mono _ _ _
      | exact times_unit.mono _ _
      | exact LeO.none _
      | refine LeO.ite ?_ ?_
      | refine LeO.bind ?_ (fun _ => ?_)
    · intro y0 y1 y2 y3 y4 y5
      unfold times_span.j1
      repeat' first
      | (with_reducible exact ih0 _ _ _ _ _)
      | (with_reducible exact ih1 _ _ _ _ _ _)
      | (with_reducible exact ih2 _ _ _ _ _)
      | (with_reducible exact ih3 _ _ _ _ _ _ _ _)
      | (with_reducible exact ih4 _ _ _ _ _ _ _ _)
      | (with_reducible exact times_digits.mono _ _)
      | (with_reducible exact times_exact.mono _ _ _)
      | (with_reducible exact times_unit.mono _ _)
      | (with_reducible exact LeO.refl _)
      | (with_reducible exact LeO.none _)
      | (with_reducible refine LeO.ite ?_ ?_)
      | (with_reducible refine LeO.bind ?_ (fun _ => ?_))
      | exact ih0 _ _ _ _ _
      | exact ih1 _ _ _ _ _ _
      | exact ih2 _ _ _ _ _
      | exact ih3 _ _ _ _ _ _ _ _
      | exact ih4 _ _ _ _ _ _ _ _
      | exact times_digits.mono _ _
      | exact times_exact.mono _ _ _
      | exact times_unit.mono _ _
      | exact LeO.none _
      | refine LeO.ite ?_ ?_
      | refine LeO.bind ?_ (fun _ => ?_)
    · intro y0 y1 y2 y3 y4
      unfold times_span.j2
      repeat' first
      | (with_reducible exact ih0 _ _ _ _ _)
      | (with_reducible exact ih1 _ _ _ _ _ _)
      | (with_reducible exact ih2 _ _ _ _ _)
      | (with_reducible exact ih3 _ _ _ _ _ _ _ _)
      | (with_reducible exact ih4 _ _ _ _ _ _ _ _)
      | (with_reducible exact times_digits.mono _ _)
      | (with_reducible exact times_exact.mono _ _ _)
      | (with_reducible exact times_unit.mono _ _)
      | (with_reducible exact LeO.refl _)
      | (with_reducible exact LeO.none _)
      | (with_reducible refine LeO.ite ?_ ?_)
      | (with_reducible refine LeO.bind ?_ (fun _ => ?_))
      | exact ih0 _ _ _ _ _
      | exact ih1 _ _ _ _ _ _
      | exact ih2 _ _ _ _ _
      | exact ih3 _ _ _ _ _ _ _ _
      | exact ih4 _ _ _ _ _ _ _ _
      | exact times_digits.mono _ _
      | exact times_exact.mono _ _ _
      | exact times_unit.mono _ _
      | exact LeO.none _
      | refine LeO.ite ?_ ?_
      | refine LeO.bind ?_ (fun _ => ?_)
    · intro y0 y1 y2 y3 y4 y5 y6 y7
      unfold times_span.j3
      repeat' first
      | (with_reducible exact ih0 _ _ _ _ _)
      | (with_reducible exact ih1 _ _ _ _ _ _)
      | (with_reducible exact ih2 _ _ _ _ _)
      | (with_reducible exact ih3 _ _ _ _ _ _ _ _)
      | (with_reducible exact ih4 _ _ _ _ _ _ _ _)
      | (with_reducible exact times_digits.mono _ _)
      | (with_reducible exact times_exact.mono _ _ _)
      | (with_reducible exact times_unit.mono _ _)
      | (with_reducible exact LeO.refl _)
      | (with_reducible exact LeO.none _)
      | (with_reducible refine LeO.ite ?_ ?_)
      | (with_reducible refine LeO.bind ?_ (fun _ => ?_))
      | exact ih0 _ _ _ _ _
      | exact ih1 _ _ _ _ _ _
      | exact ih2 _ _ _ _ _
      | exact ih3 _ _ _ _ _ _ _ _
      | exact ih4 _ _ _ _ _ _ _ _
      | exact times_digits.mono _ _
      | exact times_exact.mono _ _ _
      | exact times_unit.mono _ _
      | exact LeO.none _
      | refine LeO.ite ?_ ?_
      | refine LeO.bind ?_ (fun _ => ?_)
    · intro y0 y1 y2 y3 y4 y5 y6 y7
      unfold times_span.j4
      repeat' first
      | (with_reducible exact ih0 _ _ _ _ _)
      | (with_reducible exact ih1 _ _ _ _ _ _)
      | (with_reducible exact ih2 _ _ _ _ _)
      | (with_reducible exact ih3 _ _ _ _ _ _ _ _)
      | (with_reducible exact ih4 _ _ _ _ _ _ _ _)
      | (with_reducible exact times_digits.mono _ _)
      | (with_reducible exact times_exact.mono _ _ _)
      | (with_reducible exact times_unit.mono _ _)
      | (with_reducible exact LeO.refl _)
      | (with_reducible exact LeO.none _)
      | (with_reducible refine LeO.ite ?_ ?_)
      | (with_reducible refine LeO.bind ?_ (fun _ => ?_))
      | exact ih0 _ _ _ _ _
      | exact ih1 _ _ _ _ _ _
      | exact ih2 _ _ _ _ _
      | exact ih3 _ _ _ _ _ _ _ _
      | exact ih4 _ _ _ _ _ _ _ _
      | exact times_digits.mono _ _
      | exact times_exact.mono _ _ _
      | exact times_unit.mono _ _
      | exact LeO.none _
      | refine LeO.ite ?_ ?_
      | refine LeO.bind ?_ (fun _ => ?_)
theorem times_span.mono : ∀ a0 k, LeO (times_span.f k a0) (times_span.f (k + 1) a0) := by
  intro a0 k
  obtain ⟨ih0, ih1, ih2, ih3, ih4⟩ := times_span.mono_l k
  unfold times_span.f
  repeat' first
      | (with_reducible exact ih0 _ _ _ _ _)
      | (with_reducible exact ih1 _ _ _ _ _ _)
      | (with_reducible exact ih2 _ _ _ _ _)
      | (with_reducible exact ih3 _ _ _ _ _ _ _ _)
      | (with_reducible exact ih4 _ _ _ _ _ _ _ _)
      | (with_reducible exact times_digits.mono _ _)
      | (with_reducible exact times_exact.mono _ _ _)
      | (with_reducible exact times_unit.mono _ _)
      | (with_reducible exact LeO.refl _)
      | (with_reducible exact LeO.none _)
      | (with_reducible refine LeO.ite ?_ ?_)
      | (with_reducible refine LeO.bind ?_ (fun _ => ?_))
      | exact ih0 _ _ _ _ _
      | exact ih1 _ _ _ _ _ _
      | exact ih2 _ _ _ _ _
      | exact ih3 _ _ _ _ _ _ _ _
      | exact ih4 _ _ _ _ _ _ _ _
      | exact times_digits.mono _ _
      | exact times_exact.mono _ _ _
      | exact times_unit.mono _ _
      | exact LeO.none _
      | refine LeO.ite ?_ ?_
      | refine LeO.bind ?_ (fun _ => ?_)
set_option maxHeartbeats 8000000 in
set_option maxRecDepth 100000 in
theorem times_span.calls (k : Nat) (a0 : ByteArray) (r1 : Int) (r2 : Bool) (w : World) (hL : LaidW w) (h : times_span.f k a0 = some (r1, r2)) :
    Calls Tryz.prog 18 #[.string a0] w fun e w' => e = .returned (.tuple #[.int .i64 r1, .bool r2]) ∧ Below w.heap.size w w' := by
  have HLaid := Aside0.mk hL
  clear hL
  have HB := Aside0.mk (Below.refl w.heap.size w)
  have H : ((strings_ToLower.f a0).bind fun t123 => ((strings_CutPrefix.f t123 (⟨#[45]⟩ : ByteArray)).bind fun bt124 => (times_span.l0 k bt124.1 bt124.2 0 (-1) true))) = some (r1, r2) := h
  clear h
  replace H := Option.bind_eq_some_iff.mp H
  obtain ⟨t123, A20, H⟩ := H
  replace H : ((strings_CutPrefix.f t123 (⟨#[45]⟩ : ByteArray)).bind fun bt124 => (times_span.l0 k bt124.1 bt124.2 0 (-1) true)) = some (r1, r2) := H
  have A2 := Aside0.mk A20
  clear A20
  replace H := Option.bind_eq_some_iff.mp H
  obtain ⟨⟨t124, t125⟩, A30, H⟩ := H
  replace H : (times_span.l0 k t124 t125 0 (-1) true) = some (r1, r2) := H
  have A3 := Aside0.mk A30
  clear A30
  have H' := Aside0.mk H
  clear H
  go_enter Tryz.func18, Tryz.ntmps18
  go_wp2_with (first | ((with_reducible refine gate_callee (f := 31) rfl ?_); refine goesL_ (some 18) rfl rfl Tryz.func31 (by kernel_rfl) rfl #[.string a0] rfl (by (try simp only [List.map_toArray, List.map_cons, List.map_nil]); first | done | rfl | (simp only [List.length_drop, List.length_take]; rfl)) ?_; (with_reducible refine (strings_ToLower.calls a0 t123 _ ?side1 A2.out).mono ?_); (case side1 => first | exact HLaid.out | (refine LaidW.below HLaid.out ?_; repeat (first | (with_reducible first | exact HB.out | apply below_alloc | apply pw_below_drewN | apply below_drew1) | exact HB.out))); rintro e w4 ⟨rfl, hb⟩; refine ⟨_, rfl, ?_⟩; have n0_ := Aside0.mk (below_step (by repeat (first | (with_reducible first | exact HB.out | apply below_alloc | apply pw_below_drewN | apply below_drew1) | exact HB.out)) hb); clear HB; have HB := n0_; clear n0_; (try clear hb); (try clear hb2); (try clear hk); (try clear hi)) | ((with_reducible refine gate_callee (f := 32) rfl ?_); refine goesL_ (some 21) rfl rfl Tryz.func32 (by kernel_rfl) rfl #[.string t123, .string (⟨#[45]⟩ : ByteArray)] rfl (by (try simp only [List.map_toArray, List.map_cons, List.map_nil]); first | done | rfl | (simp only [List.length_drop, List.length_take]; rfl)) ?_; (with_reducible refine (strings_CutPrefix.calls t123 (⟨#[45]⟩ : ByteArray) t124 t125 _ ?side1 A3.out).mono ?_); (case side1 => first | exact HLaid.out | (refine LaidW.below HLaid.out ?_; repeat (first | (with_reducible first | exact HB.out | apply below_alloc | apply pw_below_drewN | apply below_drew1) | exact HB.out))); rintro e w' ⟨rfl, ⟨nd, rfl⟩⟩; refine ⟨_, rfl, ?_⟩))
  go_loopg [0, 5, 6, 7] k (fun kq v0 v5 v6 v7 w' => ∃ (x0_1 : ByteArray) (x5_1 : Int) (x6_1 : Int) (x7_1 : Bool), v0 = .string x0_1 ∧ v5 = .int .i64 x5_1 ∧ v6 = .int .i64 x6_1 ∧ v7 = .bool x7_1 ∧ Aside0 (times_span.l0 kq x0_1 t125 x5_1 x6_1 x7_1 = some (r1, r2)) ∧ Aside0 (kq ≤ k) ∧ Aside0 (Below w.heap.size w w'))
  case atStart => exact ⟨(t124), (0), ((-1)), (true), (by first | rfl | (simp; done) | (simp [*]; done) | (simp [*, bne]; done)), (by first | rfl | (simp; done) | (simp [*]; done) | (simp [*, bne]; done)), (by first | rfl | (simp; done) | (simp [*]; done) | (simp [*, bne]; done)), (by first | rfl | (simp; done) | (simp [*]; done) | (simp [*, bne]; done)), H', ⟨Nat.le_refl _⟩, ⟨by repeat (first | (with_reducible first | exact HB.out | apply below_alloc | apply pw_below_drewN | apply below_drew1) | exact HB.out)⟩⟩
  case round =>
    clear H'
    try clear c1
    try clear p2
    try clear c3
    obtain ⟨x0_1, x5_1, x6_1, x7_1, rfl, rfl, rfl, rfl, HA, HK1, HB⟩ := hrel
    cases gk with
    | zero => exact absurd HA.out (by simp [times_span.l0])
    | succ k1 =>
      have H := HA.out
      clear HA
      simp only [times_span.l0] at H
      have HC5 := Aside0.mk H
      clear H
      go_upto_region 4 with (fail)
      go_cut [28] (fun v28 wc => ∃ (kq : Nat) (x28_4 : Bool), v28 = .bool x28_4 ∧ Aside0 (times_span.j1 kq x0_1 t125 x5_1 x6_1 x7_1 x28_4 = some (r1, r2)) ∧ Aside0 (kq ≤ k1) ∧ Aside0 (Below w.heap.size w wc))
      case first =>
        have H := HC5.out
        clear HC5
        by_cases c6 : x7_1 = true
        · subst c6
          have H1 : (times_span.j1 k1 x0_1 t125 x5_1 x6_1 true true) = some (r1, r2) := by rw [if_pos rfl] at H; exact H
          clear H
          have H := H1
          clear H1
          have H' := Aside0.mk H
          clear H
          go_wp2
          go_meet
          case rel => exact ⟨_, (true), (by first | rfl | (simp; done) | (simp [*]; done) | (simp [*, bne]; done)), H', ⟨by have := HK1.out; first | omega | exact Nat.le_refl _⟩, ⟨by repeat (first | (with_reducible first | exact HB.out | apply below_alloc | apply pw_below_drewN | apply below_drew1) | exact HB.out)⟩⟩
        · replace c6 := Bool.eq_false_iff.mpr c6
          subst c6
          have H1 : (times_span.j1 k1 x0_1 t125 x5_1 x6_1 false (x0_1.toList != ([] : List UInt8))) = some (r1, r2) := by rw [if_neg (show ¬ (false = true) by decide)] at H; exact H
          clear H
          have H := H1
          clear H1
          have H' := Aside0.mk H
          clear H
          go_wp2
          go_meet
          case rel => exact ⟨_, ((x0_1.toList != ([] : List UInt8))), (by first | rfl | (simp; done) | (simp [*]; done) | (simp [*, bne]; done)), H', ⟨by have := HK1.out; first | omega | exact Nat.le_refl _⟩, ⟨by repeat (first | (with_reducible first | exact HB.out | apply below_alloc | apply pw_below_drewN | apply below_drew1) | exact HB.out)⟩⟩
      case rest =>
        clear HC5
        try clear c1
        try clear p2
        try clear c3
        try clear c6
        try clear p2
        obtain ⟨kq, x28_4, rfl, HA, HJ4, HB⟩ := hcut
        cases kq with
        | zero => exact absurd HA.out (by simp [times_span.j1])
        | succ kj4 =>
          have H := HA.out
          clear HA
          simp only [times_span.j1] at H
          by_cases c7 : x28_4 = true
          · subst c7
            have H1 : (if x7_1 = true then (times_span.j2 kj4 x0_1 t125 x5_1 x6_1 x7_1) else ((strings_TrimPrefix.f x0_1 (⟨#[95]⟩ : ByteArray)).bind fun t126 => (times_span.j2 kj4 t126 t125 x5_1 x6_1 x7_1))) = some (r1, r2) := by rw [if_pos rfl] at H; exact H
            clear H
            have H := H1
            clear H1
            have HC8 := Aside0.mk H
            clear H
            go_upto_if 30 with (fail)
            go_cut [0] (fun v0 wc => ∃ (kq : Nat) (x0_7 : ByteArray), v0 = .string x0_7 ∧ Aside0 (times_span.j2 kq x0_7 t125 x5_1 x6_1 x7_1 = some (r1, r2)) ∧ Aside0 (kq ≤ kj4) ∧ Aside0 (Below w.heap.size w wc))
            case first =>
              have H := HC8.out
              clear HC8
              by_cases c9 : x7_1 = true
              · subst c9
                have H1 : (times_span.j2 kj4 x0_1 t125 x5_1 x6_1 true) = some (r1, r2) := by rw [if_pos rfl] at H; exact H
                clear H
                have H := H1
                clear H1
                have H' := Aside0.mk H
                clear H
                go_wp2
                go_meet
                case rel => exact ⟨_, (x0_1), (by first | rfl | (simp; done) | (simp [*]; done) | (simp [*, bne]; done)), H', ⟨by have := HK1.out; have := HJ4.out; first | omega | exact Nat.le_refl _⟩, ⟨by repeat (first | (with_reducible first | exact HB.out | apply below_alloc | apply pw_below_drewN | apply below_drew1) | exact HB.out)⟩⟩
              · replace c9 := Bool.eq_false_iff.mpr c9
                subst c9
                have H1 : ((strings_TrimPrefix.f x0_1 (⟨#[95]⟩ : ByteArray)).bind fun t126 => (times_span.j2 kj4 t126 t125 x5_1 x6_1 false)) = some (r1, r2) := by rw [if_neg (show ¬ (false = true) by decide)] at H; exact H
                clear H
                have H := H1
                clear H1
                replace H := Option.bind_eq_some_iff.mp H
                obtain ⟨t126, A100, H⟩ := H
                replace H : (times_span.j2 kj4 t126 t125 x5_1 x6_1 false) = some (r1, r2) := H
                have A10 := Aside0.mk A100
                clear A100
                have H' := Aside0.mk H
                clear H
                go_wp2_with (first | ((with_reducible refine gate_callee (f := 33) rfl ?_); refine goesL_ (some 32) rfl rfl Tryz.func33 (by kernel_rfl) rfl #[.string x0_1, .string (⟨#[95]⟩ : ByteArray)] rfl (by (try simp only [List.map_toArray, List.map_cons, List.map_nil]); first | done | rfl | (simp only [List.length_drop, List.length_take]; rfl)) ?_; (with_reducible refine (strings_TrimPrefix.calls x0_1 (⟨#[95]⟩ : ByteArray) t126 _ ?side1 A10.out).mono ?_); (case side1 => first | exact HLaid.out | (refine LaidW.below HLaid.out ?_; repeat (first | (with_reducible first | exact HB.out | apply below_alloc | apply pw_below_drewN | apply below_drew1) | exact HB.out))); rintro e w' ⟨rfl, ⟨nd, rfl⟩⟩; refine ⟨_, rfl, ?_⟩))
                go_meet
                case rel => exact ⟨_, (t126), (by first | rfl | (simp; done) | (simp [*]; done) | (simp [*, bne]; done)), H', ⟨by have := HK1.out; have := HJ4.out; first | omega | exact Nat.le_refl _⟩, ⟨by repeat (first | (with_reducible first | exact HB.out | apply below_alloc | apply pw_below_drewN | apply below_drew1) | exact HB.out)⟩⟩
            case rest =>
              clear HC8
              try clear c1
              try clear p2
              try clear c3
              try clear c6
              try clear c7
              try clear c9
              try clear p2
              obtain ⟨kq, x0_7, rfl, HA, HJ7, HB⟩ := hcut
              cases kq with
              | zero => exact absurd HA.out (by simp [times_span.j2])
              | succ kj7 =>
                have H := HA.out
                clear HA
                simp only [times_span.j2] at H
                replace H := Option.bind_eq_some_iff.mp H
                obtain ⟨⟨t127, t128⟩, A110, H⟩ := H
                replace H : ((times_whole.f t127).bind fun bt129 => (if bt129.2 = true then ((strings_HasPrefix.f t128 (⟨#[46]⟩ : ByteArray)).bind fun t131 => (if t131 = true then (if 1 ≤ (t128.size : Int) then ((times_digits.f kj7 (t128.extract 1 t128.size)).bind fun bt132 => (times_span.j3 kj7 t125 x5_1 x6_1 x7_1 bt132.2 bt129.1 bt132.1 t131)) else (none)) else (times_span.j3 kj7 t125 x5_1 x6_1 x7_1 t128 bt129.1 (⟨#[]⟩ : ByteArray) t131))) else (some (0, false)))) = some (r1, r2) := H
                have A11 := Aside0.mk A110
                clear A110
                replace H := Option.bind_eq_some_iff.mp H
                obtain ⟨⟨t129, t130⟩, A120, H⟩ := H
                replace H : (if t130 = true then ((strings_HasPrefix.f t128 (⟨#[46]⟩ : ByteArray)).bind fun t131 => (if t131 = true then (if 1 ≤ (t128.size : Int) then ((times_digits.f kj7 (t128.extract 1 t128.size)).bind fun bt132 => (times_span.j3 kj7 t125 x5_1 x6_1 x7_1 bt132.2 t129 bt132.1 t131)) else (none)) else (times_span.j3 kj7 t125 x5_1 x6_1 x7_1 t128 t129 (⟨#[]⟩ : ByteArray) t131))) else (some (0, false))) = some (r1, r2) := H
                have A12 := Aside0.mk A120
                clear A120
                by_cases c13 : t130 = true
                · subst c13
                  have H1 : ((strings_HasPrefix.f t128 (⟨#[46]⟩ : ByteArray)).bind fun t131 => (if t131 = true then (if 1 ≤ (t128.size : Int) then ((times_digits.f kj7 (t128.extract 1 t128.size)).bind fun bt132 => (times_span.j3 kj7 t125 x5_1 x6_1 x7_1 bt132.2 t129 bt132.1 t131)) else (none)) else (times_span.j3 kj7 t125 x5_1 x6_1 x7_1 t128 t129 (⟨#[]⟩ : ByteArray) t131))) = some (r1, r2) := by rw [if_pos rfl] at H; exact H
                  clear H
                  have H := H1
                  clear H1
                  replace H := Option.bind_eq_some_iff.mp H
                  obtain ⟨t131, A140, H⟩ := H
                  replace H : (if t131 = true then (if 1 ≤ (t128.size : Int) then ((times_digits.f kj7 (t128.extract 1 t128.size)).bind fun bt132 => (times_span.j3 kj7 t125 x5_1 x6_1 x7_1 bt132.2 t129 bt132.1 t131)) else (none)) else (times_span.j3 kj7 t125 x5_1 x6_1 x7_1 t128 t129 (⟨#[]⟩ : ByteArray) t131)) = some (r1, r2) := H
                  have A14 := Aside0.mk A140
                  clear A140
                  have HC15 := Aside0.mk H
                  clear H
                  go_upto_if 47 with (first | ((with_reducible refine gate_callee (f := 34) rfl ?_); refine goesL_ (some 35) rfl rfl Tryz.func34 (by kernel_rfl) rfl #[.string x0_7] rfl (by (try simp only [List.map_toArray, List.map_cons, List.map_nil]); first | done | rfl | (simp only [List.length_drop, List.length_take]; rfl)) ?_; (with_reducible refine (times_digits.calls kj7 x0_7 t127 t128 _ ?side1 A11.out).mono ?_); (case side1 => first | exact HLaid.out | (refine LaidW.below HLaid.out ?_; repeat (first | (with_reducible first | exact HB.out | apply below_alloc | apply pw_below_drewN | apply below_drew1) | exact HB.out))); rintro e w' ⟨rfl, ⟨nd, rfl⟩⟩; refine ⟨_, rfl, ?_⟩) | ((with_reducible refine gate_callee (f := 35) rfl ?_); refine goesL_ (some 40) rfl rfl Tryz.func35 (by kernel_rfl) rfl #[.string t127] rfl (by (try simp only [List.map_toArray, List.map_cons, List.map_nil]); first | done | rfl | (simp only [List.length_drop, List.length_take]; rfl)) ?_; (with_reducible refine (times_whole.calls t127 t129 true _ ?side1 A12.out).mono ?_); (case side1 => first | exact HLaid.out | (refine LaidW.below HLaid.out ?_; repeat (first | (with_reducible first | exact HB.out | apply below_alloc | apply pw_below_drewN | apply below_drew1) | exact HB.out))); rintro e w16 ⟨rfl, hb⟩; refine ⟨_, rfl, ?_⟩; have n0_ := Aside0.mk (below_step (by repeat (first | (with_reducible first | exact HB.out | apply below_alloc | apply pw_below_drewN | apply below_drew1) | exact HB.out)) hb); clear HB; have HB := n0_; clear n0_; (try clear hb); (try clear hb2); (try clear hk); (try clear hi)) | ((with_reducible refine gate_callee (f := 21) rfl ?_); refine goesL_ (some 46) rfl rfl Tryz.func21 (by kernel_rfl) rfl #[.string t128, .string (⟨#[46]⟩ : ByteArray)] rfl (by (try simp only [List.map_toArray, List.map_cons, List.map_nil]); first | done | rfl | (simp only [List.length_drop, List.length_take]; rfl)) ?_; (with_reducible refine (strings_HasPrefix.calls t128 (⟨#[46]⟩ : ByteArray) t131 _ ?side1 A14.out).mono ?_); (case side1 => first | exact HLaid.out | (refine LaidW.below HLaid.out ?_; repeat (first | (with_reducible first | exact HB.out | apply below_alloc | apply pw_below_drewN | apply below_drew1) | exact HB.out))); rintro e w' ⟨rfl, ⟨nd, rfl⟩⟩; refine ⟨_, rfl, ?_⟩))
                  (try simp only [Act.put, List.setIfInBounds_toArray, List.set_cons_zero, List.set_cons_succ])
                  go_cut [9, 12] (fun v9 v12 wc => ∃ (kq : Nat) (x9_14 : ByteArray) (x12_14 : ByteArray), v9 = .string x9_14 ∧ v12 = .string x12_14 ∧ Aside0 (times_span.j3 kq t125 x5_1 x6_1 x7_1 x9_14 t129 x12_14 t131 = some (r1, r2)) ∧ Aside0 (kq ≤ kj7) ∧ Aside0 (Below w.heap.size w wc))
                  case first =>
                    have H := HC15.out
                    clear HC15
                    by_cases c17 : t131 = true
                    · subst c17
                      have H1 : (if 1 ≤ (t128.size : Int) then ((times_digits.f kj7 (t128.extract 1 t128.size)).bind fun bt132 => (times_span.j3 kj7 t125 x5_1 x6_1 x7_1 bt132.2 t129 bt132.1 true)) else (none)) = some (r1, r2) := by rw [if_pos rfl] at H; exact H
                      clear H
                      have H := H1
                      clear H1
                      by_cases c18 : 1 ≤ (t128.size : Int)
                      · rw [if_pos c18] at H
                        have c18b0 := eq_true c18
                        have c18b1 : decide (1 ≤ (t128.size : Int)) = true := decide_eq_true c18
                        clear c18
                        replace H := Option.bind_eq_some_iff.mp H
                        obtain ⟨⟨t132, t133⟩, A190, H⟩ := H
                        replace H : (times_span.j3 kj7 t125 x5_1 x6_1 x7_1 t133 t129 t132 true) = some (r1, r2) := H
                        have A19 := Aside0.mk A190
                        clear A190
                        have H' := Aside0.mk H
                        clear H
                        go_wp2_with (first | ((with_reducible refine gate_callee (f := 34) rfl ?_); refine goesL_ (some 51) rfl rfl Tryz.func34 (by kernel_rfl) rfl #[.string (t128.extract 1 t128.size)] rfl (by (try simp only [List.map_toArray, List.map_cons, List.map_nil]); first | done | rfl | (simp only [List.length_drop, List.length_take]; rfl)) ?_; (with_reducible refine (times_digits.calls kj7 (t128.extract 1 t128.size) t132 t133 _ ?side1 A19.out).mono ?_); (case side1 => first | exact HLaid.out | (refine LaidW.below HLaid.out ?_; repeat (first | (with_reducible first | exact HB.out | apply below_alloc | apply pw_below_drewN | apply below_drew1) | exact HB.out))); rintro e w' ⟨rfl, ⟨nd, rfl⟩⟩; refine ⟨_, rfl, ?_⟩))
                        go_meet
                        case rel => exact ⟨_, (t133), (t132), (by first | rfl | (simp; done) | (simp [*]; done) | (simp [*, bne]; done)), (by first | rfl | (simp; done) | (simp [*]; done) | (simp [*, bne]; done)), H', ⟨by have := HK1.out; have := HJ4.out; have := HJ7.out; first | omega | exact Nat.le_refl _⟩, ⟨by repeat (first | (with_reducible first | exact HB.out | apply below_alloc | apply pw_below_drewN | apply below_drew1) | exact HB.out)⟩⟩
                      · rw [if_neg c18] at H
                        exact absurd H (by simp)
                    · replace c17 := Bool.eq_false_iff.mpr c17
                      subst c17
                      have H1 : (times_span.j3 kj7 t125 x5_1 x6_1 x7_1 t128 t129 (⟨#[]⟩ : ByteArray) false) = some (r1, r2) := by rw [if_neg (show ¬ (false = true) by decide)] at H; exact H
                      clear H
                      have H := H1
                      clear H1
                      have H' := Aside0.mk H
                      clear H
                      go_wp2
                      go_meet
                      case rel => exact ⟨_, (t128), ((⟨#[]⟩ : ByteArray)), (by first | rfl | (simp; done) | (simp [*]; done) | (simp [*, bne]; done)), (by first | rfl | (simp; done) | (simp [*]; done) | (simp [*, bne]; done)), H', ⟨by have := HK1.out; have := HJ4.out; have := HJ7.out; first | omega | exact Nat.le_refl _⟩, ⟨by repeat (first | (with_reducible first | exact HB.out | apply below_alloc | apply pw_below_drewN | apply below_drew1) | exact HB.out)⟩⟩
                  case rest =>
                    clear HC15
                    try clear c1
                    try clear c2
                    try clear p2
                    try clear c3
                    try clear c6
                    try clear c7
                    try clear c9
                    try clear c13
                    try clear c17
                    try clear c18
                    try clear c18b0
                    try clear c18b1
                    try clear p2
                    obtain ⟨kq, x9_14, x12_14, rfl, rfl, HA, HJ14, HB⟩ := hcut
                    cases kq with
                    | zero => exact absurd HA.out (by simp [times_span.j3])
                    | succ kj14 =>
                      have H := HA.out
                      clear HA
                      simp only [times_span.j3] at H
                      replace H := Option.bind_eq_some_iff.mp H
                      obtain ⟨⟨t134, t135, t136, t137⟩, A200, H⟩ := H
                      replace H : (if t137 = true then (if t134 ≤ x6_1 then (times_span.j4 kj14 t125 x5_1 t136 t129 x12_14 t134 t135 true) else (if x7_1 = true then (if t131 = true then (if x12_14.toList = ([] : List UInt8) then (times_span.j4 kj14 t125 x5_1 t136 t129 x12_14 t134 t135 true) else (times_span.j4 kj14 t125 x5_1 t136 t129 x12_14 t134 t135 (t136.toList != ([] : List UInt8)))) else (times_span.j4 kj14 t125 x5_1 t136 t129 x12_14 t134 t135 false)) else ((times_most.f t134).bind fun t138 => (if t129 ≥ t138 then (times_span.j4 kj14 t125 x5_1 t136 t129 x12_14 t134 t135 true) else (if t131 = true then (if x12_14.toList = ([] : List UInt8) then (times_span.j4 kj14 t125 x5_1 t136 t129 x12_14 t134 t135 true) else (times_span.j4 kj14 t125 x5_1 t136 t129 x12_14 t134 t135 (t136.toList != ([] : List UInt8)))) else (times_span.j4 kj14 t125 x5_1 t136 t129 x12_14 t134 t135 false)))))) else (times_span.j4 kj14 t125 x5_1 t136 t129 x12_14 t134 t135 true)) = some (r1, r2) := H
                      have A20 := Aside0.mk A200
                      clear A200
                      have HC21 := Aside0.mk H
                      clear H
                      go_upto_region 16 with (first | ((with_reducible refine gate_callee (f := 36) rfl ?_); refine goesL_ (some 56) rfl rfl Tryz.func36 (by kernel_rfl) rfl #[.string x9_14] rfl (by (try simp only [List.map_toArray, List.map_cons, List.map_nil]); first | done | rfl | (simp only [List.length_drop, List.length_take]; rfl)) ?_; (with_reducible refine (times_unit.calls kj14 x9_14 t134 t135 t136 t137 _ ?side1 A20.out).mono ?_); (case side1 => first | exact HLaid.out | (refine LaidW.below HLaid.out ?_; repeat (first | (with_reducible first | exact HB.out | apply below_alloc | apply pw_below_drewN | apply below_drew1) | exact HB.out))); rintro e w22 ⟨rfl, hb⟩; refine ⟨_, rfl, ?_⟩; have n0_ := Aside0.mk (below_step (by repeat (first | (with_reducible first | exact HB.out | apply below_alloc | apply pw_below_drewN | apply below_drew1) | exact HB.out)) hb); clear HB; have HB := n0_; clear n0_; (try clear hb); (try clear hb2); (try clear hk); (try clear hi)))
                      (try simp only [Act.put, List.setIfInBounds_toArray, List.set_cons_zero, List.set_cons_succ])
                      go_cut [88] (fun v88 wc => ∃ (kq : Nat) (x88_20 : Bool), v88 = .bool x88_20 ∧ Aside0 (times_span.j4 kq t125 x5_1 t136 t129 x12_14 t134 t135 x88_20 = some (r1, r2)) ∧ Aside0 (kq ≤ kj14) ∧ Aside0 (Below w.heap.size w wc))
                      case first =>
                        have H := HC21.out
                        clear HC21
                        by_cases c23 : t137 = true
                        · subst c23
                          have H1 : (if t134 ≤ x6_1 then (times_span.j4 kj14 t125 x5_1 t136 t129 x12_14 t134 t135 true) else (if x7_1 = true then (if t131 = true then (if x12_14.toList = ([] : List UInt8) then (times_span.j4 kj14 t125 x5_1 t136 t129 x12_14 t134 t135 true) else (times_span.j4 kj14 t125 x5_1 t136 t129 x12_14 t134 t135 (t136.toList != ([] : List UInt8)))) else (times_span.j4 kj14 t125 x5_1 t136 t129 x12_14 t134 t135 false)) else ((times_most.f t134).bind fun t138 => (if t129 ≥ t138 then (times_span.j4 kj14 t125 x5_1 t136 t129 x12_14 t134 t135 true) else (if t131 = true then (if x12_14.toList = ([] : List UInt8) then (times_span.j4 kj14 t125 x5_1 t136 t129 x12_14 t134 t135 true) else (times_span.j4 kj14 t125 x5_1 t136 t129 x12_14 t134 t135 (t136.toList != ([] : List UInt8)))) else (times_span.j4 kj14 t125 x5_1 t136 t129 x12_14 t134 t135 false)))))) = some (r1, r2) := by rw [if_pos rfl] at H; exact H
                          clear H
                          have H := H1
                          clear H1
                          by_cases c24 : t134 ≤ x6_1
                          · rw [if_pos c24] at H
                            have c24b0 : decide (t134 ≤ x6_1) = true := decide_eq_true c24
                            clear c24
                            (first | rw [c24b0] | (simp only [i64_w, i32_w]; rw [c24b0]) | skip)
                            have H' := Aside0.mk H
                            clear H
                            go_wp2
                            go_meet
                            case rel => exact ⟨_, (true), (by first | rfl | (simp; done) | (simp [*]; done) | (simp [*, bne]; done)), H', ⟨by have := HK1.out; have := HJ4.out; have := HJ7.out; have := HJ14.out; first | omega | exact Nat.le_refl _⟩, ⟨by repeat (first | (with_reducible first | exact HB.out | apply below_alloc | apply pw_below_drewN | apply below_drew1) | exact HB.out)⟩⟩
                          · rw [if_neg c24] at H
                            have c24b0 : decide (t134 ≤ x6_1) = false := decide_eq_false c24
                            clear c24
                            (first | rw [c24b0] | (simp only [i64_w, i32_w]; rw [c24b0]) | skip)
                            by_cases c25 : x7_1 = true
                            · subst c25
                              have H1 : (if t131 = true then (if x12_14.toList = ([] : List UInt8) then (times_span.j4 kj14 t125 x5_1 t136 t129 x12_14 t134 t135 true) else (times_span.j4 kj14 t125 x5_1 t136 t129 x12_14 t134 t135 (t136.toList != ([] : List UInt8)))) else (times_span.j4 kj14 t125 x5_1 t136 t129 x12_14 t134 t135 false)) = some (r1, r2) := by rw [if_pos rfl] at H; exact H
                              clear H
                              have H := H1
                              clear H1
                              by_cases c26 : t131 = true
                              · subst c26
                                have H1 : (if x12_14.toList = ([] : List UInt8) then (times_span.j4 kj14 t125 x5_1 t136 t129 x12_14 t134 t135 true) else (times_span.j4 kj14 t125 x5_1 t136 t129 x12_14 t134 t135 (t136.toList != ([] : List UInt8)))) = some (r1, r2) := by rw [if_pos rfl] at H; exact H
                                clear H
                                have H := H1
                                clear H1
                                by_cases c27 : x12_14.toList = ([] : List UInt8)
                                · rw [if_pos c27] at H
                                  have c27b0 : (x12_14.toList == ([] : List UInt8)) = true := beq_iff_eq.mpr c27
                                  have c27b1 : (x12_14.toList != ([] : List UInt8)) = false := bne_eq_false_iff_eq.mpr c27
                                  clear c27
                                  have H' := Aside0.mk H
                                  clear H
                                  go_wp2
                                  go_meet
                                  case rel => exact ⟨_, (true), (by first | rfl | (simp; done) | (simp [*]; done) | (simp [*, bne]; done)), H', ⟨by have := HK1.out; have := HJ4.out; have := HJ7.out; have := HJ14.out; first | omega | exact Nat.le_refl _⟩, ⟨by repeat (first | (with_reducible first | exact HB.out | apply below_alloc | apply pw_below_drewN | apply below_drew1) | exact HB.out)⟩⟩
                                · rw [if_neg c27] at H
                                  have c27b0 : (x12_14.toList == ([] : List UInt8)) = false := beq_eq_false_iff_ne.mpr c27
                                  have c27b1 : (x12_14.toList != ([] : List UInt8)) = true := bne_iff_ne.mpr c27
                                  have H' := Aside0.mk H
                                  clear H
                                  go_wp2
                                  go_meet
                                  case rel => exact ⟨_, ((t136.toList != ([] : List UInt8))), (by first | rfl | (simp; done) | (simp [*]; done) | (simp [*, bne]; done)), H', ⟨by have := HK1.out; have := HJ4.out; have := HJ7.out; have := HJ14.out; first | omega | exact Nat.le_refl _⟩, ⟨by repeat (first | (with_reducible first | exact HB.out | apply below_alloc | apply pw_below_drewN | apply below_drew1) | exact HB.out)⟩⟩
                              · replace c26 := Bool.eq_false_iff.mpr c26
                                subst c26
                                have H1 : (times_span.j4 kj14 t125 x5_1 t136 t129 x12_14 t134 t135 false) = some (r1, r2) := by rw [if_neg (show ¬ (false = true) by decide)] at H; exact H
                                clear H
                                have H := H1
                                clear H1
                                have H' := Aside0.mk H
                                clear H
                                go_wp2
                                go_meet
                                case rel => exact ⟨_, (false), (by first | rfl | (simp; done) | (simp [*]; done) | (simp [*, bne]; done)), H', ⟨by have := HK1.out; have := HJ4.out; have := HJ7.out; have := HJ14.out; first | omega | exact Nat.le_refl _⟩, ⟨by repeat (first | (with_reducible first | exact HB.out | apply below_alloc | apply pw_below_drewN | apply below_drew1) | exact HB.out)⟩⟩
                            · replace c25 := Bool.eq_false_iff.mpr c25
                              subst c25
                              have H1 : ((times_most.f t134).bind fun t138 => (if t129 ≥ t138 then (times_span.j4 kj14 t125 x5_1 t136 t129 x12_14 t134 t135 true) else (if t131 = true then (if x12_14.toList = ([] : List UInt8) then (times_span.j4 kj14 t125 x5_1 t136 t129 x12_14 t134 t135 true) else (times_span.j4 kj14 t125 x5_1 t136 t129 x12_14 t134 t135 (t136.toList != ([] : List UInt8)))) else (times_span.j4 kj14 t125 x5_1 t136 t129 x12_14 t134 t135 false)))) = some (r1, r2) := by rw [if_neg (show ¬ (false = true) by decide)] at H; exact H
                              clear H
                              have H := H1
                              clear H1
                              replace H := Option.bind_eq_some_iff.mp H
                              obtain ⟨t138, A280, H⟩ := H
                              replace H : (if t129 ≥ t138 then (times_span.j4 kj14 t125 x5_1 t136 t129 x12_14 t134 t135 true) else (if t131 = true then (if x12_14.toList = ([] : List UInt8) then (times_span.j4 kj14 t125 x5_1 t136 t129 x12_14 t134 t135 true) else (times_span.j4 kj14 t125 x5_1 t136 t129 x12_14 t134 t135 (t136.toList != ([] : List UInt8)))) else (times_span.j4 kj14 t125 x5_1 t136 t129 x12_14 t134 t135 false))) = some (r1, r2) := H
                              have A28 := Aside0.mk A280
                              clear A280
                              by_cases c29 : t129 ≥ t138
                              · rw [if_pos c29] at H
                                have c29b0 : decide (t138 ≤ t129) = true := decide_eq_true c29
                                clear c29
                                have H' := Aside0.mk H
                                clear H
                                go_wp2_with (first | (go_at_call 37; (with_reducible refine (times_most.calls t134 t138 _ ?side1 A28.out).mono ?_); (case side1 => first | exact HLaid.out | (refine LaidW.below HLaid.out ?_; repeat (first | (with_reducible first | exact HB.out | apply below_alloc | apply pw_below_drewN | apply below_drew1) | exact HB.out))); rintro e w' ⟨rfl, ⟨nd, rfl⟩⟩))
                                go_meet
                                case rel => exact ⟨_, (true), (by first | rfl | (simp; done) | (simp [*]; done) | (simp [*, bne]; done)), H', ⟨by have := HK1.out; have := HJ4.out; have := HJ7.out; have := HJ14.out; first | omega | exact Nat.le_refl _⟩, ⟨by repeat (first | (with_reducible first | exact HB.out | apply below_alloc | apply pw_below_drewN | apply below_drew1) | exact HB.out)⟩⟩
                              · rw [if_neg c29] at H
                                have c29b0 : decide (t138 ≤ t129) = false := decide_eq_false c29
                                clear c29
                                by_cases c30 : t131 = true
                                · subst c30
                                  have H1 : (if x12_14.toList = ([] : List UInt8) then (times_span.j4 kj14 t125 x5_1 t136 t129 x12_14 t134 t135 true) else (times_span.j4 kj14 t125 x5_1 t136 t129 x12_14 t134 t135 (t136.toList != ([] : List UInt8)))) = some (r1, r2) := by rw [if_pos rfl] at H; exact H
                                  clear H
                                  have H := H1
                                  clear H1
                                  by_cases c31 : x12_14.toList = ([] : List UInt8)
                                  · rw [if_pos c31] at H
                                    have c31b0 : (x12_14.toList == ([] : List UInt8)) = true := beq_iff_eq.mpr c31
                                    have c31b1 : (x12_14.toList != ([] : List UInt8)) = false := bne_eq_false_iff_eq.mpr c31
                                    clear c31
                                    have H' := Aside0.mk H
                                    clear H
                                    go_wp2_with (first | (go_at_call 37; (with_reducible refine (times_most.calls t134 t138 _ ?side1 A28.out).mono ?_); (case side1 => first | exact HLaid.out | (refine LaidW.below HLaid.out ?_; repeat (first | (with_reducible first | exact HB.out | apply below_alloc | apply pw_below_drewN | apply below_drew1) | exact HB.out))); rintro e w' ⟨rfl, ⟨nd, rfl⟩⟩))
                                    go_meet
                                    case rel => exact ⟨_, (true), (by first | rfl | (simp; done) | (simp [*]; done) | (simp [*, bne]; done)), H', ⟨by have := HK1.out; have := HJ4.out; have := HJ7.out; have := HJ14.out; first | omega | exact Nat.le_refl _⟩, ⟨by repeat (first | (with_reducible first | exact HB.out | apply below_alloc | apply pw_below_drewN | apply below_drew1) | exact HB.out)⟩⟩
                                  · rw [if_neg c31] at H
                                    have c31b0 : (x12_14.toList == ([] : List UInt8)) = false := beq_eq_false_iff_ne.mpr c31
                                    have c31b1 : (x12_14.toList != ([] : List UInt8)) = true := bne_iff_ne.mpr c31
                                    have H' := Aside0.mk H
                                    clear H
                                    go_wp2_with (first | (go_at_call 37; (with_reducible refine (times_most.calls t134 t138 _ ?side1 A28.out).mono ?_); (case side1 => first | exact HLaid.out | (refine LaidW.below HLaid.out ?_; repeat (first | (with_reducible first | exact HB.out | apply below_alloc | apply pw_below_drewN | apply below_drew1) | exact HB.out))); rintro e w' ⟨rfl, ⟨nd, rfl⟩⟩))
                                    go_meet
                                    case rel => exact ⟨_, ((t136.toList != ([] : List UInt8))), (by first | rfl | (simp; done) | (simp [*]; done) | (simp [*, bne]; done)), H', ⟨by have := HK1.out; have := HJ4.out; have := HJ7.out; have := HJ14.out; first | omega | exact Nat.le_refl _⟩, ⟨by repeat (first | (with_reducible first | exact HB.out | apply below_alloc | apply pw_below_drewN | apply below_drew1) | exact HB.out)⟩⟩
                                · replace c30 := Bool.eq_false_iff.mpr c30
                                  subst c30
                                  have H1 : (times_span.j4 kj14 t125 x5_1 t136 t129 x12_14 t134 t135 false) = some (r1, r2) := by rw [if_neg (show ¬ (false = true) by decide)] at H; exact H
                                  clear H
                                  have H := H1
                                  clear H1
                                  have H' := Aside0.mk H
                                  clear H
                                  go_wp2_with (first | (go_at_call 37; (with_reducible refine (times_most.calls t134 t138 _ ?side1 A28.out).mono ?_); (case side1 => first | exact HLaid.out | (refine LaidW.below HLaid.out ?_; repeat (first | (with_reducible first | exact HB.out | apply below_alloc | apply pw_below_drewN | apply below_drew1) | exact HB.out))); rintro e w' ⟨rfl, ⟨nd, rfl⟩⟩))
                                  go_meet
                                  case rel => exact ⟨_, (false), (by first | rfl | (simp; done) | (simp [*]; done) | (simp [*, bne]; done)), H', ⟨by have := HK1.out; have := HJ4.out; have := HJ7.out; have := HJ14.out; first | omega | exact Nat.le_refl _⟩, ⟨by repeat (first | (with_reducible first | exact HB.out | apply below_alloc | apply pw_below_drewN | apply below_drew1) | exact HB.out)⟩⟩
                        · replace c23 := Bool.eq_false_iff.mpr c23
                          subst c23
                          have H1 : (times_span.j4 kj14 t125 x5_1 t136 t129 x12_14 t134 t135 true) = some (r1, r2) := by rw [if_neg (show ¬ (false = true) by decide)] at H; exact H
                          clear H
                          have H := H1
                          clear H1
                          have H' := Aside0.mk H
                          clear H
                          go_wp2
                          go_meet
                          case rel => exact ⟨_, (true), (by first | rfl | (simp; done) | (simp [*]; done) | (simp [*, bne]; done)), H', ⟨by have := HK1.out; have := HJ4.out; have := HJ7.out; have := HJ14.out; first | omega | exact Nat.le_refl _⟩, ⟨by repeat (first | (with_reducible first | exact HB.out | apply below_alloc | apply pw_below_drewN | apply below_drew1) | exact HB.out)⟩⟩
                      case rest =>
                        clear HC21
                        try clear c1
                        try clear c2
                        try clear p2
                        try clear c3
                        try clear c6
                        try clear c7
                        try clear c9
                        try clear c13
                        try clear c17
                        try clear c18
                        try clear c18b0
                        try clear c18b1
                        try clear c21
                        try clear c23
                        try clear c24
                        try clear c24b0
                        try clear c25
                        try clear c26
                        try clear c27
                        try clear c27b0
                        try clear c27b1
                        try clear c29
                        try clear c29b0
                        try clear c30
                        try clear c31
                        try clear c31b0
                        try clear c31b1
                        try clear p2
                        obtain ⟨kq, x88_20, rfl, HA, HJ20, HB⟩ := hcut
                        cases kq with
                        | zero => exact absurd HA.out (by simp [times_span.j4])
                        | succ kj20 =>
                          have H := HA.out
                          clear HA
                          simp only [times_span.j4] at H
                          by_cases c32 : x88_20 = true
                          · subst c32
                            have H1 : (some (0, false)) = some (r1, r2) := by rw [if_pos rfl] at H; exact H
                            clear H
                            have H := H1
                            clear H1
                            simp only [Option.some.injEq, Prod.mk.injEq] at H
                            obtain ⟨rfl, rfl⟩ := H
                            go_wp2
                            go_ret2
                            exact ⟨by first | rfl | (simp [errW_none, errW_some] <;> rfl) | (simp [*, errW_none, errW_some] <;> rfl), by repeat (first | (with_reducible first | exact HB.out | apply below_alloc | apply pw_below_drewN | apply below_drew1) | exact HB.out)⟩
                          · replace c32 := Bool.eq_false_iff.mpr c32
                            subst c32
                            have H1 : ((times_exact.f kj20 x12_14 t135).bind fun bt139 => (if bt139.2 = true then (if t135 = 0 then (none) else (if t129 > (wrap64 (Int.tdiv (wrap64 ((wrap64 (9223372036854775807 - x5_1)) - bt139.1)) t135)) then (some (0, false)) else (times_span.l0 kj20 t136 t125 (wrap64 (x5_1 + (wrap64 ((wrap64 (t129 * t135)) + bt139.1)))) t134 false))) else (some (0, false)))) = some (r1, r2) := by rw [if_neg (show ¬ (false = true) by decide)] at H; exact H
                            clear H
                            have H := H1
                            clear H1
                            replace H := Option.bind_eq_some_iff.mp H
                            obtain ⟨⟨t139, t140⟩, A330, H⟩ := H
                            replace H : (if t140 = true then (if t135 = 0 then (none) else (if t129 > (wrap64 (Int.tdiv (wrap64 ((wrap64 (9223372036854775807 - x5_1)) - t139)) t135)) then (some (0, false)) else (times_span.l0 kj20 t136 t125 (wrap64 (x5_1 + (wrap64 ((wrap64 (t129 * t135)) + t139)))) t134 false))) else (some (0, false))) = some (r1, r2) := H
                            have A33 := Aside0.mk A330
                            clear A330
                            by_cases c34 : t140 = true
                            · subst c34
                              have H1 : (if t135 = 0 then (none) else (if t129 > (wrap64 (Int.tdiv (wrap64 ((wrap64 (9223372036854775807 - x5_1)) - t139)) t135)) then (some (0, false)) else (times_span.l0 kj20 t136 t125 (wrap64 (x5_1 + (wrap64 ((wrap64 (t129 * t135)) + t139)))) t134 false))) = some (r1, r2) := by rw [if_pos rfl] at H; exact H
                              clear H
                              have H := H1
                              clear H1
                              by_cases c35 : t135 = 0
                              · rw [if_pos c35] at H
                                exact absurd H (by simp)
                              · rw [if_neg c35] at H
                                have c35b0 : (t135 == 0) = false := beq_eq_false_iff_ne.mpr c35
                                have c35b1 : (t135 != 0) = true := bne_iff_ne.mpr c35
                                by_cases c36 : t129 > (wrap64 (Int.tdiv (wrap64 ((wrap64 (9223372036854775807 - x5_1)) - t139)) t135))
                                · rw [if_pos c36] at H
                                  have c36b0 : decide ((wrap64 (Int.tdiv (wrap64 ((wrap64 (9223372036854775807 - x5_1)) - t139)) t135)) < t129) = true := decide_eq_true c36
                                  clear c36
                                  simp only [Option.some.injEq, Prod.mk.injEq] at H
                                  obtain ⟨rfl, rfl⟩ := H
                                  go_wp2_with (first | ((with_reducible refine gate_callee (f := 38) rfl ?_); refine goesL_ (some 92) rfl rfl Tryz.func38 (by kernel_rfl) rfl #[.string x12_14, .int .i64 t135] rfl (by (try simp only [List.map_toArray, List.map_cons, List.map_nil]); first | done | rfl | (simp only [List.length_drop, List.length_take]; rfl)) ?_; (with_reducible refine (times_exact.calls kj20 x12_14 t135 t139 true _ ?side1 A33.out).mono ?_); (case side1 => first | exact HLaid.out | (refine LaidW.below HLaid.out ?_; repeat (first | (with_reducible first | exact HB.out | apply below_alloc | apply pw_below_drewN | apply below_drew1) | exact HB.out))); rintro e w37 ⟨rfl, hb⟩; refine ⟨_, rfl, ?_⟩; have n0_ := Aside0.mk (below_step (by repeat (first | (with_reducible first | exact HB.out | apply below_alloc | apply pw_below_drewN | apply below_drew1) | exact HB.out)) hb); clear HB; have HB := n0_; clear n0_; (try clear hb); (try clear hb2); (try clear hk); (try clear hi)))
                                  go_ret2
                                  exact ⟨by first | rfl | (simp [errW_none, errW_some] <;> rfl) | (simp [*, errW_none, errW_some] <;> rfl), by repeat (first | (with_reducible first | exact HB.out | apply below_alloc | apply pw_below_drewN | apply below_drew1) | exact HB.out)⟩
                                · rw [if_neg c36] at H
                                  have c36b0 : decide ((wrap64 (Int.tdiv (wrap64 ((wrap64 (9223372036854775807 - x5_1)) - t139)) t135)) < t129) = false := decide_eq_false c36
                                  clear c36
                                  have H' := Aside0.mk H
                                  clear H
                                  go_wp2_with (first | ((with_reducible refine gate_callee (f := 38) rfl ?_); refine goesL_ (some 92) rfl rfl Tryz.func38 (by kernel_rfl) rfl #[.string x12_14, .int .i64 t135] rfl (by (try simp only [List.map_toArray, List.map_cons, List.map_nil]); first | done | rfl | (simp only [List.length_drop, List.length_take]; rfl)) ?_; (with_reducible refine (times_exact.calls kj20 x12_14 t135 t139 true _ ?side1 A33.out).mono ?_); (case side1 => first | exact HLaid.out | (refine LaidW.below HLaid.out ?_; repeat (first | (with_reducible first | exact HB.out | apply below_alloc | apply pw_below_drewN | apply below_drew1) | exact HB.out))); rintro e w38 ⟨rfl, hb⟩; refine ⟨_, rfl, ?_⟩; have n0_ := Aside0.mk (below_step (by repeat (first | (with_reducible first | exact HB.out | apply below_alloc | apply pw_below_drewN | apply below_drew1) | exact HB.out)) hb); clear HB; have HB := n0_; clear n0_; (try clear hb); (try clear hb2); (try clear hk); (try clear hi)))
                                  go_roundg kj20
                                  case measure => have := HK1.out; have := HJ4.out; have := HJ7.out; have := HJ14.out; have := HJ20.out; omega
                                  case rel => exact ⟨(t136), (wrap64 (x5_1 + (wrap64 ((wrap64 (t129 * t135)) + t139)))), (t134), (false), (by first | rfl | (simp; done) | (simp [*]; done) | (simp [*, bne]; done)), (by first | rfl | (simp; done) | (simp [*]; done) | (simp [*, bne]; done)), (by first | rfl | (simp; done) | (simp [*]; done) | (simp [*, bne]; done)), (by first | rfl | (simp; done) | (simp [*]; done) | (simp [*, bne]; done)), H', ⟨by have := HK1.out; have := HJ4.out; have := HJ7.out; have := HJ14.out; have := HJ20.out; omega⟩, ⟨by repeat (first | (with_reducible first | exact HB.out | apply below_alloc | apply pw_below_drewN | apply below_drew1) | exact HB.out)⟩⟩
                            · replace c34 := Bool.eq_false_iff.mpr c34
                              subst c34
                              have H1 : (some (0, false)) = some (r1, r2) := by rw [if_neg (show ¬ (false = true) by decide)] at H; exact H
                              clear H
                              have H := H1
                              clear H1
                              simp only [Option.some.injEq, Prod.mk.injEq] at H
                              obtain ⟨rfl, rfl⟩ := H
                              go_wp2_with (first | ((with_reducible refine gate_callee (f := 38) rfl ?_); refine goesL_ (some 92) rfl rfl Tryz.func38 (by kernel_rfl) rfl #[.string x12_14, .int .i64 t135] rfl (by (try simp only [List.map_toArray, List.map_cons, List.map_nil]); first | done | rfl | (simp only [List.length_drop, List.length_take]; rfl)) ?_; (with_reducible refine (times_exact.calls kj20 x12_14 t135 t139 false _ ?side1 A33.out).mono ?_); (case side1 => first | exact HLaid.out | (refine LaidW.below HLaid.out ?_; repeat (first | (with_reducible first | exact HB.out | apply below_alloc | apply pw_below_drewN | apply below_drew1) | exact HB.out))); rintro e w39 ⟨rfl, hb⟩; refine ⟨_, rfl, ?_⟩; have n0_ := Aside0.mk (below_step (by repeat (first | (with_reducible first | exact HB.out | apply below_alloc | apply pw_below_drewN | apply below_drew1) | exact HB.out)) hb); clear HB; have HB := n0_; clear n0_; (try clear hb); (try clear hb2); (try clear hk); (try clear hi)))
                              go_ret2
                              exact ⟨by first | rfl | (simp [errW_none, errW_some] <;> rfl) | (simp [*, errW_none, errW_some] <;> rfl), by repeat (first | (with_reducible first | exact HB.out | apply below_alloc | apply pw_below_drewN | apply below_drew1) | exact HB.out)⟩
                · replace c13 := Bool.eq_false_iff.mpr c13
                  subst c13
                  have H1 : (some (0, false)) = some (r1, r2) := by rw [if_neg (show ¬ (false = true) by decide)] at H; exact H
                  clear H
                  have H := H1
                  clear H1
                  simp only [Option.some.injEq, Prod.mk.injEq] at H
                  obtain ⟨rfl, rfl⟩ := H
                  go_wp2_with (first | ((with_reducible refine gate_callee (f := 34) rfl ?_); refine goesL_ (some 35) rfl rfl Tryz.func34 (by kernel_rfl) rfl #[.string x0_7] rfl (by (try simp only [List.map_toArray, List.map_cons, List.map_nil]); first | done | rfl | (simp only [List.length_drop, List.length_take]; rfl)) ?_; (with_reducible refine (times_digits.calls kj7 x0_7 t127 t128 _ ?side1 A11.out).mono ?_); (case side1 => first | exact HLaid.out | (refine LaidW.below HLaid.out ?_; repeat (first | (with_reducible first | exact HB.out | apply below_alloc | apply pw_below_drewN | apply below_drew1) | exact HB.out))); rintro e w' ⟨rfl, ⟨nd, rfl⟩⟩; refine ⟨_, rfl, ?_⟩) | ((with_reducible refine gate_callee (f := 35) rfl ?_); refine goesL_ (some 40) rfl rfl Tryz.func35 (by kernel_rfl) rfl #[.string t127] rfl (by (try simp only [List.map_toArray, List.map_cons, List.map_nil]); first | done | rfl | (simp only [List.length_drop, List.length_take]; rfl)) ?_; (with_reducible refine (times_whole.calls t127 t129 false _ ?side1 A12.out).mono ?_); (case side1 => first | exact HLaid.out | (refine LaidW.below HLaid.out ?_; repeat (first | (with_reducible first | exact HB.out | apply below_alloc | apply pw_below_drewN | apply below_drew1) | exact HB.out))); rintro e w40 ⟨rfl, hb⟩; refine ⟨_, rfl, ?_⟩; have n0_ := Aside0.mk (below_step (by repeat (first | (with_reducible first | exact HB.out | apply below_alloc | apply pw_below_drewN | apply below_drew1) | exact HB.out)) hb); clear HB; have HB := n0_; clear n0_; (try clear hb); (try clear hb2); (try clear hk); (try clear hi)))
                  go_ret2
                  exact ⟨by first | rfl | (simp [errW_none, errW_some] <;> rfl) | (simp [*, errW_none, errW_some] <;> rfl), by repeat (first | (with_reducible first | exact HB.out | apply below_alloc | apply pw_below_drewN | apply below_drew1) | exact HB.out)⟩
          · replace c7 := Bool.eq_false_iff.mpr c7
            subst c7
            have H1 : (if t125 = true then (some (wrap64 (-x5_1), true)) else (some (x5_1, true))) = some (r1, r2) := by rw [if_neg (show ¬ (false = true) by decide)] at H; exact H
            clear H
            have H := H1
            clear H1
            by_cases c41 : t125 = true
            · subst c41
              have H1 : (some (wrap64 (-x5_1), true)) = some (r1, r2) := by rw [if_pos rfl] at H; exact H
              clear H
              have H := H1
              clear H1
              simp only [Option.some.injEq, Prod.mk.injEq] at H
              obtain ⟨rfl, rfl⟩ := H
              go_wp2
              go_ret2
              exact ⟨by first | rfl | (simp [errW_none, errW_some] <;> rfl) | (simp [*, errW_none, errW_some] <;> rfl), by repeat (first | (with_reducible first | exact HB.out | apply below_alloc | apply pw_below_drewN | apply below_drew1) | exact HB.out)⟩
            · replace c41 := Bool.eq_false_iff.mpr c41
              subst c41
              have H1 : (some (x5_1, true)) = some (r1, r2) := by rw [if_neg (show ¬ (false = true) by decide)] at H; exact H
              clear H
              have H := H1
              clear H1
              simp only [Option.some.injEq, Prod.mk.injEq] at H
              obtain ⟨rfl, rfl⟩ := H
              go_wp2
              go_ret2
              exact ⟨by first | rfl | (simp [errW_none, errW_some] <;> rfl) | (simp [*, errW_none, errW_some] <;> rfl), by repeat (first | (with_reducible first | exact HB.out | apply below_alloc | apply pw_below_drewN | apply below_drew1) | exact HB.out)⟩

end Go.Proofs.YteoehlcjllbhfaaGreatDoor.XBack
