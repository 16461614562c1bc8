-- WRITTEN BY wip/tools/xprint.py out of the translation: the kit's print with this work's hooks.
import Derived.Test.YteoehlcjllbhfaaGreatDoorXBackx0
import Derived.Test.YteoehlcjllbhfaaGreatDoorXBackx9
import Derived.Test.YteoehlcjllbhfaaGreatDoorXBackx10
namespace Go.Proofs.YteoehlcjllbhfaaGreatDoor.XBack
open Go.RowKit Go.Proofs.YteoehlcjllbhfaaGreatDoorW.PrintWords Go.Proofs.YteoehlcjllbhfaaGreatDoorW.PrintLast Go.Proofs.YteoehlcjllbhfaaGreatDoorW.PrintMore
attribute [local go_sem] max2_int min2_int max_two min_two max_three min_three max_four min_four   -- for this text's walks alone
set_option linter.unusedVariables false
set_option linter.unusedSimpArgs false

/-! ### value_May: function 26 -/
/-- Is a float, told by its bits, no number? -/
def nanB (b : Int) : Bool := FloatKind.f64.format.order b.toNat b.toNat != some .eq
def value_May.f (k : Nat) (a0 : Int) (a1 : Int) (a2 : ByteArray) : Option (Bool) :=
  if a0 = 19 then (if a1 = 0 then (some (decide ((a2.size : Int) ≤ 254))) else (some false)) else (if a2.toList = ([] : List UInt8) then (if a0 = 18 then (if nanB a1 = true then (some (a1 == 9221120237041090561)) else (some true)) else ((value_known.f a0).bind fun t900 => (if t900 = true then (value_fits.f k a0 a1) else (some false)))) else (some false))
theorem value_May.mono : ∀ a0 a1 a2 k, LeO (value_May.f k a0 a1 a2) (value_May.f (k + 1) a0 a1 a2) := by
  intro a0 a1 a2 k
  unfold value_May.f
  repeat' first
      | (with_reducible exact LeO.refl _)
      | (with_reducible exact LeO.none _)
      | (with_reducible exact value_fits.mono _ _ _)
      | (with_reducible refine LeO.ite ?_ ?_)
      | (with_reducible refine LeO.bind ?_ (fun _ => ?_))
theorem frombits_run (a : Int) (w : World) : (callFunc 51 #[.int .u64 a]).run Tryz.prog w = .ok (.value (.float .f64 a.toNat)) w := by
  rw [run_callFunc_extern (fn := Tryz.f51) (e := Extern.MathFloatBits.float64frombits) (by kernel_rfl) (by kernel_rfl) (by kernel_rfl) (by kernel_rfl) (by kernel_rfl)]
  rfl
theorem isnan_calls (b : Nat) (w : World) : Calls Tryz.prog 50 #[.float .f64 b] w fun e w' => e = .returned (.bool (FloatKind.f64.format.order b b != some .eq)) ∧ w = w' := by
  go_enter Tryz.func50, Tryz.ntmps50
  go_wp2
  go_ret
  exact ⟨rfl, rfl⟩
set_option maxHeartbeats 4000000 in
set_option maxRecDepth 100000 in
theorem value_May.calls (k : Nat) (a0_0 : Int) (a0_1 : Int) (a0_2 : ByteArray) (r : Bool) (w : World) (hL : LaidW w) (h : value_May.f k a0_0 a0_1 a0_2 = some r) :
    Calls Tryz.prog 26 #[.agg #[.int .u8 a0_0, .int .u64 a0_1, .string a0_2]] w fun e w' => e = .returned (.bool r) ∧ Below w.heap.size w w' := by
  have hu32 := Tryz.underlying25
  have hfb := frombits_run
  unfold value_May.f at h
  by_cases c0 : a0_0 = 19
  · rw [if_pos c0] at h
    have c0b : (a0_0 == 19) = true := beq_iff_eq.mpr c0
    clear c0
    by_cases c1 : a0_1 = 0
    · rw [if_pos c1] at h
      have c1b : (a0_1 == 0) = true := beq_iff_eq.mpr c1
      clear c1
      obtain rfl := Option.some.inj h
      go_enter Tryz.func26, Tryz.ntmps26
      go_wp2_with fail
      go_ret
      exact ⟨by first | rfl | simp, Go.Joins.below_alloc1 _ _⟩
    · rw [if_neg c1] at h
      have c1b : (a0_1 == 0) = false := beq_eq_false_iff_ne.mpr c1
      clear c1
      obtain rfl := Option.some.inj h
      go_enter Tryz.func26, Tryz.ntmps26
      go_wp2_with fail
      go_ret
      exact ⟨by first | rfl | simp, Go.Joins.below_alloc1 _ _⟩
  rw [if_neg c0] at h
  have c0b : (a0_0 == 19) = false := beq_eq_false_iff_ne.mpr c0
  clear c0
  by_cases c2 : a0_2.toList = []
  · rw [if_pos c2] at h
    have c2b : a0_2.toList.isEmpty = true := by rw [c2]; rfl
    by_cases c3 : a0_0 = 18
    · rw [if_pos c3] at h
      have c3b : (a0_0 == 18) = true := beq_iff_eq.mpr c3
      clear c3
      by_cases c4 : nanB a0_1 = true
      · rw [if_pos c4] at h
        unfold nanB at c4
        obtain rfl := Option.some.inj h
        go_enter Tryz.func26, Tryz.ntmps26
        go_wp2_with (go_at_call 50; refine (isnan_calls _ _).mono ?_; rintro e w' ⟨rfl, rfl⟩)
        go_ret
        exact ⟨by first | rfl | simp, by repeat (first | exact Below.refl _ _ | exact Go.Joins.below_alloc1 _ _ | apply below_drew1)⟩
      · rw [if_neg c4] at h
        unfold nanB at c4
        replace c4 := Bool.eq_false_iff.mpr c4
        obtain rfl := Option.some.inj h
        go_enter Tryz.func26, Tryz.ntmps26
        go_wp2_with (go_at_call 50; refine (isnan_calls _ _).mono ?_; rintro e w' ⟨rfl, rfl⟩)
        go_ret
        exact ⟨by first | rfl | simp, by repeat (first | exact Below.refl _ _ | exact Go.Joins.below_alloc1 _ _ | apply below_drew1)⟩
    · rw [if_neg c3] at h
      have c3b : (a0_0 == 18) = false := beq_eq_false_iff_ne.mpr c3
      clear c3
      obtain ⟨t, A0, H⟩ := Option.bind_eq_some_iff.mp h
      clear h
      have A := Aside0.mk A0
      clear A0
      cases t with
      | true =>
        have H : value_fits.f k a0_0 a0_1 = some r := H
        have B := Aside0.mk H
        clear H
        go_enter Tryz.func26, Tryz.ntmps26
        go_wp2_with (first | (go_at_call 42; refine (value_known.calls a0_0 true _ ?hl1 A.out).mono ?_; (case hl1 => refine LaidW.below hL ?_; repeat (first | exact Below.refl _ _ | exact Go.Joins.below_alloc1 _ _ | apply below_drew1 | apply pw_below_drewN)); rintro e w' ⟨rfl, nd, rfl⟩) | (go_at_call 45; refine (value_fits.calls k a0_0 a0_1 r _ ?hl2 B.out).mono ?_; (case hl2 => refine LaidW.below hL ?_; repeat (first | exact Below.refl _ _ | exact Go.Joins.below_alloc1 _ _ | apply below_drew1 | apply pw_below_drewN)); rintro e w' ⟨rfl, nd', rfl⟩))
        go_ret
        exact ⟨by first | rfl | simp, by repeat (first | exact Below.refl _ _ | exact Go.Joins.below_alloc1 _ _ | apply below_drew1 | apply pw_below_drewN)⟩
      | false =>
        have H : some false = some r := H
        obtain rfl := Option.some.inj H
        go_enter Tryz.func26, Tryz.ntmps26
        go_wp2_with (first | (go_at_call 42; refine (value_known.calls a0_0 false _ ?hl3 A.out).mono ?_; (case hl3 => refine LaidW.below hL ?_; repeat (first | exact Below.refl _ _ | exact Go.Joins.below_alloc1 _ _ | apply below_drew1 | apply pw_below_drewN)); rintro e w' ⟨rfl, nd, rfl⟩))
        go_ret
        exact ⟨by first | rfl | simp, by repeat (first | exact Below.refl _ _ | exact Go.Joins.below_alloc1 _ _ | apply below_drew1 | apply pw_below_drewN)⟩
  · rw [if_neg c2] at h
    have c2b : a0_2.toList.isEmpty = false := by simp [c2]
    obtain rfl := Option.some.inj h
    go_enter Tryz.func26, Tryz.ntmps26
    go_wp2_with fail
    go_ret
    exact ⟨by first | rfl | simp, Go.Joins.below_alloc1 _ _⟩

/-! ### strconv_FormatUint: function 52 -/
theorem len106 : Tryz.prog.arrayLen 106 = 24 := by simp [Program.arrayLen, Tryz.underlying106]
open Go.Sort Go.Lib in
set_option maxHeartbeats 6400000 in
set_option maxRecDepth 100000 in
theorem fmt_uint10 (u : Nat) (hu64 : u < 18446744073709551616) (w : World) (hL : LaidW w) :
    Calls Tryz.prog 69 #[.int .u64 u, .int .i64 10] w fun e w' => e = .returned (.string ⟨(Lib.decDigits u).toArray⟩) ∧ Below w.heap.size w w' := by
  by_cases hs : u < 100
  · have c1 : decide ((u : Int) < 100) = true := decide_eq_true (by omega)
    have hw : wrap64 (u : Int) = (u : Int) := by unfold wrap64; omega
    go_enter Tryz.func69, Tryz.ntmps69
    go_wp2_with (go_at_call 90; refine (Tryz.internal_strconv_small u hs _).mono ?_; rintro e w' ⟨rfl, rfl⟩)
    go_ret
    exact ⟨rfl, by repeat (first | exact Below.refl _ _ | apply below_drew1)⟩
  · have c1 : decide ((u : Int) < 100) = false := decide_eq_false (by omega)
    have hu1 : 1 ≤ u := by omega
    have hnd20 : Lib.nDigits u ≤ 20 := by have := Lib.numDigits_eq u hu1 hu64; split at this <;> omega
    have hsl1 : ∀ W, (Instr.sliceAt 106 (.pointer (some ⟨w.heap.size, 0, none⟩)) none (some (.int .i64 (Lib.nDigits u : Int))) none).run Tryz.prog W = .ok (.slice (some ⟨w.heap.size, 0, none⟩) (Lib.nDigits u) 24) W := fun W => by
      rw [run_sliceAt_array_h W 106 ⟨w.heap.size, 0, none⟩ (by simp [Program.arrayLen, Program.elem, Tryz.underlying106]) .i64 (Lib.nDigits u : Int) (by omega) (by rw [len106]; omega)]
      have := len106
      go_simp
      try omega
    have hH0 : Holds (fun (b : UInt8) => Value.int .u8 (b.toNat : Int)) (w.alloc (.cells Lib.zeros24 106)) w.heap.size 0 (Array.replicate (Lib.nDigits u) 0) := by
      intro j hj
      have hj' : j < Lib.nDigits u := by simpa using hj
      refine ⟨?_, World.frozen?_alloc_new _ _ _ _⟩
      rw [World.cell?_alloc_new, Nat.zero_add, Lib.zeros24_at _ (by omega), getElem!_pos _ j hj]
      simp
    have hfmt := Tryz.internal_strconv_formatBase10 w.heap.size 0 24 u (Array.replicate (Lib.nDigits u) 0) (w.alloc (.cells Lib.zeros24 106)) hH0 (by rw [Array.size_replicate]; exact Lib.lt_pow_nDigits u) hu64 (by rw [Array.size_replicate]; omega)
    rw [Array.size_replicate] at hfmt
    have HH0 := Lib.hid hH0
    have HF0 := Lib.hid hfmt
    have HLa := Lib.hid hL
    clear hH0 hL hfmt
    go_enter Tryz.func69, Tryz.ntmps69
    go_wp2_with (go_at_call 91; refine (Tryz.internal_strconv_numDigits u hu1 hu64 _ (Lib.tabIs_alloc HLa.out.pow _)).mono ?_; rintro e w' ⟨rfl, rfl⟩)
    go_at_call 92
    refine HF0.out.mono ?_
    rintro e w' ⟨rfl, k, v', dk, rfl, hF⟩
    have hcv : (convert 74 9 (.slice (some ⟨w.heap.size, 0, none⟩) (Lib.nDigits u) 24)).run Tryz.prog ((putRow (fun (b : UInt8) => Value.int .u8 (b.toNat : Int)) (w.alloc (.cells Lib.zeros24 106)) w.heap.size 0 dk).drewN k) = .ok (.string ⟨(Lib.decDigits u).toArray⟩) ((putRow (fun (b : UInt8) => Value.int .u8 (b.toNat : Int)) (w.alloc (.cells Lib.zeros24 106)) w.heap.size 0 dk).drewN k) := by
      have h := run_convert_bytes_back (P := Tryz.prog) ((putRow (fun (b : UInt8) => Value.int .u8 (b.toNat : Int)) (w.alloc (.cells Lib.zeros24 106)) w.heap.size 0 dk).drewN k) 74 9 5 ⟨w.heap.size, 0, none⟩ 24 (Lib.decDigits u) Tryz.underlying74 Tryz.underlying5 Tryz.underlying9 (fun j hj => by
        rw [Lib.row_is_numeral hF j hj, Lib.add_plain, World.cell?_drewN]
        exact cell?_putRow (fun (b : UInt8) => Value.int .u8 (b.toNat : Int)) _ w.heap.size 0 _ dk HH0.out (by rw [hF.size, Array.size_replicate]) j (by rw [hF.size]; rw [Lib.decDigits_length] at hj; exact hj))
      rw [Lib.decDigits_length] at h
      exact h
    have hbl : Below w.heap.size w ((putRow (fun (b : UInt8) => Value.int .u8 (b.toNat : Int)) (w.alloc (.cells Lib.zeros24 106)) w.heap.size 0 dk).drewN k) := by
      obtain ⟨os', _, e⟩ := putRow_grow_new (fun (b : UInt8) => Value.int .u8 (b.toNat : Int)) w #[.cells Lib.zeros24 106] w.heap.size 0 dk (Nat.le_refl _)
      rw [alloc_eq_grow, e]
      exact Lib.below_grow _ w (Nat.le_refl _) k os'
    have HB := Lib.hid hbl
    clear hbl HH0 HF0
    go_wp2
    go_ret
    exact ⟨rfl, by repeat (first | exact HB.out | apply below_drew1)⟩
/-- strconv.FormatUint, at base 10. -/
def strconv_FormatUint.f (a0 a1 : Int) : Option (ByteArray) := if a1 = 10 ∧ 0 ≤ a0 ∧ a0 < 18446744073709551616 then some (⟨(Lib.decDigits a0.toNat).toArray⟩ : ByteArray) else none
theorem strconv_FormatUint.calls (a0 a1 : Int) (r : ByteArray) (w : World) (hL : LaidW w) (h : strconv_FormatUint.f a0 a1 = some r) :
    Calls Tryz.prog 52 #[.int .u64 a0, .int .i64 a1] w fun e w' => e = .returned (.string r) ∧ Below w.heap.size w w' := by
  unfold strconv_FormatUint.f at h
  by_cases hc : a1 = 10 ∧ 0 ≤ a0 ∧ a0 < 18446744073709551616
  case neg => rw [if_neg hc] at h; cases h
  rw [if_pos hc] at h
  obtain rfl := Option.some.inj h
  obtain ⟨rfl, h0, h1⟩ := hc
  obtain ⟨u, rfl⟩ : ∃ u : Nat, a0 = u := ⟨a0.toNat, by omega⟩
  have HC := Lib.hid (fmt_uint10 u (by omega) w hL)
  clear h hL
  go_enter Tryz.func52, Tryz.ntmps52
  go_wp2_with (go_at_call 69; refine HC.out.mono ?_; rintro e w' ⟨rfl, hb⟩)
  go_ret
  exact ⟨rfl, by repeat (first | exact hb | apply below_drew1)⟩

/-! ### times_spanText: function 27 -/
mutual
def times_spanText.j0 : Nat → ByteArray → Int → Option (ByteArray)
  | 0, _, _ => none
  | k + 1, x3, x4 => (some (([(⟨#[68]⟩ : ByteArray), (⟨#[72]⟩ : ByteArray), (⟨#[77]⟩ : ByteArray), (⟨#[83]⟩ : ByteArray), (⟨#[77, 83]⟩ : ByteArray), (⟨#[85, 83]⟩ : ByteArray), (⟨#[78, 83]⟩ : ByteArray)] : List ByteArray) : List ByteArray)).bind fun y247 => (times_spanText.l0 k x3 x4 y247 (y247.length : Int) 0)
def times_spanText.l0 : Nat → ByteArray → Int → List ByteArray → Int → Int → Option (ByteArray)
  | 0, _, _, _, _, _ => none
  | k + 1, x3, x4, x16, x17, x18 => if x18 < x17 then (if 0 ≤ x18 then (if x18 < (x16.length : Int) then ((some (([86400000000000, 3600000000000, 60000000000, 1000000000, 1000000, 1000, 1] : List Int) : List Int)).bind fun y251 => (if x18 < (y251.length : Int) then (if x4 ≥ (IntKind.u64.wrap (rd y251 x18)) then (if (IntKind.u64.wrap (rd y251 x18)) = 0 then (none) else ((strconv_FormatUint.f (IntKind.u64.wrap (Int.tdiv x4 (IntKind.u64.wrap (rd y251 x18)))) 10).bind fun t255 => (if t255.size + (rdOf ByteArray.empty x16 x18).size ≤ 9223372036854775807 then (if x3.size + (t255 ++ (rdOf ByteArray.empty x16 x18)).size ≤ 9223372036854775807 then (times_spanText.l0 k (x3 ++ (t255 ++ (rdOf ByteArray.empty x16 x18))) (Int.tmod x4 (IntKind.u64.wrap (rd y251 x18))) x16 x17 (wrap64 (x18 + 1))) else (none)) else (none)))) else (times_spanText.l0 k x3 x4 x16 x17 (wrap64 (x18 + 1)))) else (none))) else (none)) else (none)) else (some x3)
end
def times_spanText.f (k : Nat) (a0 : Int) : Option (ByteArray) := if a0 = 0 then (some (⟨#[48, 83]⟩ : ByteArray)) else (if a0 < 0 then (times_spanText.j0 k (⟨#[45]⟩ : ByteArray) (IntKind.u64.wrap (-(IntKind.u64.wrap (a0))))) else (times_spanText.j0 k (⟨#[]⟩ : ByteArray) (IntKind.u64.wrap (a0))))
theorem times_spanText.mono_l : ∀ k, (∀ y0 y1, LeO (times_spanText.j0 k y0 y1) (times_spanText.j0 (k + 1) y0 y1)) ∧ (∀ y0 y1 y2 y3 y4, LeO (times_spanText.l0 k y0 y1 y2 y3 y4) (times_spanText.l0 (k + 1) y0 y1 y2 y3 y4))
  | 0 => ⟨fun _ _ r h => by simp [times_spanText.j0] at h, fun _ _ _ _ _ r h => by simp [times_spanText.l0] at h⟩
  | k + 1 => by
    obtain ⟨ih0, ih1⟩ := times_spanText.mono_l k
    refine ⟨?_, ?_⟩
    · intro y0 y1
      unfold times_spanText.j0
      repeat' first
      | (with_reducible exact ih0 _ _)
      | (with_reducible exact ih1 _ _ _ _ _)
      | (with_reducible exact LeO.refl _)
      | (with_reducible exact LeO.none _)
      | (with_reducible refine LeO.ite ?_ ?_)
      | (with_reducible refine LeO.bind ?_ (fun _ => ?_))
      | exact ih0 _ _
      | exact ih1 _ _ _ _ _
      | exact LeO.none _
      | refine LeO.ite ?_ ?_
      | refine LeO.bind ?_ (fun _ => ?_)
    · intro y0 y1 y2 y3 y4
      unfold times_spanText.l0
      repeat' first
      | (with_reducible exact ih0 _ _)
      | (with_reducible exact ih1 _ _ _ _ _)
      | (with_reducible exact LeO.refl _)
      | (with_reducible exact LeO.none _)
      | (with_reducible refine LeO.ite ?_ ?_)
      | (with_reducible refine LeO.bind ?_ (fun _ => ?_))
      | exact ih0 _ _
      | exact ih1 _ _ _ _ _
      | exact LeO.none _
      | refine LeO.ite ?_ ?_
      | refine LeO.bind ?_ (fun _ => ?_)
theorem times_spanText.mono : ∀ a0 k, LeO (times_spanText.f k a0) (times_spanText.f (k + 1) a0) := by
  intro a0 k
  obtain ⟨ih0, ih1⟩ := times_spanText.mono_l k
  unfold times_spanText.f
  repeat' first
      | (with_reducible exact ih0 _ _)
      | (with_reducible exact ih1 _ _ _ _ _)
      | (with_reducible exact LeO.refl _)
      | (with_reducible exact LeO.none _)
      | (with_reducible refine LeO.ite ?_ ?_)
      | (with_reducible refine LeO.bind ?_ (fun _ => ?_))
      | exact ih0 _ _
      | exact ih1 _ _ _ _ _
      | exact LeO.none _
      | refine LeO.ite ?_ ?_
      | refine LeO.bind ?_ (fun _ => ?_)
set_option maxHeartbeats 8000000 in
set_option maxRecDepth 100000 in
theorem times_spanText.calls (k : Nat) (a0 : Int) (r : ByteArray) (w : World) (hL : LaidW w) (h : times_spanText.f k a0 = some r) :
    Calls Tryz.prog 27 #[.int .i64 a0] w fun e w' => e = .returned (.string r) ∧ Below w.heap.size w w' := by
  have HLaid := Aside0.mk hL
  clear hL
  have HB := Aside0.mk (Below.refl w.heap.size w)
  have H : (if a0 = 0 then (some (⟨#[48, 83]⟩ : ByteArray)) else (if a0 < 0 then (times_spanText.j0 k (⟨#[45]⟩ : ByteArray) (IntKind.u64.wrap (-(IntKind.u64.wrap (a0))))) else (times_spanText.j0 k (⟨#[]⟩ : ByteArray) (IntKind.u64.wrap (a0))))) = some r := h
  clear h
  by_cases c2 : a0 = 0
  · rw [if_pos c2] at H
    have c2b0 : (a0 == 0) = true := beq_iff_eq.mpr c2
    have c2b1 : (a0 != 0) = false := bne_eq_false_iff_eq.mpr c2
    clear c2
    obtain rfl := Option.some.inj H
    go_enter Tryz.func27, Tryz.ntmps27
    go_wp2
    go_ret
    exact ⟨by first | rfl | (simp [errW_none, errW_some] <;> rfl) | (simp [*, errW_none, errW_some] <;> rfl), by repeat (first | (with_reducible first | exact HB.out | apply below_alloc | apply pw_below_drewN | apply below_drew1) | exact HB.out)⟩
  · rw [if_neg c2] at H
    have c2b0 : (a0 == 0) = false := beq_eq_false_iff_ne.mpr c2
    have c2b1 : (a0 != 0) = true := bne_iff_ne.mpr c2
    have HC3 := Aside0.mk H
    clear H
    go_enter Tryz.func27, Tryz.ntmps27
    go_upto_if 13 with (fail)
    go_cut [3, 4] (fun v3 v4 wc => ∃ (kq : Nat) (x3_2 : ByteArray) (x4_2 : Int), v3 = .string x3_2 ∧ v4 = .int .u64 x4_2 ∧ Aside0 (times_spanText.j0 kq x3_2 x4_2 = some r) ∧ Aside0 (kq ≤ k) ∧ Aside0 (Below w.heap.size w wc))
    case first =>
      have H := HC3.out
      clear HC3
      by_cases c4 : a0 < 0
      · rw [if_pos c4] at H
        have c4b0 : decide (a0 < 0) = true := decide_eq_true c4
        clear c4
        (first | rw [c4b0] | (simp only [i64_w, i32_w]; rw [c4b0]) | skip)
        have H' := Aside0.mk H
        clear H
        go_wp2
        go_meet
        case rel => exact ⟨_, ((⟨#[45]⟩ : ByteArray)), (IntKind.u64.wrap (-(IntKind.u64.wrap (a0)))), (by first | rfl | (simp; done) | (simp [*]; done) | (simp [*, bne]; done)), (by first | rfl | (simp; done) | (simp [*]; done) | (simp [*, bne]; done)), H', ⟨by first | omega | exact Nat.le_refl _⟩, ⟨by repeat (first | (with_reducible first | exact HB.out | apply below_alloc | apply pw_below_drewN | apply below_drew1) | exact HB.out)⟩⟩
      · rw [if_neg c4] at H
        have c4b0 : decide (a0 < 0) = false := decide_eq_false c4
        clear c4
        (first | rw [c4b0] | (simp only [i64_w, i32_w]; rw [c4b0]) | skip)
        have H' := Aside0.mk H
        clear H
        go_wp2
        go_meet
        case rel => exact ⟨_, ((⟨#[]⟩ : ByteArray)), (IntKind.u64.wrap (a0)), (by first | rfl | (simp; done) | (simp [*]; done) | (simp [*, bne]; done)), (by first | rfl | (simp; done) | (simp [*]; done) | (simp [*, bne]; done)), H', ⟨by first | omega | exact Nat.le_refl _⟩, ⟨by repeat (first | (with_reducible first | exact HB.out | apply below_alloc | apply pw_below_drewN | apply below_drew1) | exact HB.out)⟩⟩
    case rest =>
      clear HC3
      try clear c2
      try clear c2b0
      try clear c2b1
      try clear p2
      try clear c4
      try clear c4b0
      obtain ⟨kq, x3_2, x4_2, rfl, rfl, HA, HJ2, HB⟩ := hcut
      cases kq with
      | zero => exact absurd HA.out (by simp [times_spanText.j0])
      | succ kj2 =>
        have H := HA.out
        clear HA
        simp only [times_spanText.j0] at H
        obtain ⟨y247, hy247⟩ : ∃ y_ : List ByteArray, y_ = (([(⟨#[68]⟩ : ByteArray), (⟨#[72]⟩ : ByteArray), (⟨#[77]⟩ : ByteArray), (⟨#[83]⟩ : ByteArray), (⟨#[77, 83]⟩ : ByteArray), (⟨#[85, 83]⟩ : ByteArray), (⟨#[78, 83]⟩ : ByteArray)] : List ByteArray)) := ⟨_, rfl⟩
        replace H : (times_spanText.l0 kj2 x3_2 x4_2 y247 (y247.length : Int) 0) = some r := by first | (rw [hy247]; with_reducible exact H) | (have H2_ := (Option.bind_some _ _).symm.trans H; rw [hy247]; with_reducible exact H2_) | (have H2_ := (Option.bind_some _ _).symm.trans H; with_reducible exact H2_) | with_reducible exact H | (rw [hy247]; exact H) | exact H
        have Ny247 := Aside0.mk hy247
        clear hy247
        have H' := Aside0.mk H
        clear H
        go_wp2_with (first | ((with_reducible refine gate_dst (N := 16) rfl ?_); refine Kd.R_lit Kd.string _ 9 ?hg (N := 16) ?hd (xs := ([(⟨#[68]⟩ : ByteArray), (⟨#[72]⟩ : ByteArray), (⟨#[77]⟩ : ByteArray), (⟨#[83]⟩ : ByteArray), (⟨#[77, 83]⟩ : ByteArray), (⟨#[85, 83]⟩ : ByteArray), (⟨#[78, 83]⟩ : ByteArray)] : List ByteArray)) (inner := [.string (⟨#[68]⟩ : ByteArray), .string (⟨#[72]⟩ : ByteArray), .string (⟨#[77]⟩ : ByteArray), .string (⟨#[83]⟩ : ByteArray), .string (⟨#[77, 83]⟩ : ByteArray), .string (⟨#[85, 83]⟩ : ByteArray), .string (⟨#[78, 83]⟩ : ByteArray)]) (ok := fun _ => True) (okp := fun _ => True) ?hr ?hp (fun _ hk => hk) trivial (Below.refl _ _) (Nat.le_refl _) (by simp) ?_; (case hd => rfl); (case hg => rfl); (case hr => first | (go_simp; done) | (go_simp; rfl)); (case hp => exact (Reps.one (show Kd.M Kd.string _ _ _ (⟨#[68]⟩ : ByteArray) [.string (⟨#[68]⟩ : ByteArray)] from rfl) (Reps.one (show Kd.M Kd.string _ _ _ (⟨#[72]⟩ : ByteArray) [.string (⟨#[72]⟩ : ByteArray)] from rfl) (Reps.one (show Kd.M Kd.string _ _ _ (⟨#[77]⟩ : ByteArray) [.string (⟨#[77]⟩ : ByteArray)] from rfl) (Reps.one (show Kd.M Kd.string _ _ _ (⟨#[83]⟩ : ByteArray) [.string (⟨#[83]⟩ : ByteArray)] from rfl) (Reps.one (show Kd.M Kd.string _ _ _ (⟨#[77, 83]⟩ : ByteArray) [.string (⟨#[77, 83]⟩ : ByteArray)] from rfl) (Reps.one (show Kd.M Kd.string _ _ _ (⟨#[85, 83]⟩ : ByteArray) [.string (⟨#[85, 83]⟩ : ByteArray)] from rfl) (Reps.one (show Kd.M Kd.string _ _ _ (⟨#[78, 83]⟩ : ByteArray) [.string (⟨#[78, 83]⟩ : ByteArray)] from rfl) (Reps.none _ _))))))))); intro v248 w5 ho6 hb hg_ hnew_; clear hg_ hnew_; (first | rw [← Ny247.out] at ho6 | (simp only [Int.reduceToNat] at ho6; rw [← Ny247.out] at ho6)); have n0_ := Aside0.mk (Kd.R_lower ho6 (below_size (by repeat (first | (with_reducible first | exact HB.out | apply below_alloc | apply pw_below_drewN | apply below_drew1) | exact HB.out)))); have n1_ := Aside0.mk (below_step (by repeat (first | (with_reducible first | exact HB.out | apply below_alloc | apply pw_below_drewN | apply below_drew1) | exact HB.out)) hb); clear HB; have HO249 := n0_; have HB := n1_; clear n0_ n1_; clear hb ho6; obtain ⟨Ao7, co7, eo7⟩ := Kd.R_slice HO249.out; subst eo7))
        go_loopg [3, 4, 18] kj2 (fun kq v3 v4 v18 w' => ∃ (x3_2 : ByteArray) (x4_2 : Int) (x18_2 : Int), v3 = .string x3_2 ∧ v4 = .int .u64 x4_2 ∧ v18 = .int .i64 x18_2 ∧ Aside0 (times_spanText.l0 kq x3_2 x4_2 y247 (y247.length : Int) x18_2 = some r) ∧ Aside0 (kq ≤ kj2) ∧ Aside0 (Kd.R Kd.string 9 w' w.heap.size (fun _ => True) (.slice Ao7 y247.length co7) y247) ∧ Aside0 (Below w.heap.size w w'))
        case atStart => exact ⟨(x3_2), (x4_2), (0), (by first | rfl | (simp; done) | (simp [*]; done) | (simp [*, bne]; done)), (by first | rfl | (simp; done) | (simp [*]; done) | (simp [*, bne]; done)), (by first | rfl | (simp; done) | (simp [*]; done) | (simp [*, bne]; done)), H', ⟨Nat.le_refl _⟩, ⟨by (with_reducible repeat (first | apply Kd.R_alloc | apply Kd.R_drewN | apply Kd.R_drew)); exact HO249.out⟩, ⟨by repeat (first | (with_reducible first | exact HB.out | apply below_alloc | apply pw_below_drewN | apply below_drew1) | exact HB.out)⟩⟩
        case round =>
          clear H'
          try clear c2
          try clear c2b0
          try clear c2b1
          try clear p2
          try clear c4
          try clear c4b0
          try clear p2
          obtain ⟨x3_2, x4_2, x18_2, rfl, rfl, rfl, HA, HK2, HO_16, HB⟩ := hrel
          cases gk with
          | zero => exact absurd HA.out (by simp [times_spanText.l0])
          | succ k2 =>
            have H := HA.out
            clear HA
            simp only [times_spanText.l0] at H
            by_cases c8 : x18_2 < (y247.length : Int)
            · rw [if_pos c8] at H
              have c8b0 : decide (x18_2 < (y247.length : Int)) = true := decide_eq_true c8
              clear c8
              by_cases c9 : 0 ≤ x18_2
              · rw [if_pos c9] at H
                have c9b0 : decide (0 ≤ x18_2) = true := decide_eq_true c9
                clear c9
                by_cases c10 : x18_2 < (y247.length : Int)
                · rw [if_pos c10] at H
                  have c10b0 : decide (x18_2 < (y247.length : Int)) = true := decide_eq_true c10
                  clear c10
                  obtain ⟨y251, hy251⟩ : ∃ y_ : List Int, y_ = (([86400000000000, 3600000000000, 60000000000, 1000000000, 1000000, 1000, 1] : List Int)) := ⟨_, rfl⟩
                  replace H : (if x18_2 < (y251.length : Int) then (if x4_2 ≥ (IntKind.u64.wrap (rd y251 x18_2)) then (if (IntKind.u64.wrap (rd y251 x18_2)) = 0 then (none) else ((strconv_FormatUint.f (IntKind.u64.wrap (Int.tdiv x4_2 (IntKind.u64.wrap (rd y251 x18_2)))) 10).bind fun t255 => (if t255.size + (rdOf ByteArray.empty y247 x18_2).size ≤ 9223372036854775807 then (if x3_2.size + (t255 ++ (rdOf ByteArray.empty y247 x18_2)).size ≤ 9223372036854775807 then (times_spanText.l0 k2 (x3_2 ++ (t255 ++ (rdOf ByteArray.empty y247 x18_2))) (Int.tmod x4_2 (IntKind.u64.wrap (rd y251 x18_2))) y247 (y247.length : Int) (wrap64 (x18_2 + 1))) else (none)) else (none)))) else (times_spanText.l0 k2 x3_2 x4_2 y247 (y247.length : Int) (wrap64 (x18_2 + 1)))) else (none)) = some r := by first | (rw [hy251]; with_reducible exact H) | (have H2_ := (Option.bind_some _ _).symm.trans H; rw [hy251]; with_reducible exact H2_) | (have H2_ := (Option.bind_some _ _).symm.trans H; with_reducible exact H2_) | with_reducible exact H | (rw [hy251]; exact H) | exact H
                  have Ny251 := Aside0.mk hy251
                  clear hy251
                  by_cases c11 : x18_2 < (y251.length : Int)
                  · rw [if_pos c11] at H
                    have c11b0 : decide (x18_2 < (y251.length : Int)) = true := decide_eq_true c11
                    clear c11
                    by_cases c12 : x4_2 ≥ (IntKind.u64.wrap (rd y251 x18_2))
                    · rw [if_pos c12] at H
                      have c12b0 : decide ((IntKind.u64.wrap (rd y251 x18_2)) ≤ x4_2) = true := decide_eq_true c12
                      clear c12
                      by_cases c13 : (IntKind.u64.wrap (rd y251 x18_2)) = 0
                      · rw [if_pos c13] at H
                        exact absurd H (by simp)
                      · rw [if_neg c13] at H
                        have c13b0 : ((IntKind.u64.wrap (rd y251 x18_2)) == 0) = false := beq_eq_false_iff_ne.mpr c13
                        have c13b1 : ((IntKind.u64.wrap (rd y251 x18_2)) != 0) = true := bne_iff_ne.mpr c13
                        replace H := Option.bind_eq_some_iff.mp H
                        obtain ⟨t255, A140, H⟩ := H
                        replace H : (if t255.size + (rdOf ByteArray.empty y247 x18_2).size ≤ 9223372036854775807 then (if x3_2.size + (t255 ++ (rdOf ByteArray.empty y247 x18_2)).size ≤ 9223372036854775807 then (times_spanText.l0 k2 (x3_2 ++ (t255 ++ (rdOf ByteArray.empty y247 x18_2))) (Int.tmod x4_2 (IntKind.u64.wrap (rd y251 x18_2))) y247 (y247.length : Int) (wrap64 (x18_2 + 1))) else (none)) else (none)) = some r := H
                        have A14 := Aside0.mk A140
                        clear A140
                        by_cases c15 : t255.size + (rdOf ByteArray.empty y247 x18_2).size ≤ 9223372036854775807
                        · rw [if_pos c15] at H
                          have c15b0 := eq_true c15
                          have c15b1 : decide (t255.size + (rdOf ByteArray.empty y247 x18_2).size ≤ 9223372036854775807) = true := decide_eq_true c15
                          try have c15b2 : (9223372036854775807 < t255.size + (rdOf ByteArray.empty y247 x18_2).size) = False := eq_false (Nat.not_lt.2 c15)
                          by_cases c16 : x3_2.size + (t255 ++ (rdOf ByteArray.empty y247 x18_2)).size ≤ 9223372036854775807
                          · rw [if_pos c16] at H
                            have c16b0 := eq_true c16
                            have c16b1 : decide (x3_2.size + (t255 ++ (rdOf ByteArray.empty y247 x18_2)).size ≤ 9223372036854775807) = true := decide_eq_true c16
                            try have c16b2 : (9223372036854775807 < x3_2.size + (t255 ++ (rdOf ByteArray.empty y247 x18_2)).size) = False := eq_false (Nat.not_lt.2 c16)
                            try (have c16b2n := c16b2; simp only [ByteArray.size_append, size_mk, List.size_toArray, List.length_cons, List.length_nil, Nat.zero_add, Nat.reduceAdd] at c16b2n)
                            have H' := Aside0.mk H
                            clear H
                            have p250 : 0 ≤ (x18_2 : Int) := of_decide_eq_true (by first | (with_reducible assumption) | assumption)
                            have q250 : x18_2 < (y247.length : Int) := of_decide_eq_true (by first | (with_reducible assumption) | assumption)
                            obtain ⟨ad250, e250, hx250_0⟩ := Kd.at_string (Kd.R_reads' HO_16.out).2.2 x18_2 p250 q250
                            cases e250
                            replace p250 := eq_true p250
                            replace q250 := eq_true q250
                            go_wp2_with (first | ((with_reducible refine gate_dst (N := 23) rfl ?_); refine Kd.R_lit (Kd.int .i64) _ 3 ?hg (N := 23) ?hd (xs := ([86400000000000, 3600000000000, 60000000000, 1000000000, 1000000, 1000, 1] : List Int)) (inner := [.int .i64 86400000000000, .int .i64 3600000000000, .int .i64 60000000000, .int .i64 1000000000, .int .i64 1000000, .int .i64 1000, .int .i64 1]) (ok := fun _ => True) (okp := fun _ => True) ?hr ?hp (fun _ hk => hk) trivial (Below.refl _ _) (Nat.le_refl _) (by simp) ?_; (case hd => rfl); (case hg => rfl); (case hr => first | (go_simp; done) | (go_simp; rfl)); (case hp => exact (Reps.one (show Kd.M (Kd.int .i64) _ _ _ 86400000000000 [.int .i64 86400000000000] from rfl) (Reps.one (show Kd.M (Kd.int .i64) _ _ _ 3600000000000 [.int .i64 3600000000000] from rfl) (Reps.one (show Kd.M (Kd.int .i64) _ _ _ 60000000000 [.int .i64 60000000000] from rfl) (Reps.one (show Kd.M (Kd.int .i64) _ _ _ 1000000000 [.int .i64 1000000000] from rfl) (Reps.one (show Kd.M (Kd.int .i64) _ _ _ 1000000 [.int .i64 1000000] from rfl) (Reps.one (show Kd.M (Kd.int .i64) _ _ _ 1000 [.int .i64 1000] from rfl) (Reps.one (show Kd.M (Kd.int .i64) _ _ _ 1 [.int .i64 1] from rfl) (Reps.none _ _))))))))); intro v252 w17 ho18 hb hg_ hnew_; clear hg_ hnew_; (first | rw [← Ny251.out] at ho18 | (simp only [Int.reduceToNat] at ho18; rw [← Ny251.out] at ho18)); have n0_ := Aside0.mk (Kd.R_below (by (with_reducible repeat (first | apply Kd.R_alloc | apply Kd.R_drewN | apply Kd.R_drew)); exact HO_16.out) hb); have n1_ := Aside0.mk (Kd.R_lower ho18 (below_size (by repeat (first | (with_reducible first | exact HB.out | apply below_alloc | apply pw_below_drewN | apply below_drew1) | exact HB.out)))); have n2_ := Aside0.mk (below_step (by repeat (first | (with_reducible first | exact HB.out | apply below_alloc | apply pw_below_drewN | apply below_drew1) | exact HB.out)) hb); clear HO_16; clear HB; have HO_16 := n0_; have HO253 := n1_; have HB := n2_; clear n0_ n1_ n2_; clear hb ho18; obtain ⟨Ao19, co19, eo19⟩ := Kd.R_slice HO253.out; subst eo19; have p254 : 0 ≤ (x18_2 : Int) := of_decide_eq_true (by first | (with_reducible assumption) | assumption); have q254 : x18_2 < (y251.length : Int) := of_decide_eq_true (by first | (with_reducible assumption) | assumption); obtain ⟨ad254, e254, hx254_0⟩ := Kd.at_int (Kd.R_reads' HO253.out).2.2 x18_2 p254 q254; cases e254; replace p254 := eq_true p254; replace q254 := eq_true q254) | ((with_reducible refine gate_callee (f := 52) rfl ?_); refine goesL_ (some 35) rfl rfl Tryz.func52 (by kernel_rfl) rfl #[.int .u64 (IntKind.u64.wrap (Int.tdiv x4_2 (IntKind.u64.wrap (rd y251 x18_2)))), .int .i64 10] rfl (by (try simp only [List.map_toArray, List.map_cons, List.map_nil]); first | done | rfl | (simp only [List.length_drop, List.length_take]; rfl)) ?_; (with_reducible refine (strconv_FormatUint.calls (IntKind.u64.wrap (Int.tdiv x4_2 (IntKind.u64.wrap (rd y251 x18_2)))) 10 t255 _ ?side1 A14.out).mono ?_); (case side1 => first | exact HLaid.out | (refine LaidW.below HLaid.out ?_; repeat (first | (with_reducible first | exact HB.out | apply below_alloc | apply pw_below_drewN | apply below_drew1) | exact HB.out))); rintro e w20 ⟨rfl, hb⟩; refine ⟨_, rfl, ?_⟩; have n0_ := Aside0.mk (Kd.R_below (by (with_reducible repeat (first | apply Kd.R_alloc | apply Kd.R_drewN | apply Kd.R_drew)); exact HO_16.out) hb); have n1_ := Aside0.mk (Kd.R_below (by (with_reducible repeat (first | apply Kd.R_alloc | apply Kd.R_drewN | apply Kd.R_drew)); exact HO253.out) hb); have n2_ := Aside0.mk (below_step (by repeat (first | (with_reducible first | exact HB.out | apply below_alloc | apply pw_below_drewN | apply below_drew1) | exact HB.out)) hb); clear HO_16; clear HO253; clear HB; have HO_16 := n0_; have HO253 := n1_; have HB := n2_; clear n0_ n1_ n2_; (try clear hb); (try clear hb2); (try clear hk); (try clear hi)))
                            go_roundg k2
                            case measure => have := HJ2.out; have := HK2.out; omega
                            case rel => exact ⟨(x3_2 ++ (t255 ++ (rdOf ByteArray.empty y247 x18_2))), (Int.tmod x4_2 (IntKind.u64.wrap (rd y251 x18_2))), (wrap64 (x18_2 + 1)), (by first | rfl | (simp; done) | (simp [*]; done) | (simp [*, bne]; done)), (by first | rfl | (simp; done) | (simp [*]; done) | (simp [*, bne]; done)), (by first | rfl | (simp; done) | (simp [*]; done) | (simp [*, bne]; done)), H', ⟨by have := HJ2.out; have := HK2.out; omega⟩, ⟨by (with_reducible repeat (first | apply Kd.R_alloc | apply Kd.R_drewN | apply Kd.R_drew)); exact HO_16.out⟩, ⟨by repeat (first | (with_reducible first | exact HB.out | apply below_alloc | apply pw_below_drewN | apply below_drew1) | exact HB.out)⟩⟩
                          · rw [if_neg c16] at H
                            exact absurd H (by simp)
                        · rw [if_neg c15] at H
                          exact absurd H (by simp)
                    · rw [if_neg c12] at H
                      have c12b0 : decide ((IntKind.u64.wrap (rd y251 x18_2)) ≤ x4_2) = false := decide_eq_false c12
                      clear c12
                      have H' := Aside0.mk H
                      clear H
                      have p250 : 0 ≤ (x18_2 : Int) := of_decide_eq_true (by first | (with_reducible assumption) | assumption)
                      have q250 : x18_2 < (y247.length : Int) := of_decide_eq_true (by first | (with_reducible assumption) | assumption)
                      obtain ⟨ad250, e250, hx250_0⟩ := Kd.at_string (Kd.R_reads' HO_16.out).2.2 x18_2 p250 q250
                      cases e250
                      replace p250 := eq_true p250
                      replace q250 := eq_true q250
                      go_wp2_with (first | ((with_reducible refine gate_dst (N := 23) rfl ?_); refine Kd.R_lit (Kd.int .i64) _ 3 ?hg (N := 23) ?hd (xs := ([86400000000000, 3600000000000, 60000000000, 1000000000, 1000000, 1000, 1] : List Int)) (inner := [.int .i64 86400000000000, .int .i64 3600000000000, .int .i64 60000000000, .int .i64 1000000000, .int .i64 1000000, .int .i64 1000, .int .i64 1]) (ok := fun _ => True) (okp := fun _ => True) ?hr ?hp (fun _ hk => hk) trivial (Below.refl _ _) (Nat.le_refl _) (by simp) ?_; (case hd => rfl); (case hg => rfl); (case hr => first | (go_simp; done) | (go_simp; rfl)); (case hp => exact (Reps.one (show Kd.M (Kd.int .i64) _ _ _ 86400000000000 [.int .i64 86400000000000] from rfl) (Reps.one (show Kd.M (Kd.int .i64) _ _ _ 3600000000000 [.int .i64 3600000000000] from rfl) (Reps.one (show Kd.M (Kd.int .i64) _ _ _ 60000000000 [.int .i64 60000000000] from rfl) (Reps.one (show Kd.M (Kd.int .i64) _ _ _ 1000000000 [.int .i64 1000000000] from rfl) (Reps.one (show Kd.M (Kd.int .i64) _ _ _ 1000000 [.int .i64 1000000] from rfl) (Reps.one (show Kd.M (Kd.int .i64) _ _ _ 1000 [.int .i64 1000] from rfl) (Reps.one (show Kd.M (Kd.int .i64) _ _ _ 1 [.int .i64 1] from rfl) (Reps.none _ _))))))))); intro v252 w21 ho22 hb hg_ hnew_; clear hg_ hnew_; (first | rw [← Ny251.out] at ho22 | (simp only [Int.reduceToNat] at ho22; rw [← Ny251.out] at ho22)); have n0_ := Aside0.mk (Kd.R_below (by (with_reducible repeat (first | apply Kd.R_alloc | apply Kd.R_drewN | apply Kd.R_drew)); exact HO_16.out) hb); have n1_ := Aside0.mk (Kd.R_lower ho22 (below_size (by repeat (first | (with_reducible first | exact HB.out | apply below_alloc | apply pw_below_drewN | apply below_drew1) | exact HB.out)))); have n2_ := Aside0.mk (below_step (by repeat (first | (with_reducible first | exact HB.out | apply below_alloc | apply pw_below_drewN | apply below_drew1) | exact HB.out)) hb); clear HO_16; clear HB; have HO_16 := n0_; have HO253 := n1_; have HB := n2_; clear n0_ n1_ n2_; clear hb ho22; obtain ⟨Ao23, co23, eo23⟩ := Kd.R_slice HO253.out; subst eo23; have p254 : 0 ≤ (x18_2 : Int) := of_decide_eq_true (by first | (with_reducible assumption) | assumption); have q254 : x18_2 < (y251.length : Int) := of_decide_eq_true (by first | (with_reducible assumption) | assumption); obtain ⟨ad254, e254, hx254_0⟩ := Kd.at_int (Kd.R_reads' HO253.out).2.2 x18_2 p254 q254; cases e254; replace p254 := eq_true p254; replace q254 := eq_true q254))
                      go_roundg k2
                      case measure => have := HJ2.out; have := HK2.out; omega
                      case rel => exact ⟨(x3_2), (x4_2), (wrap64 (x18_2 + 1)), (by first | rfl | (simp; done) | (simp [*]; done) | (simp [*, bne]; done)), (by first | rfl | (simp; done) | (simp [*]; done) | (simp [*, bne]; done)), (by first | rfl | (simp; done) | (simp [*]; done) | (simp [*, bne]; done)), H', ⟨by have := HJ2.out; have := HK2.out; omega⟩, ⟨by (with_reducible repeat (first | apply Kd.R_alloc | apply Kd.R_drewN | apply Kd.R_drew)); exact HO_16.out⟩, ⟨by repeat (first | (with_reducible first | exact HB.out | apply below_alloc | apply pw_below_drewN | apply below_drew1) | exact HB.out)⟩⟩
                  · rw [if_neg c11] at H
                    exact absurd H (by simp)
                · rw [if_neg c10] at H
                  exact absurd H (by simp)
              · rw [if_neg c9] at H
                exact absurd H (by simp)
            · rw [if_neg c8] at H
              have c8b0 : decide (x18_2 < (y247.length : Int)) = false := decide_eq_false c8
              clear c8
              obtain rfl := Option.some.inj H
              go_wp2
              go_ret
              exact ⟨by first | rfl | (simp [errW_none, errW_some] <;> rfl) | (simp [*, errW_none, errW_some] <;> rfl), by repeat (first | (with_reducible first | exact HB.out | apply below_alloc | apply pw_below_drewN | apply below_drew1) | exact HB.out)⟩

end Go.Proofs.YteoehlcjllbhfaaGreatDoor.XBack
