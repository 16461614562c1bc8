-- WRITTEN BY wip/tools/xprint.py out of the translation: the kit's print with this work's hooks.
import Derived.Test.YteoehlcjllbhfaaGreatDoorXBackx0
import Derived.Test.YteoehlcjllbhfaaGreatDoorXBackx3
namespace Go.Proofs.YteoehlcjllbhfaaGreatDoor.XBack
open Go.RowKit Go.Proofs.YteoehlcjllbhfaaGreatDoorW.PrintWords Go.Proofs.YteoehlcjllbhfaaGreatDoorW.PrintLast Go.Proofs.YteoehlcjllbhfaaGreatDoorW.PrintMore
attribute [local go_sem] max2_int min2_int max_two min_two max_three min_three max_four min_four   -- for this text's walks alone
set_option linter.unusedVariables false
set_option linter.unusedSimpArgs false

/-! ### times_common: function 89 -/
def times_common.l0 : Nat → Int → Int → Option (Int)
  | 0, _, _ => none
  | k + 1, x0, x1 => if x1 > 0 then (if x1 = 0 then (none) else (times_common.l0 k x1 (Int.tmod x0 x1))) else (some x0)
def times_common.f (k : Nat) (a0 : Int) (a1 : Int) : Option (Int) := times_common.l0 k a0 a1
theorem times_common.mono_l : ∀ k, (∀ y0 y1, LeO (times_common.l0 k y0 y1) (times_common.l0 (k + 1) y0 y1))
  | 0 => fun _ _ r h => by simp [times_common.l0] at h
  | k + 1 => by
    have ih0 := times_common.mono_l k
    · intro y0 y1
      unfold times_common.l0
      repeat' first
      | (with_reducible exact ih0 _ _)
      | (with_reducible exact LeO.refl _)
      | (with_reducible exact LeO.none _)
      | (with_reducible refine LeO.ite ?_ ?_)
      | (with_reducible refine LeO.bind ?_ (fun _ => ?_))
      | exact ih0 _ _
      | exact LeO.none _
      | refine LeO.ite ?_ ?_
      | refine LeO.bind ?_ (fun _ => ?_)
theorem times_common.mono : ∀ a0 a1 k, LeO (times_common.f k a0 a1) (times_common.f (k + 1) a0 a1) := by
  intro a0 a1 k
  have ih0 := times_common.mono_l k
  unfold times_common.f
  repeat' first
      | (with_reducible exact ih0 _ _)
      | (with_reducible exact LeO.refl _)
      | (with_reducible exact LeO.none _)
      | (with_reducible refine LeO.ite ?_ ?_)
      | (with_reducible refine LeO.bind ?_ (fun _ => ?_))
      | exact ih0 _ _
      | exact LeO.none _
      | refine LeO.ite ?_ ?_
      | refine LeO.bind ?_ (fun _ => ?_)
set_option maxHeartbeats 8000000 in
set_option maxRecDepth 100000 in
theorem times_common.calls (k : Nat) (a0 : Int) (a1 : Int) (r : Int) (w : World) (hL : LaidW w) (h : times_common.f k a0 a1 = some r) :
    Calls Tryz.prog 89 #[.int .i64 a0, .int .i64 a1] w fun e w' => e = .returned (.int .i64 r) ∧ Drawn0 w w' := by
  have HLaid := Aside0.mk hL
  clear hL
  have H : (times_common.l0 k a0 a1) = some r := h
  clear h
  have H' := Aside0.mk H
  clear H
  go_enter Tryz.func89, Tryz.ntmps89
  go_wp2
  repeat (go_quiet (fail); try go_wp2)
  go_loopg [0, 1] k (fun kq v0 v1 w' => ∃ (x0_1 : Int) (x1_1 : Int), v0 = .int .i64 x0_1 ∧ v1 = .int .i64 x1_1 ∧ Aside0 (times_common.l0 kq x0_1 x1_1 = some r) ∧ Aside0 (kq ≤ k) ∧ Drawn0 w w')
  case atStart => exact ⟨(a0), (a1), (by first | rfl | (simp; done) | (simp [*]; done) | (simp [*, bne]; done)), (by first | rfl | (simp; done) | (simp [*]; done) | (simp [*, bne]; done)), H', ⟨Nat.le_refl _⟩, by repeat (first | exact Drawn0.refl _ | apply Drawn0.step)⟩
  case round =>
    clear H'
    try clear p2
    obtain ⟨x0_1, x1_1, rfl, rfl, HA, HK1, ⟨m1, rfl⟩⟩ := hrel
    cases gk with
    | zero => exact absurd HA.out (by simp [times_common.l0])
    | succ k1 =>
      have H := HA.out
      clear HA
      simp only [times_common.l0] at H
      by_cases c3 : x1_1 > 0
      · rw [if_pos c3] at H
        have c3b0 : decide (0 < x1_1) = true := decide_eq_true c3
        clear c3
        by_cases c4 : x1_1 = 0
        · rw [if_pos c4] at H
          exact absurd H (by simp)
        · rw [if_neg c4] at H
          have c4b0 : (x1_1 == 0) = false := beq_eq_false_iff_ne.mpr c4
          have c4b1 : (x1_1 != 0) = true := bne_iff_ne.mpr c4
          have H' := Aside0.mk H
          clear H
          go_wp2
          repeat (go_quiet (fail); try go_wp2)
          go_roundg k1
          case measure => have := HK1.out; omega
          case rel => exact ⟨(x1_1), (Int.tmod x0_1 x1_1), (by first | rfl | (simp; done) | (simp [*]; done) | (simp [*, bne]; done)), (by first | rfl | (simp; done) | (simp [*]; done) | (simp [*, bne]; done)), H', ⟨by have := HK1.out; omega⟩, by repeat (first | exact Drawn0.refl _ | apply Drawn0.step)⟩
      · rw [if_neg c3] at H
        have c3b0 : decide (0 < x1_1) = false := decide_eq_false c3
        clear c3
        obtain rfl := Option.some.inj H
        go_wp2
        repeat (go_quiet (fail); try go_wp2)
        go_ret
        exact ⟨by first | rfl | (simp; done) | (simp [*]; done) | (simp [*, bne]; done), by repeat (first | exact Drawn0.refl _ | apply Drawn0.step)⟩

/-! ### times_over: function 65 -/
def times_over.f (k : Nat) (a0 : Int) (a1 : Int) (a2 : Int) : Option (Int × Bool) := (times_common.f k a1 a2).bind fun t122 => (if t122 = 0 then (none) else (if (wrap64 (Int.tdiv a2 t122)) = 0 then (none) else (if (Int.tmod a0 (wrap64 (Int.tdiv a2 t122))) = 0 then (some (wrap64 ((wrap64 (Int.tdiv a0 (wrap64 (Int.tdiv a2 t122)))) * (wrap64 (Int.tdiv a1 t122))), true)) else (some (0, false)))))
theorem times_over.mono : ∀ a0 a1 a2 k, LeO (times_over.f k a0 a1 a2) (times_over.f (k + 1) a0 a1 a2) := by
  intro a0 a1 a2 k
  unfold times_over.f
  repeat' first
      | (with_reducible exact times_common.mono _ _ _)
      | (with_reducible exact LeO.refl _)
      | (with_reducible exact LeO.none _)
      | (with_reducible refine LeO.ite ?_ ?_)
      | (with_reducible refine LeO.bind ?_ (fun _ => ?_))
      | exact times_common.mono _ _ _
      | exact LeO.none _
      | refine LeO.ite ?_ ?_
      | refine LeO.bind ?_ (fun _ => ?_)
set_option maxHeartbeats 8000000 in
set_option maxRecDepth 100000 in
theorem times_over.calls (k : Nat) (a0 : Int) (a1 : Int) (a2 : Int) (r1 : Int) (r2 : Bool) (w : World) (hL : LaidW w) (h : times_over.f k a0 a1 a2 = some (r1, r2)) :
    Calls Tryz.prog 65 #[.int .i64 a0, .int .i64 a1, .int .i64 a2] w fun e w' => e = .returned (.tuple #[.int .i64 r1, .bool r2]) ∧ Drawn0 w w' := by
  have HLaid := Aside0.mk hL
  clear hL
  have H : ((times_common.f k a1 a2).bind fun t122 => (if t122 = 0 then (none) else (if (wrap64 (Int.tdiv a2 t122)) = 0 then (none) else (if (Int.tmod a0 (wrap64 (Int.tdiv a2 t122))) = 0 then (some (wrap64 ((wrap64 (Int.tdiv a0 (wrap64 (Int.tdiv a2 t122)))) * (wrap64 (Int.tdiv a1 t122))), true)) else (some (0, false)))))) = some (r1, r2) := h
  clear h
  replace H := Option.bind_eq_some_iff.mp H
  obtain ⟨t122, A40, H⟩ := H
  replace H : (if t122 = 0 then (none) else (if (wrap64 (Int.tdiv a2 t122)) = 0 then (none) else (if (Int.tmod a0 (wrap64 (Int.tdiv a2 t122))) = 0 then (some (wrap64 ((wrap64 (Int.tdiv a0 (wrap64 (Int.tdiv a2 t122)))) * (wrap64 (Int.tdiv a1 t122))), true)) else (some (0, false))))) = some (r1, r2) := H
  have A4 := Aside0.mk A40
  clear A40
  by_cases c5 : t122 = 0
  · rw [if_pos c5] at H
    exact absurd H (by simp)
  · rw [if_neg c5] at H
    have c5b0 : (t122 == 0) = false := beq_eq_false_iff_ne.mpr c5
    have c5b1 : (t122 != 0) = true := bne_iff_ne.mpr c5
    by_cases c6 : (wrap64 (Int.tdiv a2 t122)) = 0
    · rw [if_pos c6] at H
      exact absurd H (by simp)
    · rw [if_neg c6] at H
      have c6b0 : ((wrap64 (Int.tdiv a2 t122)) == 0) = false := beq_eq_false_iff_ne.mpr c6
      have c6b1 : ((wrap64 (Int.tdiv a2 t122)) != 0) = true := bne_iff_ne.mpr c6
      by_cases c7 : (Int.tmod a0 (wrap64 (Int.tdiv a2 t122))) = 0
      · rw [if_pos c7] at H
        have c7b0 : ((Int.tmod a0 (wrap64 (Int.tdiv a2 t122))) == 0) = true := beq_iff_eq.mpr c7
        have c7b1 : ((Int.tmod a0 (wrap64 (Int.tdiv a2 t122))) != 0) = false := bne_eq_false_iff_eq.mpr c7
        clear c7
        simp only [Option.some.injEq, Prod.mk.injEq] at H
        obtain ⟨rfl, rfl⟩ := H
        go_enter Tryz.func65, Tryz.ntmps65
        go_wp2_with (first | (go_at_call 89; (with_reducible refine (times_common.calls k a1 a2 t122 _ ?side1 A4.out).mono ?_); (case side1 => first | exact HLaid.out | (refine LaidW.drawn HLaid.out ?_; repeat (first | exact Drawn0.refl _ | apply Drawn0.step))); rintro e w' ⟨rfl, ⟨nd, rfl⟩⟩; (try first | exact ⟨rfl, _, World.drewN_drewN _ _ _⟩ | exact ⟨rfl, _, Eq.trans (World.drewN_drewN _ _ _) (congrArg (World.drewN _) (Nat.add_assoc _ _ _))⟩)))
        repeat (go_quiet (first | (go_at_call 89; (with_reducible refine (times_common.calls k a1 a2 t122 _ ?side1 A4.out).mono ?_); (case side1 => first | exact HLaid.out | (refine LaidW.drawn HLaid.out ?_; repeat (first | exact Drawn0.refl _ | apply Drawn0.step))); rintro e w' ⟨rfl, ⟨nd, rfl⟩⟩; (try first | exact ⟨rfl, _, World.drewN_drewN _ _ _⟩ | exact ⟨rfl, _, Eq.trans (World.drewN_drewN _ _ _) (congrArg (World.drewN _) (Nat.add_assoc _ _ _))⟩))); try go_wp2_with (first | (go_at_call 89; (with_reducible refine (times_common.calls k a1 a2 t122 _ ?side1 A4.out).mono ?_); (case side1 => first | exact HLaid.out | (refine LaidW.drawn HLaid.out ?_; repeat (first | exact Drawn0.refl _ | apply Drawn0.step))); rintro e w' ⟨rfl, ⟨nd, rfl⟩⟩; (try first | exact ⟨rfl, _, World.drewN_drewN _ _ _⟩ | exact ⟨rfl, _, Eq.trans (World.drewN_drewN _ _ _) (congrArg (World.drewN _) (Nat.add_assoc _ _ _))⟩))))
        go_ret2
        exact ⟨by first | rfl | (simp; done) | (simp [*]; done) | (simp [*, bne]; done), by repeat (first | exact Drawn0.refl _ | apply Drawn0.step)⟩
      · rw [if_neg c7] at H
        have c7b0 : ((Int.tmod a0 (wrap64 (Int.tdiv a2 t122))) == 0) = false := beq_eq_false_iff_ne.mpr c7
        have c7b1 : ((Int.tmod a0 (wrap64 (Int.tdiv a2 t122))) != 0) = true := bne_iff_ne.mpr c7
        simp only [Option.some.injEq, Prod.mk.injEq] at H
        obtain ⟨rfl, rfl⟩ := H
        go_enter Tryz.func65, Tryz.ntmps65
        go_wp2_with (first | (go_at_call 89; (with_reducible refine (times_common.calls k a1 a2 t122 _ ?side1 A4.out).mono ?_); (case side1 => first | exact HLaid.out | (refine LaidW.drawn HLaid.out ?_; repeat (first | exact Drawn0.refl _ | apply Drawn0.step))); rintro e w' ⟨rfl, ⟨nd, rfl⟩⟩; (try first | exact ⟨rfl, _, World.drewN_drewN _ _ _⟩ | exact ⟨rfl, _, Eq.trans (World.drewN_drewN _ _ _) (congrArg (World.drewN _) (Nat.add_assoc _ _ _))⟩)))
        repeat (go_quiet (first | (go_at_call 89; (with_reducible refine (times_common.calls k a1 a2 t122 _ ?side1 A4.out).mono ?_); (case side1 => first | exact HLaid.out | (refine LaidW.drawn HLaid.out ?_; repeat (first | exact Drawn0.refl _ | apply Drawn0.step))); rintro e w' ⟨rfl, ⟨nd, rfl⟩⟩; (try first | exact ⟨rfl, _, World.drewN_drewN _ _ _⟩ | exact ⟨rfl, _, Eq.trans (World.drewN_drewN _ _ _) (congrArg (World.drewN _) (Nat.add_assoc _ _ _))⟩))); try go_wp2_with (first | (go_at_call 89; (with_reducible refine (times_common.calls k a1 a2 t122 _ ?side1 A4.out).mono ?_); (case side1 => first | exact HLaid.out | (refine LaidW.drawn HLaid.out ?_; repeat (first | exact Drawn0.refl _ | apply Drawn0.step))); rintro e w' ⟨rfl, ⟨nd, rfl⟩⟩; (try first | exact ⟨rfl, _, World.drewN_drewN _ _ _⟩ | exact ⟨rfl, _, Eq.trans (World.drewN_drewN _ _ _) (congrArg (World.drewN _) (Nat.add_assoc _ _ _))⟩))))
        go_ret2
        exact ⟨by first | rfl | (simp; done) | (simp [*]; done) | (simp [*, bne]; done), by repeat (first | exact Drawn0.refl _ | apply Drawn0.step)⟩

/-! ### times_exact: function 38 -/
/-- The digits of a text as a number, and ten to how many they are (rune by rune, as Go reads a text). -/
def exactL (s : ByteArray) : Nat → Nat → Int → Int → Int × Int
  | 0, _, n, c => (n, c)
  | b + 1, pos, n, c => if pos < s.size then exactL s b (pos + (Utf8.decode s pos).2) (wrap64 (wrap64 (n * 10) + wrap64 (wrap32 (((Utf8.decode s pos).1 : Int) - 48)))) (wrap64 (c * 10)) else (n, c)
theorem exactL_end (s : ByteArray) (b pos : Nat) (n c : Int) (h : ¬ pos < s.size) : exactL s b pos n c = (n, c) := by
  cases b with
  | zero => rfl
  | succ b => simp [exactL, h]
theorem width_pos (s : ByteArray) (pos : Nat) (h : pos < s.size) : 1 ≤ (Utf8.decode s pos).2 := by
  by_cases ha : (s[pos]'h).toNat < 128
  · rw [decode_ascii s pos h ha]
    exact Nat.le_refl _
  · exact (decode_high s pos h (by omega)).2
theorem iter_below (w : World) (t : ByteArray) (pos : Nat) : Below w.heap.size w (w.iter t pos) := (Below.refl _ _).alloc (Nat.le_refl _) _
def times_exact.f (k : Nat) (a0 : ByteArray) (a1 : Int) : Option (Int × Bool) := (strings_TrimRight.f a0 (⟨#[48]⟩ : ByteArray)).bind fun t900 => (if (t900.size : Int) > 16 then (some (0, false)) else (times_over.f k (exactL t900 t900.size 0 0 1).1 a1 (exactL t900 t900.size 0 0 1).2))
theorem times_exact.mono : ∀ a0 a1 k, LeO (times_exact.f k a0 a1) (times_exact.f (k + 1) a0 a1) := by
  intro a0 a1 k
  unfold times_exact.f
  refine LeO.bind (LeO.refl _) (fun _ => LeO.ite (LeO.refl _) (times_over.mono _ _ _ _))
set_option maxHeartbeats 4000000 in
set_option maxRecDepth 100000 in
theorem times_exact.calls (k : Nat) (a0 : ByteArray) (a1 : Int) (r1 : Int) (r2 : Bool) (w : World) (hL : LaidW w) (h : times_exact.f k a0 a1 = some (r1, r2)) :
    Calls Tryz.prog 38 #[.string a0, .int .i64 a1] w fun e w' => e = .returned (.tuple #[.int .i64 r1, .bool r2]) ∧ Below w.heap.size w w' := by
  unfold times_exact.f at h
  obtain ⟨t, A0, H⟩ := Option.bind_eq_some_iff.mp h
  replace H : (if (t.size : Int) > 16 then (some (0, false)) else (times_over.f k (exactL t t.size 0 0 1).1 a1 (exactL t t.size 0 0 1).2)) = some (r1, r2) := H
  clear h
  have A1 := Aside0.mk A0
  have HLaid := Aside0.mk hL
  clear A0 hL
  by_cases c : (t.size : Int) > 16
  · rw [if_pos c] at H
    obtain ⟨rfl, rfl⟩ := Prod.mk.inj (Option.some.inj H)
    have cb : decide ((16 : Int) < (t.size : Int)) = true := decide_eq_true (by omega)
    go_enter Tryz.func38, Tryz.ntmps38
    go_wp2_with (go_at_call 54; refine (strings_TrimRight.same a0 _ t _ HLaid.out A1.out).mono ?_; rintro e w' ⟨rfl, rfl⟩)
    go_ret2
    exact ⟨rfl, by repeat (first | exact Below.refl _ _ | apply below_drew1 | apply pw_below_drewN)⟩
  · rw [if_neg c] at H
    have cb : decide ((16 : Int) < (t.size : Int)) = false := decide_eq_false (by omega)
    have cb2 : decide (16 < t.size) = false := decide_eq_false (by omega)
    obtain ⟨n9, c9, hx⟩ : ∃ n9 c9, exactL t t.size 0 0 1 = (n9, c9) := ⟨_, _, rfl⟩
    rw [hx] at H
    have HX := Aside0.mk hx
    have HO := Aside0.mk H
    clear hx H c
    go_enter Tryz.func38, Tryz.ntmps38
    go_wp2_with (go_at_call 54; refine (strings_TrimRight.same a0 _ t _ HLaid.out A1.out).mono ?_; rintro e w' ⟨rfl, rfl⟩)
    go_loopw [6, 7] (fun u v w' => ∃ (pos b : Nat) (n c : Int), w' = w.iter t pos ∧ u = .int .i64 n ∧ v = .int .i64 c ∧ Aside0 (exactL t b pos n c = (n9, c9)) ∧ t.size ≤ pos + b) (fun _ _ w' => t.size - w'.iterPos w.heap.size)
    case atStart => exact ⟨0, t.size, 0, 1, rfl, rfl, rfl, HX, by omega⟩
    case round =>
      obtain ⟨pos, b, n, c, rfl, rfl, rfl, hc, hb⟩ := hrel
      by_cases hp : pos < t.size
      · have hnx : ∀ ty, (Instr.next (.pointer (some ⟨w.heap.size, 0, none⟩)) true ty).run Tryz.prog (w.iter t pos) = _ := fun ty => run_next_any w t pos ty hp
        have hwd := width_pos t pos hp
        go_wp2
        go_roundw
        case rel =>
          cases b with
          | zero => omega
          | succ b =>
            refine ⟨pos + (Utf8.decode t pos).2, b, _, _, rfl, rfl, rfl, ⟨?_⟩, by omega⟩
            have hc' := hc.out
            simp only [exactL, hp, if_true] at hc'
            exact hc'
        case measure =>
          simp
          omega
      · have hnx : ∀ ty, (Instr.next (.pointer (some ⟨w.heap.size, 0, none⟩)) true ty).run Tryz.prog (w.iter t pos) = _ := fun ty => run_next_end w t pos ty hp
        have hc' := hc.out
        rw [exactL_end t b pos n c hp] at hc'
        obtain ⟨rfl, rfl⟩ := Prod.mk.inj hc'
        clear hc' hc HX
        go_wp2_with (go_at_call 65; refine (times_over.calls k n a1 c r1 r2 _ ?hL HO.out).mono ?_; (case hL => exact HLaid.out.below (iter_below _ _ _)); rintro e w' ⟨rfl, nd2, rfl⟩)
        go_ret2
        exact ⟨rfl, by repeat (first | exact iter_below _ _ _ | apply below_drew1 | apply pw_below_drewN)⟩

end Go.Proofs.YteoehlcjllbhfaaGreatDoor.XBack
