-- WRITTEN BY wip/tools/xprint.py out of the translation: the kit's print with this work's hooks.
import Derived.Test.YteoehlcjllbhfaaGreatDoorShelfB
import Derived.Test.YteoehlcjllbhfaaGreatDoorXBackx0
import Derived.Test.YteoehlcjllbhfaaGreatDoorXBackx3
import Derived.Test.YteoehlcjllbhfaaGreatDoorXBackx15
import Derived.Test.YteoehlcjllbhfaaGreatDoorXBackx16
namespace Go.Proofs.YteoehlcjllbhfaaGreatDoor.XBack
open Go.RowKit Go.Proofs.YteoehlcjllbhfaaGreatDoorW.PrintWords Go.Proofs.YteoehlcjllbhfaaGreatDoorW.PrintLast Go.Proofs.YteoehlcjllbhfaaGreatDoorW.PrintMore
attribute [local go_sem] max2_int min2_int max_two min_two max_three min_three max_four min_four   -- for this text's walks alone
set_option linter.unusedVariables false
set_option linter.unusedSimpArgs false

/-! ### times_clockText: function 29 -/
def times_clockText.f (a0 : Int) : Option (ByteArray) := (times_pad.f (wrap64 (Int.tdiv a0 3600000000000)) 2).bind fun t269 => (if t269.size + 1 ≤ 9223372036854775807 then ((times_pad.f (wrap64 (Int.tdiv (Int.tmod a0 3600000000000) 60000000000)) 2).bind fun t270 => (if (t269 ++ (⟨#[58]⟩ : ByteArray)).size + t270.size ≤ 9223372036854775807 then (if ((t269 ++ (⟨#[58]⟩ : ByteArray)) ++ t270).size + 1 ≤ 9223372036854775807 then ((times_pad.f (wrap64 (Int.tdiv (Int.tmod a0 60000000000) 1000000000)) 2).bind fun t271 => (if (((t269 ++ (⟨#[58]⟩ : ByteArray)) ++ t270) ++ (⟨#[58]⟩ : ByteArray)).size + t271.size ≤ 9223372036854775807 then (if (Int.tmod a0 1000000000) > 0 then ((times_pad.f (Int.tmod a0 1000000000) 9).bind fun t272 => ((strings_TrimRight.f t272 (⟨#[48]⟩ : ByteArray)).bind fun t273 => (if 1 + t273.size ≤ 9223372036854775807 then (if ((((t269 ++ (⟨#[58]⟩ : ByteArray)) ++ t270) ++ (⟨#[58]⟩ : ByteArray)) ++ t271).size + ((⟨#[46]⟩ : ByteArray) ++ t273).size ≤ 9223372036854775807 then (some (((((t269 ++ (⟨#[58]⟩ : ByteArray)) ++ t270) ++ (⟨#[58]⟩ : ByteArray)) ++ t271) ++ ((⟨#[46]⟩ : ByteArray) ++ t273))) else (none)) else (none)))) else (some ((((t269 ++ (⟨#[58]⟩ : ByteArray)) ++ t270) ++ (⟨#[58]⟩ : ByteArray)) ++ t271))) else (none))) else (none)) else (none))) else (none))
set_option maxHeartbeats 8000000 in
set_option maxRecDepth 100000 in
theorem times_clockText.calls (a0 : Int) (r : ByteArray) (w : World) (hL : LaidW w) (h : times_clockText.f a0 = some r) :
    Calls Tryz.prog 29 #[.int .i64 a0] w fun e w' => e = .returned (.string r) ∧ Below w.heap.size w w' := by
  have HLaid := Aside0.mk hL
  clear hL
  have HB := Aside0.mk (Below.refl w.heap.size w)
  have H : ((times_pad.f (wrap64 (Int.tdiv a0 3600000000000)) 2).bind fun t269 => (if t269.size + 1 ≤ 9223372036854775807 then ((times_pad.f (wrap64 (Int.tdiv (Int.tmod a0 3600000000000) 60000000000)) 2).bind fun t270 => (if (t269 ++ (⟨#[58]⟩ : ByteArray)).size + t270.size ≤ 9223372036854775807 then (if ((t269 ++ (⟨#[58]⟩ : ByteArray)) ++ t270).size + 1 ≤ 9223372036854775807 then ((times_pad.f (wrap64 (Int.tdiv (Int.tmod a0 60000000000) 1000000000)) 2).bind fun t271 => (if (((t269 ++ (⟨#[58]⟩ : ByteArray)) ++ t270) ++ (⟨#[58]⟩ : ByteArray)).size + t271.size ≤ 9223372036854775807 then (if (Int.tmod a0 1000000000) > 0 then ((times_pad.f (Int.tmod a0 1000000000) 9).bind fun t272 => ((strings_TrimRight.f t272 (⟨#[48]⟩ : ByteArray)).bind fun t273 => (if 1 + t273.size ≤ 9223372036854775807 then (if ((((t269 ++ (⟨#[58]⟩ : ByteArray)) ++ t270) ++ (⟨#[58]⟩ : ByteArray)) ++ t271).size + ((⟨#[46]⟩ : ByteArray) ++ t273).size ≤ 9223372036854775807 then (some (((((t269 ++ (⟨#[58]⟩ : ByteArray)) ++ t270) ++ (⟨#[58]⟩ : ByteArray)) ++ t271) ++ ((⟨#[46]⟩ : ByteArray) ++ t273))) else (none)) else (none)))) else (some ((((t269 ++ (⟨#[58]⟩ : ByteArray)) ++ t270) ++ (⟨#[58]⟩ : ByteArray)) ++ t271))) else (none))) else (none)) else (none))) else (none))) = some r := h
  clear h
  replace H := Option.bind_eq_some_iff.mp H
  obtain ⟨t269, A20, H⟩ := H
  replace H : (if t269.size + 1 ≤ 9223372036854775807 then ((times_pad.f (wrap64 (Int.tdiv (Int.tmod a0 3600000000000) 60000000000)) 2).bind fun t270 => (if (t269 ++ (⟨#[58]⟩ : ByteArray)).size + t270.size ≤ 9223372036854775807 then (if ((t269 ++ (⟨#[58]⟩ : ByteArray)) ++ t270).size + 1 ≤ 9223372036854775807 then ((times_pad.f (wrap64 (Int.tdiv (Int.tmod a0 60000000000) 1000000000)) 2).bind fun t271 => (if (((t269 ++ (⟨#[58]⟩ : ByteArray)) ++ t270) ++ (⟨#[58]⟩ : ByteArray)).size + t271.size ≤ 9223372036854775807 then (if (Int.tmod a0 1000000000) > 0 then ((times_pad.f (Int.tmod a0 1000000000) 9).bind fun t272 => ((strings_TrimRight.f t272 (⟨#[48]⟩ : ByteArray)).bind fun t273 => (if 1 + t273.size ≤ 9223372036854775807 then (if ((((t269 ++ (⟨#[58]⟩ : ByteArray)) ++ t270) ++ (⟨#[58]⟩ : ByteArray)) ++ t271).size + ((⟨#[46]⟩ : ByteArray) ++ t273).size ≤ 9223372036854775807 then (some (((((t269 ++ (⟨#[58]⟩ : ByteArray)) ++ t270) ++ (⟨#[58]⟩ : ByteArray)) ++ t271) ++ ((⟨#[46]⟩ : ByteArray) ++ t273))) else (none)) else (none)))) else (some ((((t269 ++ (⟨#[58]⟩ : ByteArray)) ++ t270) ++ (⟨#[58]⟩ : ByteArray)) ++ t271))) else (none))) else (none)) else (none))) else (none)) = some r := H
  have A2 := Aside0.mk A20
  clear A20
  by_cases c3 : t269.size + 1 ≤ 9223372036854775807
  · rw [if_pos c3] at H
    have c3b0 := eq_true c3
    have c3b1 : decide (t269.size + 1 ≤ 9223372036854775807) = true := decide_eq_true c3
    try have c3b2 : (9223372036854775807 < t269.size + 1) = False := eq_false (Nat.not_lt.2 c3)
    replace H := Option.bind_eq_some_iff.mp H
    obtain ⟨t270, A40, H⟩ := H
    replace H : (if (t269 ++ (⟨#[58]⟩ : ByteArray)).size + t270.size ≤ 9223372036854775807 then (if ((t269 ++ (⟨#[58]⟩ : ByteArray)) ++ t270).size + 1 ≤ 9223372036854775807 then ((times_pad.f (wrap64 (Int.tdiv (Int.tmod a0 60000000000) 1000000000)) 2).bind fun t271 => (if (((t269 ++ (⟨#[58]⟩ : ByteArray)) ++ t270) ++ (⟨#[58]⟩ : ByteArray)).size + t271.size ≤ 9223372036854775807 then (if (Int.tmod a0 1000000000) > 0 then ((times_pad.f (Int.tmod a0 1000000000) 9).bind fun t272 => ((strings_TrimRight.f t272 (⟨#[48]⟩ : ByteArray)).bind fun t273 => (if 1 + t273.size ≤ 9223372036854775807 then (if ((((t269 ++ (⟨#[58]⟩ : ByteArray)) ++ t270) ++ (⟨#[58]⟩ : ByteArray)) ++ t271).size + ((⟨#[46]⟩ : ByteArray) ++ t273).size ≤ 9223372036854775807 then (some (((((t269 ++ (⟨#[58]⟩ : ByteArray)) ++ t270) ++ (⟨#[58]⟩ : ByteArray)) ++ t271) ++ ((⟨#[46]⟩ : ByteArray) ++ t273))) else (none)) else (none)))) else (some ((((t269 ++ (⟨#[58]⟩ : ByteArray)) ++ t270) ++ (⟨#[58]⟩ : ByteArray)) ++ t271))) else (none))) else (none)) else (none)) = some r := H
    have A4 := Aside0.mk A40
    clear A40
    by_cases c5 : (t269 ++ (⟨#[58]⟩ : ByteArray)).size + t270.size ≤ 9223372036854775807
    · rw [if_pos c5] at H
      have c5b0 := eq_true c5
      have c5b1 : decide ((t269 ++ (⟨#[58]⟩ : ByteArray)).size + t270.size ≤ 9223372036854775807) = true := decide_eq_true c5
      try have c5b2 : (9223372036854775807 < (t269 ++ (⟨#[58]⟩ : ByteArray)).size + t270.size) = False := eq_false (Nat.not_lt.2 c5)
      try (have c5b2n := c5b2; simp only [ByteArray.size_append, size_mk, List.size_toArray, List.length_cons, List.length_nil, Nat.zero_add, Nat.reduceAdd] at c5b2n)
      by_cases c6 : ((t269 ++ (⟨#[58]⟩ : ByteArray)) ++ t270).size + 1 ≤ 9223372036854775807
      · rw [if_pos c6] at H
        have c6b0 := eq_true c6
        have c6b1 : decide (((t269 ++ (⟨#[58]⟩ : ByteArray)) ++ t270).size + 1 ≤ 9223372036854775807) = true := decide_eq_true c6
        try have c6b2 : (9223372036854775807 < ((t269 ++ (⟨#[58]⟩ : ByteArray)) ++ t270).size + 1) = False := eq_false (Nat.not_lt.2 c6)
        try (have c6b2n := c6b2; simp only [ByteArray.size_append, size_mk, List.size_toArray, List.length_cons, List.length_nil, Nat.zero_add, Nat.reduceAdd] at c6b2n)
        replace H := Option.bind_eq_some_iff.mp H
        obtain ⟨t271, A70, H⟩ := H
        replace H : (if (((t269 ++ (⟨#[58]⟩ : ByteArray)) ++ t270) ++ (⟨#[58]⟩ : ByteArray)).size + t271.size ≤ 9223372036854775807 then (if (Int.tmod a0 1000000000) > 0 then ((times_pad.f (Int.tmod a0 1000000000) 9).bind fun t272 => ((strings_TrimRight.f t272 (⟨#[48]⟩ : ByteArray)).bind fun t273 => (if 1 + t273.size ≤ 9223372036854775807 then (if ((((t269 ++ (⟨#[58]⟩ : ByteArray)) ++ t270) ++ (⟨#[58]⟩ : ByteArray)) ++ t271).size + ((⟨#[46]⟩ : ByteArray) ++ t273).size ≤ 9223372036854775807 then (some (((((t269 ++ (⟨#[58]⟩ : ByteArray)) ++ t270) ++ (⟨#[58]⟩ : ByteArray)) ++ t271) ++ ((⟨#[46]⟩ : ByteArray) ++ t273))) else (none)) else (none)))) else (some ((((t269 ++ (⟨#[58]⟩ : ByteArray)) ++ t270) ++ (⟨#[58]⟩ : ByteArray)) ++ t271))) else (none)) = some r := H
        have A7 := Aside0.mk A70
        clear A70
        by_cases c8 : (((t269 ++ (⟨#[58]⟩ : ByteArray)) ++ t270) ++ (⟨#[58]⟩ : ByteArray)).size + t271.size ≤ 9223372036854775807
        · rw [if_pos c8] at H
          have c8b0 := eq_true c8
          have c8b1 : decide ((((t269 ++ (⟨#[58]⟩ : ByteArray)) ++ t270) ++ (⟨#[58]⟩ : ByteArray)).size + t271.size ≤ 9223372036854775807) = true := decide_eq_true c8
          try have c8b2 : (9223372036854775807 < (((t269 ++ (⟨#[58]⟩ : ByteArray)) ++ t270) ++ (⟨#[58]⟩ : ByteArray)).size + t271.size) = False := eq_false (Nat.not_lt.2 c8)
          try (have c8b2n := c8b2; simp only [ByteArray.size_append, size_mk, List.size_toArray, List.length_cons, List.length_nil, Nat.zero_add, Nat.reduceAdd] at c8b2n)
          by_cases c9 : (Int.tmod a0 1000000000) > 0
          · rw [if_pos c9] at H
            have c9b0 : decide (0 < (Int.tmod a0 1000000000)) = true := decide_eq_true c9
            clear c9
            replace H := Option.bind_eq_some_iff.mp H
            obtain ⟨t272, A100, H⟩ := H
            replace H : ((strings_TrimRight.f t272 (⟨#[48]⟩ : ByteArray)).bind fun t273 => (if 1 + t273.size ≤ 9223372036854775807 then (if ((((t269 ++ (⟨#[58]⟩ : ByteArray)) ++ t270) ++ (⟨#[58]⟩ : ByteArray)) ++ t271).size + ((⟨#[46]⟩ : ByteArray) ++ t273).size ≤ 9223372036854775807 then (some (((((t269 ++ (⟨#[58]⟩ : ByteArray)) ++ t270) ++ (⟨#[58]⟩ : ByteArray)) ++ t271) ++ ((⟨#[46]⟩ : ByteArray) ++ t273))) else (none)) else (none))) = some r := H
            have A10 := Aside0.mk A100
            clear A100
            replace H := Option.bind_eq_some_iff.mp H
            obtain ⟨t273, A110, H⟩ := H
            replace H : (if 1 + t273.size ≤ 9223372036854775807 then (if ((((t269 ++ (⟨#[58]⟩ : ByteArray)) ++ t270) ++ (⟨#[58]⟩ : ByteArray)) ++ t271).size + ((⟨#[46]⟩ : ByteArray) ++ t273).size ≤ 9223372036854775807 then (some (((((t269 ++ (⟨#[58]⟩ : ByteArray)) ++ t270) ++ (⟨#[58]⟩ : ByteArray)) ++ t271) ++ ((⟨#[46]⟩ : ByteArray) ++ t273))) else (none)) else (none)) = some r := H
            have A11 := Aside0.mk A110
            clear A110
            by_cases c12 : 1 + t273.size ≤ 9223372036854775807
            · rw [if_pos c12] at H
              have c12b0 := eq_true c12
              have c12b1 : decide (1 + t273.size ≤ 9223372036854775807) = true := decide_eq_true c12
              try have c12b2 : (9223372036854775807 < 1 + t273.size) = False := eq_false (Nat.not_lt.2 c12)
              by_cases c13 : ((((t269 ++ (⟨#[58]⟩ : ByteArray)) ++ t270) ++ (⟨#[58]⟩ : ByteArray)) ++ t271).size + ((⟨#[46]⟩ : ByteArray) ++ t273).size ≤ 9223372036854775807
              · rw [if_pos c13] at H
                have c13b0 := eq_true c13
                have c13b1 : decide (((((t269 ++ (⟨#[58]⟩ : ByteArray)) ++ t270) ++ (⟨#[58]⟩ : ByteArray)) ++ t271).size + ((⟨#[46]⟩ : ByteArray) ++ t273).size ≤ 9223372036854775807) = true := decide_eq_true c13
                try have c13b2 : (9223372036854775807 < ((((t269 ++ (⟨#[58]⟩ : ByteArray)) ++ t270) ++ (⟨#[58]⟩ : ByteArray)) ++ t271).size + ((⟨#[46]⟩ : ByteArray) ++ t273).size) = False := eq_false (Nat.not_lt.2 c13)
                try (have c13b2n := c13b2; simp only [ByteArray.size_append, size_mk, List.size_toArray, List.length_cons, List.length_nil, Nat.zero_add, Nat.reduceAdd] at c13b2n)
                obtain rfl := Option.some.inj H
                go_enter Tryz.func29, Tryz.ntmps29
                go_wp2_with (first | ((with_reducible refine gate_callee (f := 53) rfl ?_); refine goesL_ (some 7) rfl rfl Tryz.func53 (by kernel_rfl) rfl #[.int .i64 (wrap64 (Int.tdiv a0 3600000000000)), .int .i64 2] rfl (by (try simp only [List.map_toArray, List.map_cons, List.map_nil]); first | done | rfl | (simp only [List.length_drop, List.length_take]; rfl)) ?_; (with_reducible refine (times_pad.calls (wrap64 (Int.tdiv a0 3600000000000)) 2 t269 _ ?side1 A2.out).mono ?_); (case side1 => first | exact HLaid.out | (refine LaidW.below HLaid.out ?_; repeat (first | (with_reducible first | exact HB.out | apply below_alloc | apply pw_below_drewN | apply below_drew1) | exact HB.out))); rintro e w14 ⟨rfl, hb⟩; refine ⟨_, rfl, ?_⟩; have n0_ := Aside0.mk (below_step (by repeat (first | (with_reducible first | exact HB.out | apply below_alloc | apply pw_below_drewN | apply below_drew1) | exact HB.out)) hb); clear HB; have HB := n0_; clear n0_; (try clear hb); (try clear hb2); (try clear hk); (try clear hi)) | ((with_reducible refine gate_callee (f := 53) rfl ?_); refine goesL_ (some 12) rfl rfl Tryz.func53 (by kernel_rfl) rfl #[.int .i64 (wrap64 (Int.tdiv (Int.tmod a0 3600000000000) 60000000000)), .int .i64 2] rfl (by (try simp only [List.map_toArray, List.map_cons, List.map_nil]); first | done | rfl | (simp only [List.length_drop, List.length_take]; rfl)) ?_; (with_reducible refine (times_pad.calls (wrap64 (Int.tdiv (Int.tmod a0 3600000000000) 60000000000)) 2 t270 _ ?side1 A4.out).mono ?_); (case side1 => first | exact HLaid.out | (refine LaidW.below HLaid.out ?_; repeat (first | (with_reducible first | exact HB.out | apply below_alloc | apply pw_below_drewN | apply below_drew1) | exact HB.out))); rintro e w15 ⟨rfl, hb⟩; refine ⟨_, rfl, ?_⟩; have n0_ := Aside0.mk (below_step (by repeat (first | (with_reducible first | exact HB.out | apply below_alloc | apply pw_below_drewN | apply below_drew1) | exact HB.out)) hb); clear HB; have HB := n0_; clear n0_; (try clear hb); (try clear hb2); (try clear hk); (try clear hi)) | ((with_reducible refine gate_callee (f := 53) rfl ?_); refine goesL_ (some 18) rfl rfl Tryz.func53 (by kernel_rfl) rfl #[.int .i64 (wrap64 (Int.tdiv (Int.tmod a0 60000000000) 1000000000)), .int .i64 2] rfl (by (try simp only [List.map_toArray, List.map_cons, List.map_nil]); first | done | rfl | (simp only [List.length_drop, List.length_take]; rfl)) ?_; (with_reducible refine (times_pad.calls (wrap64 (Int.tdiv (Int.tmod a0 60000000000) 1000000000)) 2 t271 _ ?side1 A7.out).mono ?_); (case side1 => first | exact HLaid.out | (refine LaidW.below HLaid.out ?_; repeat (first | (with_reducible first | exact HB.out | apply below_alloc | apply pw_below_drewN | apply below_drew1) | exact HB.out))); rintro e w16 ⟨rfl, hb⟩; refine ⟨_, rfl, ?_⟩; have n0_ := Aside0.mk (below_step (by repeat (first | (with_reducible first | exact HB.out | apply below_alloc | apply pw_below_drewN | apply below_drew1) | exact HB.out)) hb); clear HB; have HB := n0_; clear n0_; (try clear hb); (try clear hb2); (try clear hk); (try clear hi)) | ((with_reducible refine gate_callee (f := 53) rfl ?_); refine goesL_ (some 26) rfl rfl Tryz.func53 (by kernel_rfl) rfl #[.int .i64 (Int.tmod a0 1000000000), .int .i64 9] rfl (by (try simp only [List.map_toArray, List.map_cons, List.map_nil]); first | done | rfl | (simp only [List.length_drop, List.length_take]; rfl)) ?_; (with_reducible refine (times_pad.calls (Int.tmod a0 1000000000) 9 t272 _ ?side1 A10.out).mono ?_); (case side1 => first | exact HLaid.out | (refine LaidW.below HLaid.out ?_; repeat (first | (with_reducible first | exact HB.out | apply below_alloc | apply pw_below_drewN | apply below_drew1) | exact HB.out))); rintro e w17 ⟨rfl, hb⟩; refine ⟨_, rfl, ?_⟩; have n0_ := Aside0.mk (below_step (by repeat (first | (with_reducible first | exact HB.out | apply below_alloc | apply pw_below_drewN | apply below_drew1) | exact HB.out)) hb); clear HB; have HB := n0_; clear n0_; (try clear hb); (try clear hb2); (try clear hk); (try clear hi)) | ((with_reducible refine gate_callee (f := 54) rfl ?_); refine goesL_ (some 27) rfl rfl Tryz.func54 (by kernel_rfl) rfl #[.string t272, .string (⟨#[48]⟩ : ByteArray)] rfl (by (try simp only [List.map_toArray, List.map_cons, List.map_nil]); first | done | rfl | (simp only [List.length_drop, List.length_take]; rfl)) ?_; (with_reducible refine (strings_TrimRight.calls t272 (⟨#[48]⟩ : ByteArray) t273 _ ?side1 A11.out).mono ?_); (case side1 => first | exact HLaid.out | (refine LaidW.below HLaid.out ?_; repeat (first | (with_reducible first | exact HB.out | apply below_alloc | apply pw_below_drewN | apply below_drew1) | exact HB.out))); rintro e w' ⟨rfl, ⟨nd, rfl⟩⟩; refine ⟨_, rfl, ?_⟩))
                go_ret
                exact ⟨by first | rfl | (simp [errW_none, errW_some] <;> rfl) | (simp [*, errW_none, errW_some] <;> rfl), by repeat (first | (with_reducible first | exact HB.out | apply below_alloc | apply pw_below_drewN | apply below_drew1) | exact HB.out)⟩
              · rw [if_neg c13] at H
                exact absurd H (by simp)
            · rw [if_neg c12] at H
              exact absurd H (by simp)
          · rw [if_neg c9] at H
            have c9b0 : decide (0 < (Int.tmod a0 1000000000)) = false := decide_eq_false c9
            clear c9
            obtain rfl := Option.some.inj H
            go_enter Tryz.func29, Tryz.ntmps29
            go_wp2_with (first | ((with_reducible refine gate_callee (f := 53) rfl ?_); refine goesL_ (some 7) rfl rfl Tryz.func53 (by kernel_rfl) rfl #[.int .i64 (wrap64 (Int.tdiv a0 3600000000000)), .int .i64 2] rfl (by (try simp only [List.map_toArray, List.map_cons, List.map_nil]); first | done | rfl | (simp only [List.length_drop, List.length_take]; rfl)) ?_; (with_reducible refine (times_pad.calls (wrap64 (Int.tdiv a0 3600000000000)) 2 t269 _ ?side1 A2.out).mono ?_); (case side1 => first | exact HLaid.out | (refine LaidW.below HLaid.out ?_; repeat (first | (with_reducible first | exact HB.out | apply below_alloc | apply pw_below_drewN | apply below_drew1) | exact HB.out))); rintro e w18 ⟨rfl, hb⟩; refine ⟨_, rfl, ?_⟩; have n0_ := Aside0.mk (below_step (by repeat (first | (with_reducible first | exact HB.out | apply below_alloc | apply pw_below_drewN | apply below_drew1) | exact HB.out)) hb); clear HB; have HB := n0_; clear n0_; (try clear hb); (try clear hb2); (try clear hk); (try clear hi)) | ((with_reducible refine gate_callee (f := 53) rfl ?_); refine goesL_ (some 12) rfl rfl Tryz.func53 (by kernel_rfl) rfl #[.int .i64 (wrap64 (Int.tdiv (Int.tmod a0 3600000000000) 60000000000)), .int .i64 2] rfl (by (try simp only [List.map_toArray, List.map_cons, List.map_nil]); first | done | rfl | (simp only [List.length_drop, List.length_take]; rfl)) ?_; (with_reducible refine (times_pad.calls (wrap64 (Int.tdiv (Int.tmod a0 3600000000000) 60000000000)) 2 t270 _ ?side1 A4.out).mono ?_); (case side1 => first | exact HLaid.out | (refine LaidW.below HLaid.out ?_; repeat (first | (with_reducible first | exact HB.out | apply below_alloc | apply pw_below_drewN | apply below_drew1) | exact HB.out))); rintro e w19 ⟨rfl, hb⟩; refine ⟨_, rfl, ?_⟩; have n0_ := Aside0.mk (below_step (by repeat (first | (with_reducible first | exact HB.out | apply below_alloc | apply pw_below_drewN | apply below_drew1) | exact HB.out)) hb); clear HB; have HB := n0_; clear n0_; (try clear hb); (try clear hb2); (try clear hk); (try clear hi)) | ((with_reducible refine gate_callee (f := 53) rfl ?_); refine goesL_ (some 18) rfl rfl Tryz.func53 (by kernel_rfl) rfl #[.int .i64 (wrap64 (Int.tdiv (Int.tmod a0 60000000000) 1000000000)), .int .i64 2] rfl (by (try simp only [List.map_toArray, List.map_cons, List.map_nil]); first | done | rfl | (simp only [List.length_drop, List.length_take]; rfl)) ?_; (with_reducible refine (times_pad.calls (wrap64 (Int.tdiv (Int.tmod a0 60000000000) 1000000000)) 2 t271 _ ?side1 A7.out).mono ?_); (case side1 => first | exact HLaid.out | (refine LaidW.below HLaid.out ?_; repeat (first | (with_reducible first | exact HB.out | apply below_alloc | apply pw_below_drewN | apply below_drew1) | exact HB.out))); rintro e w20 ⟨rfl, hb⟩; refine ⟨_, rfl, ?_⟩; have n0_ := Aside0.mk (below_step (by repeat (first | (with_reducible first | exact HB.out | apply below_alloc | apply pw_below_drewN | apply below_drew1) | exact HB.out)) hb); clear HB; have HB := n0_; clear n0_; (try clear hb); (try clear hb2); (try clear hk); (try clear hi)))
            go_ret
            exact ⟨by first | rfl | (simp [errW_none, errW_some] <;> rfl) | (simp [*, errW_none, errW_some] <;> rfl), by repeat (first | (with_reducible first | exact HB.out | apply below_alloc | apply pw_below_drewN | apply below_drew1) | exact HB.out)⟩
        · rw [if_neg c8] at H
          exact absurd H (by simp)
      · rw [if_neg c6] at H
        exact absurd H (by simp)
    · rw [if_neg c5] at H
      exact absurd H (by simp)
  · rw [if_neg c3] at H
    exact absurd H (by simp)

/-! ### times_Print: function 16 -/
def times_Print.f (k : Nat) (a0_0 : Int) (a0_1 : Int) (a0_2 : ByteArray) : Option (ByteArray) := (value_May.f k a0_0 a0_1 a0_2).bind fun t275 => (if t275 = true then (if a0_0 = 14 then ((times_spanText.f k (wrap64 (a0_1))).bind fun t276 => (if 2 + t276.size ≤ 9223372036854775807 then (some ((⟨#[84, 35]⟩ : ByteArray) ++ t276)) else (none))) else (if a0_0 = 15 then ((times_dateText.f k (wrap64 (Int.tdiv (wrap64 (a0_1)) 86400000000000))).bind fun t277 => (if 2 + t277.size ≤ 9223372036854775807 then (some ((⟨#[68, 35]⟩ : ByteArray) ++ t277)) else (none))) else (if a0_0 = 16 then ((times_clockText.f (wrap64 (a0_1))).bind fun t278 => (if 4 + t278.size ≤ 9223372036854775807 then (some ((⟨#[84, 79, 68, 35]⟩ : ByteArray) ++ t278)) else (none))) else (if a0_0 = 17 then ((times_dateText.f k (wrap64 (Int.tdiv (wrap64 (a0_1)) 86400000000000))).bind fun t279 => (if 3 + t279.size ≤ 9223372036854775807 then (if ((⟨#[68, 84, 35]⟩ : ByteArray) ++ t279).size + 1 ≤ 9223372036854775807 then ((times_clockText.f (Int.tmod (wrap64 (a0_1)) 86400000000000)).bind fun t280 => (if (((⟨#[68, 84, 35]⟩ : ByteArray) ++ t279) ++ (⟨#[45]⟩ : ByteArray)).size + t280.size ≤ 9223372036854775807 then (some ((((⟨#[68, 84, 35]⟩ : ByteArray) ++ t279) ++ (⟨#[45]⟩ : ByteArray)) ++ t280)) else (none))) else (none)) else (none))) else (some (⟨#[]⟩ : ByteArray)))))) else (some (⟨#[]⟩ : ByteArray)))
theorem times_Print.mono : ∀ a0 a1 a2 k, LeO (times_Print.f k a0 a1 a2) (times_Print.f (k + 1) a0 a1 a2) := by
  intro a0 a1 a2 k
  unfold times_Print.f
  repeat' first
      | (with_reducible exact times_dateText.mono _ _)
      | (with_reducible exact times_spanText.mono _ _)
      | (with_reducible exact value_May.mono _ _ _ _)
      | (with_reducible exact LeO.refl _)
      | (with_reducible exact LeO.none _)
      | (with_reducible refine LeO.ite ?_ ?_)
      | (with_reducible refine LeO.bind ?_ (fun _ => ?_))
      | exact times_dateText.mono _ _
      | exact times_spanText.mono _ _
      | exact value_May.mono _ _ _ _
      | exact LeO.none _
      | refine LeO.ite ?_ ?_
      | refine LeO.bind ?_ (fun _ => ?_)
set_option maxHeartbeats 8000000 in
set_option maxRecDepth 100000 in
theorem times_Print.calls (k : Nat) (a0_0 : Int) (a0_1 : Int) (a0_2 : ByteArray) (r : ByteArray) (w : World) (hL : LaidW w) (h : times_Print.f k a0_0 a0_1 a0_2 = some r) :
    Calls Tryz.prog 16 #[.agg #[.int .u8 a0_0, .int .u64 a0_1, .string a0_2]] w fun e w' => e = .returned (.string r) ∧ Below w.heap.size w w' := by
  have hu25 := Tryz.underlying25
  have HLaid := Aside0.mk hL
  clear hL
  have HB := Aside0.mk (Below.refl w.heap.size w)
  have H : ((value_May.f k a0_0 a0_1 a0_2).bind fun t275 => (if t275 = true then (if a0_0 = 14 then ((times_spanText.f k (wrap64 (a0_1))).bind fun t276 => (if 2 + t276.size ≤ 9223372036854775807 then (some ((⟨#[84, 35]⟩ : ByteArray) ++ t276)) else (none))) else (if a0_0 = 15 then ((times_dateText.f k (wrap64 (Int.tdiv (wrap64 (a0_1)) 86400000000000))).bind fun t277 => (if 2 + t277.size ≤ 9223372036854775807 then (some ((⟨#[68, 35]⟩ : ByteArray) ++ t277)) else (none))) else (if a0_0 = 16 then ((times_clockText.f (wrap64 (a0_1))).bind fun t278 => (if 4 + t278.size ≤ 9223372036854775807 then (some ((⟨#[84, 79, 68, 35]⟩ : ByteArray) ++ t278)) else (none))) else (if a0_0 = 17 then ((times_dateText.f k (wrap64 (Int.tdiv (wrap64 (a0_1)) 86400000000000))).bind fun t279 => (if 3 + t279.size ≤ 9223372036854775807 then (if ((⟨#[68, 84, 35]⟩ : ByteArray) ++ t279).size + 1 ≤ 9223372036854775807 then ((times_clockText.f (Int.tmod (wrap64 (a0_1)) 86400000000000)).bind fun t280 => (if (((⟨#[68, 84, 35]⟩ : ByteArray) ++ t279) ++ (⟨#[45]⟩ : ByteArray)).size + t280.size ≤ 9223372036854775807 then (some ((((⟨#[68, 84, 35]⟩ : ByteArray) ++ t279) ++ (⟨#[45]⟩ : ByteArray)) ++ t280)) else (none))) else (none)) else (none))) else (some (⟨#[]⟩ : ByteArray)))))) else (some (⟨#[]⟩ : ByteArray)))) = some r := h
  clear h
  replace H := Option.bind_eq_some_iff.mp H
  obtain ⟨t275, A20, H⟩ := H
  replace H : (if t275 = true then (if a0_0 = 14 then ((times_spanText.f k (wrap64 (a0_1))).bind fun t276 => (if 2 + t276.size ≤ 9223372036854775807 then (some ((⟨#[84, 35]⟩ : ByteArray) ++ t276)) else (none))) else (if a0_0 = 15 then ((times_dateText.f k (wrap64 (Int.tdiv (wrap64 (a0_1)) 86400000000000))).bind fun t277 => (if 2 + t277.size ≤ 9223372036854775807 then (some ((⟨#[68, 35]⟩ : ByteArray) ++ t277)) else (none))) else (if a0_0 = 16 then ((times_clockText.f (wrap64 (a0_1))).bind fun t278 => (if 4 + t278.size ≤ 9223372036854775807 then (some ((⟨#[84, 79, 68, 35]⟩ : ByteArray) ++ t278)) else (none))) else (if a0_0 = 17 then ((times_dateText.f k (wrap64 (Int.tdiv (wrap64 (a0_1)) 86400000000000))).bind fun t279 => (if 3 + t279.size ≤ 9223372036854775807 then (if ((⟨#[68, 84, 35]⟩ : ByteArray) ++ t279).size + 1 ≤ 9223372036854775807 then ((times_clockText.f (Int.tmod (wrap64 (a0_1)) 86400000000000)).bind fun t280 => (if (((⟨#[68, 84, 35]⟩ : ByteArray) ++ t279) ++ (⟨#[45]⟩ : ByteArray)).size + t280.size ≤ 9223372036854775807 then (some ((((⟨#[68, 84, 35]⟩ : ByteArray) ++ t279) ++ (⟨#[45]⟩ : ByteArray)) ++ t280)) else (none))) else (none)) else (none))) else (some (⟨#[]⟩ : ByteArray)))))) else (some (⟨#[]⟩ : ByteArray))) = some r := H
  have A2 := Aside0.mk A20
  clear A20
  by_cases c3 : t275 = true
  · subst c3
    have H1 : (if a0_0 = 14 then ((times_spanText.f k (wrap64 (a0_1))).bind fun t276 => (if 2 + t276.size ≤ 9223372036854775807 then (some ((⟨#[84, 35]⟩ : ByteArray) ++ t276)) else (none))) else (if a0_0 = 15 then ((times_dateText.f k (wrap64 (Int.tdiv (wrap64 (a0_1)) 86400000000000))).bind fun t277 => (if 2 + t277.size ≤ 9223372036854775807 then (some ((⟨#[68, 35]⟩ : ByteArray) ++ t277)) else (none))) else (if a0_0 = 16 then ((times_clockText.f (wrap64 (a0_1))).bind fun t278 => (if 4 + t278.size ≤ 9223372036854775807 then (some ((⟨#[84, 79, 68, 35]⟩ : ByteArray) ++ t278)) else (none))) else (if a0_0 = 17 then ((times_dateText.f k (wrap64 (Int.tdiv (wrap64 (a0_1)) 86400000000000))).bind fun t279 => (if 3 + t279.size ≤ 9223372036854775807 then (if ((⟨#[68, 84, 35]⟩ : ByteArray) ++ t279).size + 1 ≤ 9223372036854775807 then ((times_clockText.f (Int.tmod (wrap64 (a0_1)) 86400000000000)).bind fun t280 => (if (((⟨#[68, 84, 35]⟩ : ByteArray) ++ t279) ++ (⟨#[45]⟩ : ByteArray)).size + t280.size ≤ 9223372036854775807 then (some ((((⟨#[68, 84, 35]⟩ : ByteArray) ++ t279) ++ (⟨#[45]⟩ : ByteArray)) ++ t280)) else (none))) else (none)) else (none))) else (some (⟨#[]⟩ : ByteArray)))))) = some r := by rw [if_pos rfl] at H; exact H
    clear H
    have H := H1
    clear H1
    by_cases c4 : a0_0 = 14
    · rw [if_pos c4] at H
      have c4b0 : (a0_0 == 14) = true := beq_iff_eq.mpr c4
      have c4b1 : (a0_0 != 14) = false := bne_eq_false_iff_eq.mpr c4
      clear c4
      replace H := Option.bind_eq_some_iff.mp H
      obtain ⟨t276, A50, H⟩ := H
      replace H : (if 2 + t276.size ≤ 9223372036854775807 then (some ((⟨#[84, 35]⟩ : ByteArray) ++ t276)) else (none)) = some r := H
      have A5 := Aside0.mk A50
      clear A50
      by_cases c6 : 2 + t276.size ≤ 9223372036854775807
      · rw [if_pos c6] at H
        have c6b0 := eq_true c6
        have c6b1 : decide (2 + t276.size ≤ 9223372036854775807) = true := decide_eq_true c6
        try have c6b2 : (9223372036854775807 < 2 + t276.size) = False := eq_false (Nat.not_lt.2 c6)
        obtain rfl := Option.some.inj H
        go_enter Tryz.func16, Tryz.ntmps16
        go_wp2_with (first | ((with_reducible refine gate_dst (N := 1) rfl ?_); refine box_event ?hg (N := 1) ?hd (cs := #[.int .u8 a0_0, .int .u64 a0_1, .string a0_2]) (t := 25) ?hr ?_; (case hd => rfl); (case hg => rfl); (case hr => first | (go_simp; done) | (go_simp; rfl)); intro gb274 hg w7 hbox hb; have n0_ := Aside0.mk (below_step (by repeat (first | (with_reducible first | exact HB.out | apply below_alloc | apply pw_below_drewN | apply below_drew1) | exact HB.out)) hb); have n1_ := Aside0.mk (hbox); have n2_ := Aside0.mk ((by rw [hg]; exact (below_size (by repeat (first | (with_reducible first | exact HB.out | apply below_alloc | apply pw_below_drewN | apply below_drew1) | exact HB.out))) : w.heap.size ≤ gb274)); have n3_ := Aside0.mk ((by rw [hg]; exact (below_size (by repeat (first | (with_reducible first | exact HB.out | apply below_alloc | apply pw_below_drewN | apply below_drew1) | exact HB.out))) : w.heap.size ≤ gb274)); clear HB; have HB := n0_; have BK274 := n1_; have GW274 := n2_; have GE274 := n3_; clear n0_ n1_ n2_ n3_; clear hb hbox hg; have hcz8_0 : w7.cell? ⟨gb274, 0, none⟩ = some (.int .u8 a0_0) := (blk_cell BK274.out 0).trans rfl; have hcz8_1 : w7.cell? ⟨gb274, 1, none⟩ = some (.int .u64 a0_1) := (blk_cell BK274.out 1).trans rfl; have hcz8_2 : w7.cell? ⟨gb274, 2, none⟩ = some (.string a0_2) := (blk_cell BK274.out 2).trans rfl; have hfz8_0 := blk_frozen BK274.out 0; have hfz8_1 := blk_frozen BK274.out 1; have hfz8_2 := blk_frozen BK274.out 2) | ((with_reducible refine gate_callee (f := 26) rfl ?_); refine goesL_ (some 5) rfl rfl Tryz.func26 (by kernel_rfl) rfl #[.agg #[.int .u8 a0_0, .int .u64 a0_1, .string a0_2]] rfl (by (try simp only [List.map_toArray, List.map_cons, List.map_nil]); first | done | rfl | (simp only [List.length_drop, List.length_take]; rfl)) ?_; (with_reducible refine (value_May.calls k a0_0 a0_1 a0_2 true _ ?side1 A2.out).mono ?_); (case side1 => first | exact HLaid.out | (refine LaidW.below HLaid.out ?_; repeat (first | (with_reducible first | exact HB.out | apply below_alloc | apply pw_below_drewN | apply below_drew1 | refine below_set ?_ GE274.out) | exact HB.out))); rintro e w9 ⟨rfl, hb⟩; refine ⟨_, rfl, ?_⟩; have n0_ := Aside0.mk (blk_below (g := gb274) (o := .cells #[.int .u8 a0_0, .int .u64 a0_1, .string a0_2] 25 (0, 0)) (by (with_reducible repeat (first | refine blk_drewN ?_ _ | refine blk_drew ?_ | refine blk_alloc ?_ _)); exact BK274.out) hb); have n1_ := Aside0.mk (below_step (by repeat (first | (with_reducible first | exact HB.out | apply below_alloc | apply pw_below_drewN | apply below_drew1 | refine below_set ?_ GE274.out) | exact HB.out)) hb); clear BK274; clear HB; have BK274 := n0_; have HB := n1_; clear n0_ n1_; (try clear hb); (try clear hb2); (try clear hk); (try clear hi); have hcz10_0 : w9.cell? ⟨gb274, 0, none⟩ = some (.int .u8 a0_0) := (blk_cell BK274.out 0).trans rfl; have hcz10_1 : w9.cell? ⟨gb274, 1, none⟩ = some (.int .u64 a0_1) := (blk_cell BK274.out 1).trans rfl; have hcz10_2 : w9.cell? ⟨gb274, 2, none⟩ = some (.string a0_2) := (blk_cell BK274.out 2).trans rfl; have hfz10_0 := blk_frozen BK274.out 0; have hfz10_1 := blk_frozen BK274.out 1; have hfz10_2 := blk_frozen BK274.out 2) | ((with_reducible refine gate_callee (f := 27) rfl ?_); refine goesL_ (some 15) rfl rfl Tryz.func27 (by kernel_rfl) rfl #[.int .i64 (wrap64 (a0_1))] rfl (by (try simp only [List.map_toArray, List.map_cons, List.map_nil]); first | done | rfl | (simp only [List.length_drop, List.length_take]; rfl)) ?_; (with_reducible refine (times_spanText.calls k (wrap64 (a0_1)) t276 _ ?side1 A5.out).mono ?_); (case side1 => first | exact HLaid.out | (refine LaidW.below HLaid.out ?_; repeat (first | (with_reducible first | exact HB.out | apply below_alloc | apply pw_below_drewN | apply below_drew1 | refine below_set ?_ GE274.out) | exact HB.out))); rintro e w11 ⟨rfl, hb⟩; refine ⟨_, rfl, ?_⟩; have n0_ := Aside0.mk (blk_below (g := gb274) (o := .cells #[.int .u8 a0_0, .int .u64 a0_1, .string a0_2] 25 (0, 0)) (by (with_reducible repeat (first | refine blk_drewN ?_ _ | refine blk_drew ?_ | refine blk_alloc ?_ _)); exact BK274.out) hb); have n1_ := Aside0.mk (below_step (by repeat (first | (with_reducible first | exact HB.out | apply below_alloc | apply pw_below_drewN | apply below_drew1 | refine below_set ?_ GE274.out) | exact HB.out)) hb); clear BK274; clear HB; have BK274 := n0_; have HB := n1_; clear n0_ n1_; (try clear hb); (try clear hb2); (try clear hk); (try clear hi)))
        go_ret
        exact ⟨by first | rfl | (simp [errW_none, errW_some] <;> rfl) | (simp [*, errW_none, errW_some] <;> rfl), by repeat (first | (with_reducible first | exact HB.out | apply below_alloc | apply pw_below_drewN | apply below_drew1 | refine below_set ?_ GE274.out) | exact HB.out)⟩
      · rw [if_neg c6] at H
        exact absurd H (by simp)
    · rw [if_neg c4] at H
      have c4b0 : (a0_0 == 14) = false := beq_eq_false_iff_ne.mpr c4
      have c4b1 : (a0_0 != 14) = true := bne_iff_ne.mpr c4
      by_cases c12 : a0_0 = 15
      · rw [if_pos c12] at H
        have c12b0 : (a0_0 == 15) = true := beq_iff_eq.mpr c12
        have c12b1 : (a0_0 != 15) = false := bne_eq_false_iff_eq.mpr c12
        clear c12
        replace H := Option.bind_eq_some_iff.mp H
        obtain ⟨t277, A130, H⟩ := H
        replace H : (if 2 + t277.size ≤ 9223372036854775807 then (some ((⟨#[68, 35]⟩ : ByteArray) ++ t277)) else (none)) = some r := H
        have A13 := Aside0.mk A130
        clear A130
        by_cases c14 : 2 + t277.size ≤ 9223372036854775807
        · rw [if_pos c14] at H
          have c14b0 := eq_true c14
          have c14b1 : decide (2 + t277.size ≤ 9223372036854775807) = true := decide_eq_true c14
          try have c14b2 : (9223372036854775807 < 2 + t277.size) = False := eq_false (Nat.not_lt.2 c14)
          obtain rfl := Option.some.inj H
          go_enter Tryz.func16, Tryz.ntmps16
          go_wp2_with (first | ((with_reducible refine gate_dst (N := 1) rfl ?_); refine box_event ?hg (N := 1) ?hd (cs := #[.int .u8 a0_0, .int .u64 a0_1, .string a0_2]) (t := 25) ?hr ?_; (case hd => rfl); (case hg => rfl); (case hr => first | (go_simp; done) | (go_simp; rfl)); intro gb274 hg w15 hbox hb; have n0_ := Aside0.mk (below_step (by repeat (first | (with_reducible first | exact HB.out | apply below_alloc | apply pw_below_drewN | apply below_drew1) | exact HB.out)) hb); have n1_ := Aside0.mk (hbox); have n2_ := Aside0.mk ((by rw [hg]; exact (below_size (by repeat (first | (with_reducible first | exact HB.out | apply below_alloc | apply pw_below_drewN | apply below_drew1) | exact HB.out))) : w.heap.size ≤ gb274)); have n3_ := Aside0.mk ((by rw [hg]; exact (below_size (by repeat (first | (with_reducible first | exact HB.out | apply below_alloc | apply pw_below_drewN | apply below_drew1) | exact HB.out))) : w.heap.size ≤ gb274)); clear HB; have HB := n0_; have BK274 := n1_; have GW274 := n2_; have GE274 := n3_; clear n0_ n1_ n2_ n3_; clear hb hbox hg; have hcz16_0 : w15.cell? ⟨gb274, 0, none⟩ = some (.int .u8 a0_0) := (blk_cell BK274.out 0).trans rfl; have hcz16_1 : w15.cell? ⟨gb274, 1, none⟩ = some (.int .u64 a0_1) := (blk_cell BK274.out 1).trans rfl; have hcz16_2 : w15.cell? ⟨gb274, 2, none⟩ = some (.string a0_2) := (blk_cell BK274.out 2).trans rfl; have hfz16_0 := blk_frozen BK274.out 0; have hfz16_1 := blk_frozen BK274.out 1; have hfz16_2 := blk_frozen BK274.out 2) | ((with_reducible refine gate_callee (f := 26) rfl ?_); refine goesL_ (some 5) rfl rfl Tryz.func26 (by kernel_rfl) rfl #[.agg #[.int .u8 a0_0, .int .u64 a0_1, .string a0_2]] rfl (by (try simp only [List.map_toArray, List.map_cons, List.map_nil]); first | done | rfl | (simp only [List.length_drop, List.length_take]; rfl)) ?_; (with_reducible refine (value_May.calls k a0_0 a0_1 a0_2 true _ ?side1 A2.out).mono ?_); (case side1 => first | exact HLaid.out | (refine LaidW.below HLaid.out ?_; repeat (first | (with_reducible first | exact HB.out | apply below_alloc | apply pw_below_drewN | apply below_drew1 | refine below_set ?_ GE274.out) | exact HB.out))); rintro e w17 ⟨rfl, hb⟩; refine ⟨_, rfl, ?_⟩; have n0_ := Aside0.mk (blk_below (g := gb274) (o := .cells #[.int .u8 a0_0, .int .u64 a0_1, .string a0_2] 25 (0, 0)) (by (with_reducible repeat (first | refine blk_drewN ?_ _ | refine blk_drew ?_ | refine blk_alloc ?_ _)); exact BK274.out) hb); have n1_ := Aside0.mk (below_step (by repeat (first | (with_reducible first | exact HB.out | apply below_alloc | apply pw_below_drewN | apply below_drew1 | refine below_set ?_ GE274.out) | exact HB.out)) hb); clear BK274; clear HB; have BK274 := n0_; have HB := n1_; clear n0_ n1_; (try clear hb); (try clear hb2); (try clear hk); (try clear hi); have hcz18_0 : w17.cell? ⟨gb274, 0, none⟩ = some (.int .u8 a0_0) := (blk_cell BK274.out 0).trans rfl; have hcz18_1 : w17.cell? ⟨gb274, 1, none⟩ = some (.int .u64 a0_1) := (blk_cell BK274.out 1).trans rfl; have hcz18_2 : w17.cell? ⟨gb274, 2, none⟩ = some (.string a0_2) := (blk_cell BK274.out 2).trans rfl; have hfz18_0 := blk_frozen BK274.out 0; have hfz18_1 := blk_frozen BK274.out 1; have hfz18_2 := blk_frozen BK274.out 2) | ((with_reducible refine gate_callee (f := 28) rfl ?_); refine goesL_ (some 21) rfl rfl Tryz.func28 (by kernel_rfl) rfl #[.int .i64 (wrap64 (Int.tdiv (wrap64 (a0_1)) 86400000000000))] rfl (by (try simp only [List.map_toArray, List.map_cons, List.map_nil]); first | done | rfl | (simp only [List.length_drop, List.length_take]; rfl)) ?_; (with_reducible refine (times_dateText.calls k (wrap64 (Int.tdiv (wrap64 (a0_1)) 86400000000000)) t277 _ ?side1 A13.out).mono ?_); (case side1 => first | exact HLaid.out | (refine LaidW.below HLaid.out ?_; repeat (first | (with_reducible first | exact HB.out | apply below_alloc | apply pw_below_drewN | apply below_drew1 | refine below_set ?_ GE274.out) | exact HB.out))); rintro e w19 ⟨rfl, hb⟩; refine ⟨_, rfl, ?_⟩; have n0_ := Aside0.mk (blk_below (g := gb274) (o := .cells #[.int .u8 a0_0, .int .u64 a0_1, .string a0_2] 25 (0, 0)) (by (with_reducible repeat (first | refine blk_drewN ?_ _ | refine blk_drew ?_ | refine blk_alloc ?_ _)); exact BK274.out) hb); have n1_ := Aside0.mk (below_step (by repeat (first | (with_reducible first | exact HB.out | apply below_alloc | apply pw_below_drewN | apply below_drew1 | refine below_set ?_ GE274.out) | exact HB.out)) hb); clear BK274; clear HB; have BK274 := n0_; have HB := n1_; clear n0_ n1_; (try clear hb); (try clear hb2); (try clear hk); (try clear hi)))
          go_ret
          exact ⟨by first | rfl | (simp [errW_none, errW_some] <;> rfl) | (simp [*, errW_none, errW_some] <;> rfl), by repeat (first | (with_reducible first | exact HB.out | apply below_alloc | apply pw_below_drewN | apply below_drew1 | refine below_set ?_ GE274.out) | exact HB.out)⟩
        · rw [if_neg c14] at H
          exact absurd H (by simp)
      · rw [if_neg c12] at H
        have c12b0 : (a0_0 == 15) = false := beq_eq_false_iff_ne.mpr c12
        have c12b1 : (a0_0 != 15) = true := bne_iff_ne.mpr c12
        by_cases c20 : a0_0 = 16
        · rw [if_pos c20] at H
          have c20b0 : (a0_0 == 16) = true := beq_iff_eq.mpr c20
          have c20b1 : (a0_0 != 16) = false := bne_eq_false_iff_eq.mpr c20
          clear c20
          replace H := Option.bind_eq_some_iff.mp H
          obtain ⟨t278, A210, H⟩ := H
          replace H : (if 4 + t278.size ≤ 9223372036854775807 then (some ((⟨#[84, 79, 68, 35]⟩ : ByteArray) ++ t278)) else (none)) = some r := H
          have A21 := Aside0.mk A210
          clear A210
          by_cases c22 : 4 + t278.size ≤ 9223372036854775807
          · rw [if_pos c22] at H
            have c22b0 := eq_true c22
            have c22b1 : decide (4 + t278.size ≤ 9223372036854775807) = true := decide_eq_true c22
            try have c22b2 : (9223372036854775807 < 4 + t278.size) = False := eq_false (Nat.not_lt.2 c22)
            obtain rfl := Option.some.inj H
            go_enter Tryz.func16, Tryz.ntmps16
            go_wp2_with (first | ((with_reducible refine gate_dst (N := 1) rfl ?_); refine box_event ?hg (N := 1) ?hd (cs := #[.int .u8 a0_0, .int .u64 a0_1, .string a0_2]) (t := 25) ?hr ?_; (case hd => rfl); (case hg => rfl); (case hr => first | (go_simp; done) | (go_simp; rfl)); intro gb274 hg w23 hbox hb; have n0_ := Aside0.mk (below_step (by repeat (first | (with_reducible first | exact HB.out | apply below_alloc | apply pw_below_drewN | apply below_drew1) | exact HB.out)) hb); have n1_ := Aside0.mk (hbox); have n2_ := Aside0.mk ((by rw [hg]; exact (below_size (by repeat (first | (with_reducible first | exact HB.out | apply below_alloc | apply pw_below_drewN | apply below_drew1) | exact HB.out))) : w.heap.size ≤ gb274)); have n3_ := Aside0.mk ((by rw [hg]; exact (below_size (by repeat (first | (with_reducible first | exact HB.out | apply below_alloc | apply pw_below_drewN | apply below_drew1) | exact HB.out))) : w.heap.size ≤ gb274)); clear HB; have HB := n0_; have BK274 := n1_; have GW274 := n2_; have GE274 := n3_; clear n0_ n1_ n2_ n3_; clear hb hbox hg; have hcz24_0 : w23.cell? ⟨gb274, 0, none⟩ = some (.int .u8 a0_0) := (blk_cell BK274.out 0).trans rfl; have hcz24_1 : w23.cell? ⟨gb274, 1, none⟩ = some (.int .u64 a0_1) := (blk_cell BK274.out 1).trans rfl; have hcz24_2 : w23.cell? ⟨gb274, 2, none⟩ = some (.string a0_2) := (blk_cell BK274.out 2).trans rfl; have hfz24_0 := blk_frozen BK274.out 0; have hfz24_1 := blk_frozen BK274.out 1; have hfz24_2 := blk_frozen BK274.out 2) | ((with_reducible refine gate_callee (f := 26) rfl ?_); refine goesL_ (some 5) rfl rfl Tryz.func26 (by kernel_rfl) rfl #[.agg #[.int .u8 a0_0, .int .u64 a0_1, .string a0_2]] rfl (by (try simp only [List.map_toArray, List.map_cons, List.map_nil]); first | done | rfl | (simp only [List.length_drop, List.length_take]; rfl)) ?_; (with_reducible refine (value_May.calls k a0_0 a0_1 a0_2 true _ ?side1 A2.out).mono ?_); (case side1 => first | exact HLaid.out | (refine LaidW.below HLaid.out ?_; repeat (first | (with_reducible first | exact HB.out | apply below_alloc | apply pw_below_drewN | apply below_drew1 | refine below_set ?_ GE274.out) | exact HB.out))); rintro e w25 ⟨rfl, hb⟩; refine ⟨_, rfl, ?_⟩; have n0_ := Aside0.mk (blk_below (g := gb274) (o := .cells #[.int .u8 a0_0, .int .u64 a0_1, .string a0_2] 25 (0, 0)) (by (with_reducible repeat (first | refine blk_drewN ?_ _ | refine blk_drew ?_ | refine blk_alloc ?_ _)); exact BK274.out) hb); have n1_ := Aside0.mk (below_step (by repeat (first | (with_reducible first | exact HB.out | apply below_alloc | apply pw_below_drewN | apply below_drew1 | refine below_set ?_ GE274.out) | exact HB.out)) hb); clear BK274; clear HB; have BK274 := n0_; have HB := n1_; clear n0_ n1_; (try clear hb); (try clear hb2); (try clear hk); (try clear hi); have hcz26_0 : w25.cell? ⟨gb274, 0, none⟩ = some (.int .u8 a0_0) := (blk_cell BK274.out 0).trans rfl; have hcz26_1 : w25.cell? ⟨gb274, 1, none⟩ = some (.int .u64 a0_1) := (blk_cell BK274.out 1).trans rfl; have hcz26_2 : w25.cell? ⟨gb274, 2, none⟩ = some (.string a0_2) := (blk_cell BK274.out 2).trans rfl; have hfz26_0 := blk_frozen BK274.out 0; have hfz26_1 := blk_frozen BK274.out 1; have hfz26_2 := blk_frozen BK274.out 2) | ((with_reducible refine gate_callee (f := 29) rfl ?_); refine goesL_ (some 26) rfl rfl Tryz.func29 (by kernel_rfl) rfl #[.int .i64 (wrap64 (a0_1))] rfl (by (try simp only [List.map_toArray, List.map_cons, List.map_nil]); first | done | rfl | (simp only [List.length_drop, List.length_take]; rfl)) ?_; (with_reducible refine (times_clockText.calls (wrap64 (a0_1)) t278 _ ?side1 A21.out).mono ?_); (case side1 => first | exact HLaid.out | (refine LaidW.below HLaid.out ?_; repeat (first | (with_reducible first | exact HB.out | apply below_alloc | apply pw_below_drewN | apply below_drew1 | refine below_set ?_ GE274.out) | exact HB.out))); rintro e w27 ⟨rfl, hb⟩; refine ⟨_, rfl, ?_⟩; have n0_ := Aside0.mk (blk_below (g := gb274) (o := .cells #[.int .u8 a0_0, .int .u64 a0_1, .string a0_2] 25 (0, 0)) (by (with_reducible repeat (first | refine blk_drewN ?_ _ | refine blk_drew ?_ | refine blk_alloc ?_ _)); exact BK274.out) hb); have n1_ := Aside0.mk (below_step (by repeat (first | (with_reducible first | exact HB.out | apply below_alloc | apply pw_below_drewN | apply below_drew1 | refine below_set ?_ GE274.out) | exact HB.out)) hb); clear BK274; clear HB; have BK274 := n0_; have HB := n1_; clear n0_ n1_; (try clear hb); (try clear hb2); (try clear hk); (try clear hi)))
            go_ret
            exact ⟨by first | rfl | (simp [errW_none, errW_some] <;> rfl) | (simp [*, errW_none, errW_some] <;> rfl), by repeat (first | (with_reducible first | exact HB.out | apply below_alloc | apply pw_below_drewN | apply below_drew1 | refine below_set ?_ GE274.out) | exact HB.out)⟩
          · rw [if_neg c22] at H
            exact absurd H (by simp)
        · rw [if_neg c20] at H
          have c20b0 : (a0_0 == 16) = false := beq_eq_false_iff_ne.mpr c20
          have c20b1 : (a0_0 != 16) = true := bne_iff_ne.mpr c20
          by_cases c28 : a0_0 = 17
          · rw [if_pos c28] at H
            have c28b0 : (a0_0 == 17) = true := beq_iff_eq.mpr c28
            have c28b1 : (a0_0 != 17) = false := bne_eq_false_iff_eq.mpr c28
            clear c28
            replace H := Option.bind_eq_some_iff.mp H
            obtain ⟨t279, A290, H⟩ := H
            replace H : (if 3 + t279.size ≤ 9223372036854775807 then (if ((⟨#[68, 84, 35]⟩ : ByteArray) ++ t279).size + 1 ≤ 9223372036854775807 then ((times_clockText.f (Int.tmod (wrap64 (a0_1)) 86400000000000)).bind fun t280 => (if (((⟨#[68, 84, 35]⟩ : ByteArray) ++ t279) ++ (⟨#[45]⟩ : ByteArray)).size + t280.size ≤ 9223372036854775807 then (some ((((⟨#[68, 84, 35]⟩ : ByteArray) ++ t279) ++ (⟨#[45]⟩ : ByteArray)) ++ t280)) else (none))) else (none)) else (none)) = some r := H
            have A29 := Aside0.mk A290
            clear A290
            by_cases c30 : 3 + t279.size ≤ 9223372036854775807
            · rw [if_pos c30] at H
              have c30b0 := eq_true c30
              have c30b1 : decide (3 + t279.size ≤ 9223372036854775807) = true := decide_eq_true c30
              try have c30b2 : (9223372036854775807 < 3 + t279.size) = False := eq_false (Nat.not_lt.2 c30)
              by_cases c31 : ((⟨#[68, 84, 35]⟩ : ByteArray) ++ t279).size + 1 ≤ 9223372036854775807
              · rw [if_pos c31] at H
                have c31b0 := eq_true c31
                have c31b1 : decide (((⟨#[68, 84, 35]⟩ : ByteArray) ++ t279).size + 1 ≤ 9223372036854775807) = true := decide_eq_true c31
                try have c31b2 : (9223372036854775807 < ((⟨#[68, 84, 35]⟩ : ByteArray) ++ t279).size + 1) = False := eq_false (Nat.not_lt.2 c31)
                try (have c31b2n := c31b2; simp only [ByteArray.size_append, size_mk, List.size_toArray, List.length_cons, List.length_nil, Nat.zero_add, Nat.reduceAdd] at c31b2n)
                replace H := Option.bind_eq_some_iff.mp H
                obtain ⟨t280, A320, H⟩ := H
                replace H : (if (((⟨#[68, 84, 35]⟩ : ByteArray) ++ t279) ++ (⟨#[45]⟩ : ByteArray)).size + t280.size ≤ 9223372036854775807 then (some ((((⟨#[68, 84, 35]⟩ : ByteArray) ++ t279) ++ (⟨#[45]⟩ : ByteArray)) ++ t280)) else (none)) = some r := H
                have A32 := Aside0.mk A320
                clear A320
                by_cases c33 : (((⟨#[68, 84, 35]⟩ : ByteArray) ++ t279) ++ (⟨#[45]⟩ : ByteArray)).size + t280.size ≤ 9223372036854775807
                · rw [if_pos c33] at H
                  have c33b0 := eq_true c33
                  have c33b1 : decide ((((⟨#[68, 84, 35]⟩ : ByteArray) ++ t279) ++ (⟨#[45]⟩ : ByteArray)).size + t280.size ≤ 9223372036854775807) = true := decide_eq_true c33
                  try have c33b2 : (9223372036854775807 < (((⟨#[68, 84, 35]⟩ : ByteArray) ++ t279) ++ (⟨#[45]⟩ : ByteArray)).size + t280.size) = False := eq_false (Nat.not_lt.2 c33)
                  try (have c33b2n := c33b2; simp only [ByteArray.size_append, size_mk, List.size_toArray, List.length_cons, List.length_nil, Nat.zero_add, Nat.reduceAdd] at c33b2n)
                  obtain rfl := Option.some.inj H
                  go_enter Tryz.func16, Tryz.ntmps16
                  go_wp2_with (first | ((with_reducible refine gate_dst (N := 1) rfl ?_); refine box_event ?hg (N := 1) ?hd (cs := #[.int .u8 a0_0, .int .u64 a0_1, .string a0_2]) (t := 25) ?hr ?_; (case hd => rfl); (case hg => rfl); (case hr => first | (go_simp; done) | (go_simp; rfl)); intro gb274 hg w34 hbox hb; have n0_ := Aside0.mk (below_step (by repeat (first | (with_reducible first | exact HB.out | apply below_alloc | apply pw_below_drewN | apply below_drew1) | exact HB.out)) hb); have n1_ := Aside0.mk (hbox); have n2_ := Aside0.mk ((by rw [hg]; exact (below_size (by repeat (first | (with_reducible first | exact HB.out | apply below_alloc | apply pw_below_drewN | apply below_drew1) | exact HB.out))) : w.heap.size ≤ gb274)); have n3_ := Aside0.mk ((by rw [hg]; exact (below_size (by repeat (first | (with_reducible first | exact HB.out | apply below_alloc | apply pw_below_drewN | apply below_drew1) | exact HB.out))) : w.heap.size ≤ gb274)); clear HB; have HB := n0_; have BK274 := n1_; have GW274 := n2_; have GE274 := n3_; clear n0_ n1_ n2_ n3_; clear hb hbox hg; have hcz35_0 : w34.cell? ⟨gb274, 0, none⟩ = some (.int .u8 a0_0) := (blk_cell BK274.out 0).trans rfl; have hcz35_1 : w34.cell? ⟨gb274, 1, none⟩ = some (.int .u64 a0_1) := (blk_cell BK274.out 1).trans rfl; have hcz35_2 : w34.cell? ⟨gb274, 2, none⟩ = some (.string a0_2) := (blk_cell BK274.out 2).trans rfl; have hfz35_0 := blk_frozen BK274.out 0; have hfz35_1 := blk_frozen BK274.out 1; have hfz35_2 := blk_frozen BK274.out 2) | ((with_reducible refine gate_callee (f := 26) rfl ?_); refine goesL_ (some 5) rfl rfl Tryz.func26 (by kernel_rfl) rfl #[.agg #[.int .u8 a0_0, .int .u64 a0_1, .string a0_2]] rfl (by (try simp only [List.map_toArray, List.map_cons, List.map_nil]); first | done | rfl | (simp only [List.length_drop, List.length_take]; rfl)) ?_; (with_reducible refine (value_May.calls k a0_0 a0_1 a0_2 true _ ?side1 A2.out).mono ?_); (case side1 => first | exact HLaid.out | (refine LaidW.below HLaid.out ?_; repeat (first | (with_reducible first | exact HB.out | apply below_alloc | apply pw_below_drewN | apply below_drew1 | refine below_set ?_ GE274.out) | exact HB.out))); rintro e w36 ⟨rfl, hb⟩; refine ⟨_, rfl, ?_⟩; have n0_ := Aside0.mk (blk_below (g := gb274) (o := .cells #[.int .u8 a0_0, .int .u64 a0_1, .string a0_2] 25 (0, 0)) (by (with_reducible repeat (first | refine blk_drewN ?_ _ | refine blk_drew ?_ | refine blk_alloc ?_ _)); exact BK274.out) hb); have n1_ := Aside0.mk (below_step (by repeat (first | (with_reducible first | exact HB.out | apply below_alloc | apply pw_below_drewN | apply below_drew1 | refine below_set ?_ GE274.out) | exact HB.out)) hb); clear BK274; clear HB; have BK274 := n0_; have HB := n1_; clear n0_ n1_; (try clear hb); (try clear hb2); (try clear hk); (try clear hi); have hcz37_0 : w36.cell? ⟨gb274, 0, none⟩ = some (.int .u8 a0_0) := (blk_cell BK274.out 0).trans rfl; have hcz37_1 : w36.cell? ⟨gb274, 1, none⟩ = some (.int .u64 a0_1) := (blk_cell BK274.out 1).trans rfl; have hcz37_2 : w36.cell? ⟨gb274, 2, none⟩ = some (.string a0_2) := (blk_cell BK274.out 2).trans rfl; have hfz37_0 := blk_frozen BK274.out 0; have hfz37_1 := blk_frozen BK274.out 1; have hfz37_2 := blk_frozen BK274.out 2) | ((with_reducible refine gate_callee (f := 28) rfl ?_); refine goesL_ (some 32) rfl rfl Tryz.func28 (by kernel_rfl) rfl #[.int .i64 (wrap64 (Int.tdiv (wrap64 (a0_1)) 86400000000000))] rfl (by (try simp only [List.map_toArray, List.map_cons, List.map_nil]); first | done | rfl | (simp only [List.length_drop, List.length_take]; rfl)) ?_; (with_reducible refine (times_dateText.calls k (wrap64 (Int.tdiv (wrap64 (a0_1)) 86400000000000)) t279 _ ?side1 A29.out).mono ?_); (case side1 => first | exact HLaid.out | (refine LaidW.below HLaid.out ?_; repeat (first | (with_reducible first | exact HB.out | apply below_alloc | apply pw_below_drewN | apply below_drew1 | refine below_set ?_ GE274.out) | exact HB.out))); rintro e w38 ⟨rfl, hb⟩; refine ⟨_, rfl, ?_⟩; have n0_ := Aside0.mk (blk_below (g := gb274) (o := .cells #[.int .u8 a0_0, .int .u64 a0_1, .string a0_2] 25 (0, 0)) (by (with_reducible repeat (first | refine blk_drewN ?_ _ | refine blk_drew ?_ | refine blk_alloc ?_ _)); exact BK274.out) hb); have n1_ := Aside0.mk (below_step (by repeat (first | (with_reducible first | exact HB.out | apply below_alloc | apply pw_below_drewN | apply below_drew1 | refine below_set ?_ GE274.out) | exact HB.out)) hb); clear BK274; clear HB; have BK274 := n0_; have HB := n1_; clear n0_ n1_; (try clear hb); (try clear hb2); (try clear hk); (try clear hi)) | ((with_reducible refine gate_callee (f := 29) rfl ?_); refine goesL_ (some 37) rfl rfl Tryz.func29 (by kernel_rfl) rfl #[.int .i64 (Int.tmod (wrap64 (a0_1)) 86400000000000)] rfl (by (try simp only [List.map_toArray, List.map_cons, List.map_nil]); first | done | rfl | (simp only [List.length_drop, List.length_take]; rfl)) ?_; (with_reducible refine (times_clockText.calls (Int.tmod (wrap64 (a0_1)) 86400000000000) t280 _ ?side1 A32.out).mono ?_); (case side1 => first | exact HLaid.out | (refine LaidW.below HLaid.out ?_; repeat (first | (with_reducible first | exact HB.out | apply below_alloc | apply pw_below_drewN | apply below_drew1 | refine below_set ?_ GE274.out) | exact HB.out))); rintro e w39 ⟨rfl, hb⟩; refine ⟨_, rfl, ?_⟩; have n0_ := Aside0.mk (blk_below (g := gb274) (o := .cells #[.int .u8 a0_0, .int .u64 a0_1, .string a0_2] 25 (0, 0)) (by (with_reducible repeat (first | refine blk_drewN ?_ _ | refine blk_drew ?_ | refine blk_alloc ?_ _)); exact BK274.out) hb); have n1_ := Aside0.mk (below_step (by repeat (first | (with_reducible first | exact HB.out | apply below_alloc | apply pw_below_drewN | apply below_drew1 | refine below_set ?_ GE274.out) | exact HB.out)) hb); clear BK274; clear HB; have BK274 := n0_; have HB := n1_; clear n0_ n1_; (try clear hb); (try clear hb2); (try clear hk); (try clear hi)))
                  go_ret
                  exact ⟨by first | rfl | (simp [errW_none, errW_some] <;> rfl) | (simp [*, errW_none, errW_some] <;> rfl), by repeat (first | (with_reducible first | exact HB.out | apply below_alloc | apply pw_below_drewN | apply below_drew1 | refine below_set ?_ GE274.out) | exact HB.out)⟩
                · rw [if_neg c33] at H
                  exact absurd H (by simp)
              · rw [if_neg c31] at H
                exact absurd H (by simp)
            · rw [if_neg c30] at H
              exact absurd H (by simp)
          · rw [if_neg c28] at H
            have c28b0 : (a0_0 == 17) = false := beq_eq_false_iff_ne.mpr c28
            have c28b1 : (a0_0 != 17) = true := bne_iff_ne.mpr c28
            obtain rfl := Option.some.inj H
            go_enter Tryz.func16, Tryz.ntmps16
            go_wp2_with (first | ((with_reducible refine gate_dst (N := 1) rfl ?_); refine box_event ?hg (N := 1) ?hd (cs := #[.int .u8 a0_0, .int .u64 a0_1, .string a0_2]) (t := 25) ?hr ?_; (case hd => rfl); (case hg => rfl); (case hr => first | (go_simp; done) | (go_simp; rfl)); intro gb274 hg w40 hbox hb; have n0_ := Aside0.mk (below_step (by repeat (first | (with_reducible first | exact HB.out | apply below_alloc | apply pw_below_drewN | apply below_drew1) | exact HB.out)) hb); have n1_ := Aside0.mk (hbox); have n2_ := Aside0.mk ((by rw [hg]; exact (below_size (by repeat (first | (with_reducible first | exact HB.out | apply below_alloc | apply pw_below_drewN | apply below_drew1) | exact HB.out))) : w.heap.size ≤ gb274)); have n3_ := Aside0.mk ((by rw [hg]; exact (below_size (by repeat (first | (with_reducible first | exact HB.out | apply below_alloc | apply pw_below_drewN | apply below_drew1) | exact HB.out))) : w.heap.size ≤ gb274)); clear HB; have HB := n0_; have BK274 := n1_; have GW274 := n2_; have GE274 := n3_; clear n0_ n1_ n2_ n3_; clear hb hbox hg; have hcz41_0 : w40.cell? ⟨gb274, 0, none⟩ = some (.int .u8 a0_0) := (blk_cell BK274.out 0).trans rfl; have hcz41_1 : w40.cell? ⟨gb274, 1, none⟩ = some (.int .u64 a0_1) := (blk_cell BK274.out 1).trans rfl; have hcz41_2 : w40.cell? ⟨gb274, 2, none⟩ = some (.string a0_2) := (blk_cell BK274.out 2).trans rfl; have hfz41_0 := blk_frozen BK274.out 0; have hfz41_1 := blk_frozen BK274.out 1; have hfz41_2 := blk_frozen BK274.out 2) | ((with_reducible refine gate_callee (f := 26) rfl ?_); refine goesL_ (some 5) rfl rfl Tryz.func26 (by kernel_rfl) rfl #[.agg #[.int .u8 a0_0, .int .u64 a0_1, .string a0_2]] rfl (by (try simp only [List.map_toArray, List.map_cons, List.map_nil]); first | done | rfl | (simp only [List.length_drop, List.length_take]; rfl)) ?_; (with_reducible refine (value_May.calls k a0_0 a0_1 a0_2 true _ ?side1 A2.out).mono ?_); (case side1 => first | exact HLaid.out | (refine LaidW.below HLaid.out ?_; repeat (first | (with_reducible first | exact HB.out | apply below_alloc | apply pw_below_drewN | apply below_drew1 | refine below_set ?_ GE274.out) | exact HB.out))); rintro e w42 ⟨rfl, hb⟩; refine ⟨_, rfl, ?_⟩; have n0_ := Aside0.mk (blk_below (g := gb274) (o := .cells #[.int .u8 a0_0, .int .u64 a0_1, .string a0_2] 25 (0, 0)) (by (with_reducible repeat (first | refine blk_drewN ?_ _ | refine blk_drew ?_ | refine blk_alloc ?_ _)); exact BK274.out) hb); have n1_ := Aside0.mk (below_step (by repeat (first | (with_reducible first | exact HB.out | apply below_alloc | apply pw_below_drewN | apply below_drew1 | refine below_set ?_ GE274.out) | exact HB.out)) hb); clear BK274; clear HB; have BK274 := n0_; have HB := n1_; clear n0_ n1_; (try clear hb); (try clear hb2); (try clear hk); (try clear hi); have hcz43_0 : w42.cell? ⟨gb274, 0, none⟩ = some (.int .u8 a0_0) := (blk_cell BK274.out 0).trans rfl; have hcz43_1 : w42.cell? ⟨gb274, 1, none⟩ = some (.int .u64 a0_1) := (blk_cell BK274.out 1).trans rfl; have hcz43_2 : w42.cell? ⟨gb274, 2, none⟩ = some (.string a0_2) := (blk_cell BK274.out 2).trans rfl; have hfz43_0 := blk_frozen BK274.out 0; have hfz43_1 := blk_frozen BK274.out 1; have hfz43_2 := blk_frozen BK274.out 2))
            go_ret
            exact ⟨by first | rfl | (simp [errW_none, errW_some] <;> rfl) | (simp [*, errW_none, errW_some] <;> rfl), by repeat (first | (with_reducible first | exact HB.out | apply below_alloc | apply pw_below_drewN | apply below_drew1 | refine below_set ?_ GE274.out) | exact HB.out)⟩
  · replace c3 := Bool.eq_false_iff.mpr c3
    subst c3
    have H1 : (some (⟨#[]⟩ : ByteArray)) = some r := by rw [if_neg (show ¬ (false = true) by decide)] at H; exact H
    clear H
    have H := H1
    clear H1
    obtain rfl := Option.some.inj H
    go_enter Tryz.func16, Tryz.ntmps16
    go_wp2_with (first | ((with_reducible refine gate_dst (N := 1) rfl ?_); refine box_event ?hg (N := 1) ?hd (cs := #[.int .u8 a0_0, .int .u64 a0_1, .string a0_2]) (t := 25) ?hr ?_; (case hd => rfl); (case hg => rfl); (case hr => first | (go_simp; done) | (go_simp; rfl)); intro gb274 hg w44 hbox hb; have n0_ := Aside0.mk (below_step (by repeat (first | (with_reducible first | exact HB.out | apply below_alloc | apply pw_below_drewN | apply below_drew1) | exact HB.out)) hb); have n1_ := Aside0.mk (hbox); have n2_ := Aside0.mk ((by rw [hg]; exact (below_size (by repeat (first | (with_reducible first | exact HB.out | apply below_alloc | apply pw_below_drewN | apply below_drew1) | exact HB.out))) : w.heap.size ≤ gb274)); have n3_ := Aside0.mk ((by rw [hg]; exact (below_size (by repeat (first | (with_reducible first | exact HB.out | apply below_alloc | apply pw_below_drewN | apply below_drew1) | exact HB.out))) : w.heap.size ≤ gb274)); clear HB; have HB := n0_; have BK274 := n1_; have GW274 := n2_; have GE274 := n3_; clear n0_ n1_ n2_ n3_; clear hb hbox hg; have hcz45_0 : w44.cell? ⟨gb274, 0, none⟩ = some (.int .u8 a0_0) := (blk_cell BK274.out 0).trans rfl; have hcz45_1 : w44.cell? ⟨gb274, 1, none⟩ = some (.int .u64 a0_1) := (blk_cell BK274.out 1).trans rfl; have hcz45_2 : w44.cell? ⟨gb274, 2, none⟩ = some (.string a0_2) := (blk_cell BK274.out 2).trans rfl; have hfz45_0 := blk_frozen BK274.out 0; have hfz45_1 := blk_frozen BK274.out 1; have hfz45_2 := blk_frozen BK274.out 2) | ((with_reducible refine gate_callee (f := 26) rfl ?_); refine goesL_ (some 5) rfl rfl Tryz.func26 (by kernel_rfl) rfl #[.agg #[.int .u8 a0_0, .int .u64 a0_1, .string a0_2]] rfl (by (try simp only [List.map_toArray, List.map_cons, List.map_nil]); first | done | rfl | (simp only [List.length_drop, List.length_take]; rfl)) ?_; (with_reducible refine (value_May.calls k a0_0 a0_1 a0_2 false _ ?side1 A2.out).mono ?_); (case side1 => first | exact HLaid.out | (refine LaidW.below HLaid.out ?_; repeat (first | (with_reducible first | exact HB.out | apply below_alloc | apply pw_below_drewN | apply below_drew1 | refine below_set ?_ GE274.out) | exact HB.out))); rintro e w46 ⟨rfl, hb⟩; refine ⟨_, rfl, ?_⟩; have n0_ := Aside0.mk (blk_below (g := gb274) (o := .cells #[.int .u8 a0_0, .int .u64 a0_1, .string a0_2] 25 (0, 0)) (by (with_reducible repeat (first | refine blk_drewN ?_ _ | refine blk_drew ?_ | refine blk_alloc ?_ _)); exact BK274.out) hb); have n1_ := Aside0.mk (below_step (by repeat (first | (with_reducible first | exact HB.out | apply below_alloc | apply pw_below_drewN | apply below_drew1 | refine below_set ?_ GE274.out) | exact HB.out)) hb); clear BK274; clear HB; have BK274 := n0_; have HB := n1_; clear n0_ n1_; (try clear hb); (try clear hb2); (try clear hk); (try clear hi)))
    go_ret
    exact ⟨by first | rfl | (simp [errW_none, errW_some] <;> rfl) | (simp [*, errW_none, errW_some] <;> rfl), by repeat (first | (with_reducible first | exact HB.out | apply below_alloc | apply pw_below_drewN | apply below_drew1 | refine below_set ?_ GE274.out) | exact HB.out)⟩

/-! ### stringslite_Index: function 55 -/
/-- internal/stringslite.Index at a text of one byte. -/
def stringslite_Index.f (a0 : ByteArray) (a1 : ByteArray) : Option (Int) := if a1.size = 1 then some (Lib.indexByte a0.data.toList (a1.data.toList.getD 0 0)) else none
theorem one_byte (a : ByteArray) (h : a.size = 1) : a = ⟨#[a.data.toList.getD 0 0]⟩ := by
  obtain ⟨⟨l⟩⟩ := a
  obtain ⟨c, rfl⟩ : ∃ c, l = [c] := List.length_eq_one_iff.mp h
  rfl
theorem stringslite_Index.calls (a0 : ByteArray) (a1 : ByteArray) (r : Int) (w : World) (hL : LaidW w) (h : stringslite_Index.f a0 a1 = some r) :
    Calls Tryz.prog 55 #[.string a0, .string a1] w fun e w' => e = .returned (.int .i64 r) ∧ w = w' := by
  unfold stringslite_Index.f at h
  by_cases hc : a1.size = 1
  case neg => rw [if_neg hc] at h; cases h
  rw [if_pos hc] at h
  obtain rfl := Option.some.inj h
  have e := one_byte a1 hc
  generalize a1.data.toList.getD 0 0 = c at *
  subst e
  exact (Tryz.stringslite_Index_one a0 c w).mono fun e w' ⟨h1, h2⟩ => ⟨h1, h2.symm⟩

/-! ### stringslite_Cut: function 30 -/
def stringslite_Cut.f (a0 : ByteArray) (a1 : ByteArray) : Option (ByteArray × ByteArray × Bool) := (stringslite_Index.f a0 a1).bind fun t281 => (if t281 ≥ 0 then (if 0 ≤ t281 then (if t281 ≤ (a0.size : Int) then (if 0 ≤ (wrap64 (t281 + (a1.size : Int))) then (if (wrap64 (t281 + (a1.size : Int))) ≤ (a0.size : Int) then (some (a0.extract 0 (t281 : Int).toNat, a0.extract ((wrap64 (t281 + (a1.size : Int))) : Int).toNat a0.size, true)) else (none)) else (none)) else (none)) else (none)) else (some (a0, (⟨#[]⟩ : ByteArray), false)))
set_option maxHeartbeats 8000000 in
set_option maxRecDepth 100000 in
theorem stringslite_Cut.calls (a0 : ByteArray) (a1 : ByteArray) (r1 : ByteArray) (r2 : ByteArray) (r3 : Bool) (w : World) (hL : LaidW w) (h : stringslite_Cut.f a0 a1 = some (r1, r2, r3)) :
    Calls Tryz.prog 30 #[.string a0, .string a1] w fun e w' => e = .returned (.tuple #[.string r1, .string r2, .bool r3]) ∧ Drawn0 w w' := by
  have HLaid := Aside0.mk hL
  clear hL
  have H : ((stringslite_Index.f a0 a1).bind fun t281 => (if t281 ≥ 0 then (if 0 ≤ t281 then (if t281 ≤ (a0.size : Int) then (if 0 ≤ (wrap64 (t281 + (a1.size : Int))) then (if (wrap64 (t281 + (a1.size : Int))) ≤ (a0.size : Int) then (some (a0.extract 0 (t281 : Int).toNat, a0.extract ((wrap64 (t281 + (a1.size : Int))) : Int).toNat a0.size, true)) else (none)) else (none)) else (none)) else (none)) else (some (a0, (⟨#[]⟩ : ByteArray), false)))) = some (r1, r2, r3) := h
  clear h
  replace H := Option.bind_eq_some_iff.mp H
  obtain ⟨t281, A30, H⟩ := H
  replace H : (if t281 ≥ 0 then (if 0 ≤ t281 then (if t281 ≤ (a0.size : Int) then (if 0 ≤ (wrap64 (t281 + (a1.size : Int))) then (if (wrap64 (t281 + (a1.size : Int))) ≤ (a0.size : Int) then (some (a0.extract 0 (t281 : Int).toNat, a0.extract ((wrap64 (t281 + (a1.size : Int))) : Int).toNat a0.size, true)) else (none)) else (none)) else (none)) else (none)) else (some (a0, (⟨#[]⟩ : ByteArray), false))) = some (r1, r2, r3) := H
  have A3 := Aside0.mk A30
  clear A30
  by_cases c4 : t281 ≥ 0
  · rw [if_pos c4] at H
    have c4b0 : decide (0 ≤ t281) = true := decide_eq_true c4
    clear c4
    by_cases c5 : 0 ≤ t281
    · rw [if_pos c5] at H
      have c5b0 := eq_true c5
      have c5b1 : decide (0 ≤ t281) = true := decide_eq_true c5
      clear c5
      by_cases c6 : t281 ≤ (a0.size : Int)
      · rw [if_pos c6] at H
        have c6b0 := eq_true c6
        have c6b1 : decide (t281 ≤ (a0.size : Int)) = true := decide_eq_true c6
        clear c6
        obtain ⟨ji7, hji7⟩ : ∃ j_ : Int, (wrap64 (t281 + (a1.size : Int))) = j_ := ⟨_, rfl⟩
        replace H : (if 0 ≤ (ji7) then (if (ji7) ≤ (a0.size : Int) then (some (a0.extract 0 (t281 : Int).toNat, a0.extract ((ji7) : Int).toNat a0.size, true)) else (none)) else (none)) = some (r1, r2, r3) := by first | (rw [hji7] at H; exact H) | (simp only [hji7] at H ⊢; exact H)
        (try rw [hji7] at A3)
        have hji7w : (IntKind.i64.wrap (t281 + (a1.size : Int))) = ji7 := (i64_w _).trans hji7
        by_cases c8 : 0 ≤ (ji7)
        · rw [if_pos c8] at H
          have c8b0 := eq_true c8
          have c8b1 : decide (0 ≤ (ji7)) = true := decide_eq_true c8
          clear c8
          by_cases c9 : (ji7) ≤ (a0.size : Int)
          · rw [if_pos c9] at H
            have c9b0 := eq_true c9
            have c9b1 : decide ((ji7) ≤ (a0.size : Int)) = true := decide_eq_true c9
            clear c9
            simp only [Option.some.injEq, Prod.mk.injEq] at H
            obtain ⟨rfl, rfl, rfl⟩ := H
            go_enter Tryz.func30, Tryz.ntmps30
            go_wp2_with (first | (go_at_call 55; (with_reducible refine (stringslite_Index.calls a0 a1 t281 _ ?side1 A3.out).mono ?_); (case side1 => first | exact HLaid.out | (refine LaidW.drawn HLaid.out ?_; repeat (first | exact Drawn0.refl _ | apply Drawn0.step))); rintro e w' ⟨rfl, ⟨nd, rfl⟩⟩; (try first | exact ⟨rfl, _, World.drewN_drewN _ _ _⟩ | exact ⟨rfl, _, Eq.trans (World.drewN_drewN _ _ _) (congrArg (World.drewN _) (Nat.add_assoc _ _ _))⟩)))
            repeat (go_quiet (first | (go_at_call 55; (with_reducible refine (stringslite_Index.calls a0 a1 t281 _ ?side1 A3.out).mono ?_); (case side1 => first | exact HLaid.out | (refine LaidW.drawn HLaid.out ?_; repeat (first | exact Drawn0.refl _ | apply Drawn0.step))); rintro e w' ⟨rfl, ⟨nd, rfl⟩⟩; (try first | exact ⟨rfl, _, World.drewN_drewN _ _ _⟩ | exact ⟨rfl, _, Eq.trans (World.drewN_drewN _ _ _) (congrArg (World.drewN _) (Nat.add_assoc _ _ _))⟩))); try go_wp2_with (first | (go_at_call 55; (with_reducible refine (stringslite_Index.calls a0 a1 t281 _ ?side1 A3.out).mono ?_); (case side1 => first | exact HLaid.out | (refine LaidW.drawn HLaid.out ?_; repeat (first | exact Drawn0.refl _ | apply Drawn0.step))); rintro e w' ⟨rfl, ⟨nd, rfl⟩⟩; (try first | exact ⟨rfl, _, World.drewN_drewN _ _ _⟩ | exact ⟨rfl, _, Eq.trans (World.drewN_drewN _ _ _) (congrArg (World.drewN _) (Nat.add_assoc _ _ _))⟩))))
            go_ret3
            exact ⟨by first | rfl | (simp; done) | (simp only [← hji7] <;> (first | rfl | simp)) | (simp [*]; done), by repeat (first | exact Drawn0.refl _ | apply Drawn0.step)⟩
          · rw [if_neg c9] at H
            exact absurd H (by simp)
        · rw [if_neg c8] at H
          exact absurd H (by simp)
      · rw [if_neg c6] at H
        exact absurd H (by simp)
    · rw [if_neg c5] at H
      exact absurd H (by simp)
  · rw [if_neg c4] at H
    have c4b0 : decide (0 ≤ t281) = false := decide_eq_false c4
    clear c4
    simp only [Option.some.injEq, Prod.mk.injEq] at H
    obtain ⟨rfl, rfl, rfl⟩ := H
    go_enter Tryz.func30, Tryz.ntmps30
    go_wp2_with (first | (go_at_call 55; (with_reducible refine (stringslite_Index.calls a0 a1 t281 _ ?side1 A3.out).mono ?_); (case side1 => first | exact HLaid.out | (refine LaidW.drawn HLaid.out ?_; repeat (first | exact Drawn0.refl _ | apply Drawn0.step))); rintro e w' ⟨rfl, ⟨nd, rfl⟩⟩; (try first | exact ⟨rfl, _, World.drewN_drewN _ _ _⟩ | exact ⟨rfl, _, Eq.trans (World.drewN_drewN _ _ _) (congrArg (World.drewN _) (Nat.add_assoc _ _ _))⟩)))
    repeat (go_quiet (first | (go_at_call 55; (with_reducible refine (stringslite_Index.calls a0 a1 t281 _ ?side1 A3.out).mono ?_); (case side1 => first | exact HLaid.out | (refine LaidW.drawn HLaid.out ?_; repeat (first | exact Drawn0.refl _ | apply Drawn0.step))); rintro e w' ⟨rfl, ⟨nd, rfl⟩⟩; (try first | exact ⟨rfl, _, World.drewN_drewN _ _ _⟩ | exact ⟨rfl, _, Eq.trans (World.drewN_drewN _ _ _) (congrArg (World.drewN _) (Nat.add_assoc _ _ _))⟩))); try go_wp2_with (first | (go_at_call 55; (with_reducible refine (stringslite_Index.calls a0 a1 t281 _ ?side1 A3.out).mono ?_); (case side1 => first | exact HLaid.out | (refine LaidW.drawn HLaid.out ?_; repeat (first | exact Drawn0.refl _ | apply Drawn0.step))); rintro e w' ⟨rfl, ⟨nd, rfl⟩⟩; (try first | exact ⟨rfl, _, World.drewN_drewN _ _ _⟩ | exact ⟨rfl, _, Eq.trans (World.drewN_drewN _ _ _) (congrArg (World.drewN _) (Nat.add_assoc _ _ _))⟩))))
    go_ret3
    exact ⟨by first | rfl | (simp; done) | (simp [*]; done) | (simp [*, bne]; done), by repeat (first | exact Drawn0.refl _ | apply Drawn0.step)⟩

/-! ### strings_Cut: function 17 -/
def strings_Cut.f (a0 : ByteArray) (a1 : ByteArray) : Option (ByteArray × ByteArray × Bool) := (stringslite_Cut.f a0 a1).bind fun bt282 => (some (bt282.1, bt282.2.1, bt282.2.2))
set_option maxHeartbeats 8000000 in
set_option maxRecDepth 100000 in
theorem strings_Cut.calls (a0 : ByteArray) (a1 : ByteArray) (r1 : ByteArray) (r2 : ByteArray) (r3 : Bool) (w : World) (hL : LaidW w) (h : strings_Cut.f a0 a1 = some (r1, r2, r3)) :
    Calls Tryz.prog 17 #[.string a0, .string a1] w fun e w' => e = .returned (.tuple #[.string r1, .string r2, .bool r3]) ∧ Drawn0 w w' := by
  have HLaid := Aside0.mk hL
  clear hL
  have H : ((stringslite_Cut.f a0 a1).bind fun bt282 => (some (bt282.1, bt282.2.1, bt282.2.2))) = some (r1, r2, r3) := h
  clear h
  replace H := Option.bind_eq_some_iff.mp H
  obtain ⟨⟨t282, t283, t284⟩, A30, H⟩ := H
  replace H : (some (t282, t283, t284)) = some (r1, r2, r3) := H
  have A3 := Aside0.mk A30
  clear A30
  simp only [Option.some.injEq, Prod.mk.injEq] at H
  obtain ⟨rfl, rfl, rfl⟩ := H
  go_enter Tryz.func17, Tryz.ntmps17
  go_wp2_with (first | ((with_reducible refine gate_callee (f := 30) rfl ?_); refine goesL_ (some 9) rfl rfl Tryz.func30 (by kernel_rfl) rfl #[.string a0, .string a1] rfl (by (try simp only [List.map_toArray, List.map_cons, List.map_nil]); first | done | rfl | (simp only [List.length_drop, List.length_take]; rfl)) ?_; (with_reducible refine (stringslite_Cut.calls a0 a1 t282 t283 t284 _ ?side1 A3.out).mono ?_); (case side1 => first | exact HLaid.out | (refine LaidW.drawn HLaid.out ?_; repeat (first | exact Drawn0.refl _ | apply Drawn0.step))); rintro e w' ⟨rfl, ⟨nd, rfl⟩⟩; refine ⟨_, rfl, ?_⟩))
  go_ret3
  exact ⟨by first | rfl | (simp; done) | (simp [*]; done) | (simp [*, bne]; done), by repeat (first | exact Drawn0.refl _ | apply Drawn0.step)⟩

end Go.Proofs.YteoehlcjllbhfaaGreatDoor.XBack
