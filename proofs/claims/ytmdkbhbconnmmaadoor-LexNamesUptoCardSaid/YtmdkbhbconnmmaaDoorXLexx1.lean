-- WRITTEN BY wip/tools/xprint.py out of the translation: the kit's print with this work's hooks.
import Derived.Test.YtmdkbhbconnmmaaDoorXLexx0
namespace Go.Proofs.YtmdkbhbconnmmaaDoor.XLex
open Go.RowKit Go.Proofs.YtmdkbhbconnmmaaDoorW.PrintWords Go.Proofs.YtmdkbhbconnmmaaDoorW.PrintLast Go.Proofs.YtmdkbhbconnmmaaDoorW.PrintMore
attribute [local go_sem] max2_int min2_int max_two min_two max_three min_three max_four min_four   -- for this text's walks alone
set_option linter.unusedVariables false
set_option linter.unusedSimpArgs false

/-! ### strings_IndexByte: function 8 -/
/-- strings.IndexByte: the first place of a byte. -/
def strings_IndexByte.f (a0 : ByteArray) (a1 : Int) : Option (Int) := some (Lib.indexByte a0.data.toList a1.toNat.toUInt8)
theorem strings_IndexByte.calls (a0 : ByteArray) (a1 : Int) (r : Int) (w : World) (hL : LaidW w) (h : strings_IndexByte.f a0 a1 = some r) :
    Calls Tryd.prog 8 #[.string a0, .int .u8 a1] w fun e w' => e = .returned (.int .i64 r) ∧ w = w' := by
  obtain rfl := Option.some.inj h
  exact (Tryd.strings_IndexByte a0 a1 w).mono fun e w' ⟨h1, h2⟩ => ⟨h1, h2.symm⟩

/-! ### lex_IsAddr: function 4 -/
/-- lex.IsAddr, behind its prefix: the number's text, the bits, the direction. -/
def addrT (t : ByteArray) (b d : Int) : Int × Int × Bool := match Lib.atoiAll t.data.toList with
  | .ok v => if v < 0 then (0, 0, false) else if 4 < t.size then (0, 0, false) else if Lib.itoa v = t.toList then (b, d, true) else (0, 0, false)
  | _ => (0, 0, false)
def addrB (k : Int) : Int := if k = 0 then 1 else if k = 1 then 8 else if k = 2 then 16 else if k = 3 then 32 else 64
def addrD (s : ByteArray) : Int := Lib.indexByte [77, 73, 81] (bt s 1).toNat.toUInt8
def addrK (s : ByteArray) : Int := Lib.indexByte [88, 66, 87, 68, 76] (bt s 2).toNat.toUInt8
/-- With a point in it: the text ahead of the point. -/
def addrX (t : ByteArray) (d : Int) : Int × Int × Bool :=
  if (t.size : Int) < 3 then (0, 0, false) else if bt t (wrap64 ((t.size : Int) - 2)) ≠ 46 then (0, 0, false) else if bt t (wrap64 ((t.size : Int) - 1)) < 48 then (0, 0, false) else if bt t (wrap64 ((t.size : Int) - 1)) > 55 then (0, 0, false)
    else addrT (t.extract 0 (wrap64 ((t.size : Int) - 2)).toNat) 1 d
def addrF (s : ByteArray) : Int × Int × Bool :=
  if (s.size : Int) < 4 then (0, 0, false) else if bt s 0 ≠ 37 then (0, 0, false) else if addrD s < 0 then (0, 0, false) else if addrK s < 0 then (0, 0, false)
  else if addrK s = 0 then addrX (s.extract 3 s.size) (addrD s)
  else addrT (s.extract 3 s.size) (addrB (addrK s)) (addrD s)
/-- lex.IsAddr. -/
def lex_IsAddr.f (a0 : ByteArray) : Option (Int × Int × Bool) := if a0.size ≤ 1048576 then some (addrF a0) else none
theorem below_two {w v w' : World} (h : Below w.heap.size w v) (hb : Below v.heap.size v w') : Below w.heap.size w w' := h.trans (hb.mono h.size)
theorem index_range : ∀ (l : List UInt8) (c : UInt8), -1 ≤ Lib.indexByte l c ∧ Lib.indexByte l c < l.length
  | [], c => by simp [Lib.indexByte]
  | b :: l, c => by
    have h := index_range l c
    unfold Lib.indexByte
    rw [List.length_cons]
    repeat' split
    all_goals omega
theorem addrK_range (s : ByteArray) : addrK s ≤ 4 := by
  have h := (index_range [88, 66, 87, 68, 76] (bt s 2).toNat.toUInt8).2
  have e : (([88, 66, 87, 68, 76] : List UInt8).length : Int) = 5 := rfl
  unfold addrK
  omega
set_option maxHeartbeats 2000000 in
set_option maxRecDepth 100000 in
theorem lex_IsAddr.calls (a0 : ByteArray) (r1 r2 : Int) (r3 : Bool) (w : World) (hL : LaidW w) (h : lex_IsAddr.f a0 = some (r1, r2, r3)) :
    Calls Tryd.prog 4 #[.string a0] w fun e w' => e = .returned (.tuple #[.int .i64 r1, .int .i64 r2, .bool r3]) ∧ Below w.heap.size w w' := by
  unfold lex_IsAddr.f at h
  by_cases hs : a0.size ≤ 1048576
  case neg => rw [if_neg hs] at h; cases h
  rw [if_pos hs] at h
  replace h := Option.some.inj h
  have HN := Aside0.mk hs
  clear hs
  have HL := Aside0.mk hL
  clear hL
  have fin : ∀ {x y : Int × Int × Bool}, x = y → x = y := fun h => h
  by_cases g0 : (a0.size : Int) < 4
  · rw [addrF, if_pos g0] at h
    simp only [Prod.mk.injEq] at h
    obtain ⟨rfl, rfl, rfl⟩ := h
    have c1 : decide ((a0.size : Int) < 4) = true := decide_eq_true g0
    clear g0
    go_enter Tryd.func4, Tryd.ntmps4
    go_wp2
    go_ret3
    exact ⟨rfl, by repeat (first | exact Below.refl _ _ | apply below_drew1 | apply pw_below_drewN)⟩
  have c1 : decide ((a0.size : Int) < 4) = false := decide_eq_false g0
  have qi0 : ((0 : Int) < (a0.size : Int)) = True := eq_true (by omega)
  have q0 : (0 < a0.size) = True := eq_true (by omega)
  have hx0 : ∀ h : 0 < a0.size, ((a0[0]'h).toNat : Int) = bt a0 0 := bt_at a0 0
  by_cases g1 : bt a0 0 = 37
  case neg =>
    rw [addrF, if_neg g0, if_pos g1] at h
    simp only [Prod.mk.injEq] at h
    obtain ⟨rfl, rfl, rfl⟩ := h
    have c2 : (bt a0 0 != 37) = true := bne_iff_ne.mpr g1
    clear g0 g1
    go_enter Tryd.func4, Tryd.ntmps4
    go_wp2
    go_ret3
    exact ⟨rfl, by repeat (first | exact Below.refl _ _ | apply below_drew1 | apply pw_below_drewN)⟩
  have c2 : (bt a0 0 != 37) = false := bne_eq_false_iff_eq.mpr g1
  have qi1 : ((1 : Int) < (a0.size : Int)) = True := eq_true (by omega)
  have q1 : (1 < a0.size) = True := eq_true (by omega)
  have hx1 : ∀ h : 1 < a0.size, ((a0[1]'h).toNat : Int) = bt a0 1 := bt_at a0 1
  have qi2 : ((2 : Int) < (a0.size : Int)) = True := eq_true (by omega)
  have q2 : (2 < a0.size) = True := eq_true (by omega)
  have hx2 : ∀ h : 2 < a0.size, ((a0[2]'h).toNat : Int) = bt a0 2 := bt_at a0 2
  have qi3 : ((3 : Int) ≤ (a0.size : Int)) = True := eq_true (by omega)
  have q3 : (3 ≤ a0.size) = True := eq_true (by omega)
  obtain ⟨D, hD⟩ : ∃ D, addrD a0 = D := ⟨_, rfl⟩
  obtain ⟨K, hK⟩ : ∃ K, addrK a0 = K := ⟨_, rfl⟩
  have hK4 : K ≤ 4 := hK ▸ addrK_range a0
  have cD : ∀ w, Calls Tryd.prog 8 #[.string ⟨#[77, 73, 81]⟩, .int .u8 (bt a0 1)] w fun e w' => e = .returned (.int .i64 D) ∧ w = w' := fun w => (Tryd.strings_IndexByte ⟨#[77, 73, 81]⟩ (bt a0 1) w).mono fun e w' ⟨h1, h2⟩ => ⟨h1.trans (by rw [← hD]; rfl), h2.symm⟩
  have cK : ∀ w, Calls Tryd.prog 8 #[.string ⟨#[88, 66, 87, 68, 76]⟩, .int .u8 (bt a0 2)] w fun e w' => e = .returned (.int .i64 K) ∧ w = w' := fun w => (Tryd.strings_IndexByte ⟨#[88, 66, 87, 68, 76]⟩ (bt a0 2) w).mono fun e w' ⟨h1, h2⟩ => ⟨h1.trans (by rw [← hK]; rfl), h2.symm⟩
  have CD := Aside0.mk cD
  have CK := Aside0.mk cK
  clear cD cK
  rw [addrF, if_neg g0, if_neg (fun e => e g1), hD, hK] at h
  clear hD hK
  by_cases g2 : D < 0
  · rw [if_pos g2] at h
    simp only [Prod.mk.injEq] at h
    obtain ⟨rfl, rfl, rfl⟩ := h
    have c3 : decide (D < 0) = true := decide_eq_true g2
    clear g0 g1 g2 hK4
    go_enter Tryd.func4, Tryd.ntmps4
    go_wp2_with (first
      | (go_at_call 8; (with_reducible refine (CD.out _).mono ?_); rintro e w' ⟨rfl, rfl⟩)
      | (go_at_call 8; (with_reducible refine (CK.out _).mono ?_); rintro e w' ⟨rfl, rfl⟩))
    go_ret3
    exact ⟨rfl, by repeat (first | exact Below.refl _ _ | apply below_drew1 | apply pw_below_drewN)⟩
  have c3 : decide (D < 0) = false := decide_eq_false g2
  by_cases g3 : K < 0
  · rw [if_neg g2, if_pos g3] at h
    simp only [Prod.mk.injEq] at h
    obtain ⟨rfl, rfl, rfl⟩ := h
    have c4 : decide (K < 0) = true := decide_eq_true g3
    clear g0 g1 g2 g3 hK4
    go_enter Tryd.func4, Tryd.ntmps4
    go_wp2_with (first
      | (go_at_call 8; (with_reducible refine (CD.out _).mono ?_); rintro e w' ⟨rfl, rfl⟩)
      | (go_at_call 8; (with_reducible refine (CK.out _).mono ?_); rintro e w' ⟨rfl, rfl⟩))
    go_ret3
    exact ⟨rfl, by repeat (first | exact Below.refl _ _ | apply below_drew1 | apply pw_below_drewN)⟩
  have c4 : decide (K < 0) = false := decide_eq_false g3
  rw [if_neg g2, if_neg g3] at h
  have HH := Aside0.mk h
  have HK := Aside0.mk hK4
  have HK0 := Aside0.mk g3
  clear g0 g1 g2 g3 hK4 h
  go_enter Tryd.func4, Tryd.ntmps4
  go_upto_if 33 with (first
      | (go_at_call 8; (with_reducible refine (CD.out _).mono ?_); rintro e w' ⟨rfl, rfl⟩)
      | (go_at_call 8; (with_reducible refine (CK.out _).mono ?_); rintro e w' ⟨rfl, rfl⟩))
  obtain ⟨T, hT⟩ : ∃ T, a0.extract 3 a0.size = T := ⟨_, rfl⟩
  have hTn : T.size ≤ 1048576 := by have := HN.out; rw [← hT, ByteArray.size_extract]; omega
  have HT := Aside0.mk hTn
  rw [hT]
  rw [hT] at HH
  clear hT hTn
  go_cut [3, 5, 6] (fun v3 v5 v6 wc => ∃ t, v3 = .int .i64 D ∧ v5 = .int .i64 K ∧ v6 = .string t ∧ Aside0 (addrT t (addrB K) D = (r1, r2, r3)) ∧ Aside0 (t.size ≤ 1048576) ∧ Drawn0 w wc)
  case first =>
    have h := HH.out
    clear HH
    by_cases k0 : K = 0
    case neg =>
      rw [if_neg k0] at h
      have c5 : (K == 0) = false := beq_eq_false_iff_ne.mpr k0
      have H' := Aside0.mk h
      clear h k0
      go_wp2
      go_meet
      case rel => exact ⟨T, rfl, rfl, rfl, H', HT, by repeat (first | exact Drawn0.refl _ | apply Drawn0.step)⟩
    subst k0
    rw [if_pos rfl] at h
    unfold addrX at h
    by_cases t0 : (T.size : Int) < 3
    · rw [if_pos t0] at h
      simp only [Prod.mk.injEq] at h
      obtain ⟨rfl, rfl, rfl⟩ := h
      have d0 : decide ((T.size : Int) < 3) = true := decide_eq_true t0
      clear t0
      go_wp2
      go_ret3
      exact ⟨rfl, by repeat (first | exact Below.refl _ _ | apply below_drew1 | apply pw_below_drewN)⟩
    rw [if_neg t0] at h
    have d0 : decide ((T.size : Int) < 3) = false := decide_eq_false t0
    have i2 : wrap64 ((T.size : Int) - 2) = (T.size : Int) - 2 := by have := HT.out; unfold wrap64; omega
    have i1 : wrap64 ((T.size : Int) - 1) = (T.size : Int) - 1 := by have := HT.out; unfold wrap64; omega
    have p2 : (0 ≤ wrap64 ((T.size : Int) - 2)) = True := eq_true (by rw [i2]; omega)
    have p1 : (0 ≤ wrap64 ((T.size : Int) - 1)) = True := eq_true (by rw [i1]; omega)
    have o2 : (wrap64 ((T.size : Int) - 2) < (T.size : Int)) = True := eq_true (by rw [i2]; omega)
    have o1 : (wrap64 ((T.size : Int) - 1) < (T.size : Int)) = True := eq_true (by rw [i1]; omega)
    have l2 : (wrap64 ((T.size : Int) - 2) ≤ (T.size : Int)) = True := eq_true (by rw [i2]; omega)
    have m2 := bt_at T (wrap64 ((T.size : Int) - 2))
    have m1 := bt_at T (wrap64 ((T.size : Int) - 1))
    have sz : (T.extract 0 (wrap64 ((T.size : Int) - 2)).toNat).size ≤ 1048576 := by have := HT.out; rw [ByteArray.size_extract]; omega
    have SZ := Aside0.mk sz
    clear i1 i2 t0 sz
    by_cases t1 : bt T (wrap64 ((T.size : Int) - 2)) = 46
    case neg =>
      rw [if_pos t1] at h
      simp only [Prod.mk.injEq] at h
      obtain ⟨rfl, rfl, rfl⟩ := h
      have d1 : (bt T (wrap64 ((T.size : Int) - 2)) != 46) = true := bne_iff_ne.mpr t1
      clear t1
      go_wp2
      go_ret3
      exact ⟨rfl, by repeat (first | exact Below.refl _ _ | apply below_drew1 | apply pw_below_drewN)⟩
    rw [if_neg (fun e => e t1)] at h
    have d1 : (bt T (wrap64 ((T.size : Int) - 2)) != 46) = false := bne_eq_false_iff_eq.mpr t1
    clear t1
    by_cases t2 : bt T (wrap64 ((T.size : Int) - 1)) < 48
    · rw [if_pos t2] at h
      simp only [Prod.mk.injEq] at h
      obtain ⟨rfl, rfl, rfl⟩ := h
      have d2 : decide (bt T (wrap64 ((T.size : Int) - 1)) < 48) = true := decide_eq_true t2
      clear t2
      go_wp2
      go_ret3
      exact ⟨rfl, by repeat (first | exact Below.refl _ _ | apply below_drew1 | apply pw_below_drewN)⟩
    rw [if_neg t2] at h
    have d2 : decide (bt T (wrap64 ((T.size : Int) - 1)) < 48) = false := decide_eq_false t2
    clear t2
    by_cases t3 : bt T (wrap64 ((T.size : Int) - 1)) > 55
    · rw [if_pos t3] at h
      simp only [Prod.mk.injEq] at h
      obtain ⟨rfl, rfl, rfl⟩ := h
      have d3 : decide (55 < bt T (wrap64 ((T.size : Int) - 1))) = true := decide_eq_true t3
      clear t3
      go_wp2
      go_ret3
      exact ⟨rfl, by repeat (first | exact Below.refl _ _ | apply below_drew1 | apply pw_below_drewN)⟩
    rw [if_neg t3] at h
    have d3 : decide (55 < bt T (wrap64 ((T.size : Int) - 1))) = false := decide_eq_false t3
    clear t3
    have H' := Aside0.mk h
    clear h
    go_wp2
    go_meet
    case rel => exact ⟨_, rfl, rfl, rfl, H', SZ, by repeat (first | exact Drawn0.refl _ | apply Drawn0.step)⟩
  case rest =>
    clear HH HT c1 qi0 q0 hx0 c2 qi1 q1 hx1 qi2 q2 hx2 qi3 q3 CD CK c3 c4 HN
    obtain ⟨t, rfl, rfl, rfl, HA, HT, ⟨nc, rfl⟩⟩ := hcut
    have h := HA.out
    have ht := HT.out
    have B1 := Aside0.mk (Go.Joins.below_draws w.heap.size w nc)
    clear HA
    unfold addrT at h
    cases hA : Lib.atoiAll t.data.toList with
    | ok v =>
      rw [hA] at h
      have hb := Lib.atoiAll_bounds hA
      have HB := Aside0.mk hb
      have CA : Aside0 (∀ w, Calls Tryd.prog 9 #[.string t] w fun e w' => e = .returned (.tuple #[.int .i64 v, .nilIface]) ∧ Below w.heap.size w w') := ⟨fun w => (Tryd.strconv_Atoi_ok t (by omega) v hA w).mono fun e w' ⟨h1, hw⟩ => ⟨h1, by
        rcases hw with rfl | ⟨t, rfl⟩
        · exact Below.refl _ _
        · exact Go.Joins.below_bytesWorld _ _ _ _ (Nat.le_refl _)⟩⟩
      clear hA hb
      simp only at h
      by_cases e0 : v < 0
      · rw [if_pos e0] at h
        simp only [Prod.mk.injEq] at h
        obtain ⟨rfl, rfl, rfl⟩ := h
        have f0 : decide (v < 0) = true := decide_eq_true e0
        clear e0
        go_wp2_with (go_at_call 9; (with_reducible refine (CA.out _).mono ?_); rintro e w' ⟨rfl, hb⟩)
        go_ret3
        exact ⟨rfl, below_two (B1.out) hb⟩
      rw [if_neg e0] at h
      have f0 : decide (v < 0) = false := decide_eq_false e0
      by_cases e1 : 4 < t.size
      · rw [if_pos e1] at h
        simp only [Prod.mk.injEq] at h
        obtain ⟨rfl, rfl, rfl⟩ := h
        have f1 : decide (4 < (t.size : Int)) = true := decide_eq_true (by omega)
        have f1' : decide (4 < t.size) = true := decide_eq_true e1
        clear e1 e0
        go_wp2_with (go_at_call 9; (with_reducible refine (CA.out _).mono ?_); rintro e w' ⟨rfl, hb⟩)
        go_ret3
        exact ⟨rfl, below_two (B1.out) hb⟩
      rw [if_neg e1] at h
      have f1 : decide (4 < (t.size : Int)) = false := decide_eq_false (by omega)
      have f1' : decide (4 < t.size) = false := decide_eq_false e1
      have CI : Aside0 (∀ w, LaidW w → Calls Tryd.prog 10 #[.int .i64 v] w fun e w' => e = .returned (.string ⟨(Lib.itoa v).toArray⟩) ∧ Below w.heap.size w w') := ⟨fun w hl => (Tryd.strconv_Itoa v HB.out.1 HB.out.2 w hl.pow).mono fun e w' ⟨h1, k, os, h2⟩ => ⟨h1, by
        subst h2
        exact Lib.below_grow _ w (Nat.le_refl _) k os⟩⟩
      have HLx : Aside0 (∀ w', Below (w.drewN nc).heap.size (w.drewN nc) w' → LaidW w') := ⟨fun w' hb => (HL.out.below (Go.Joins.below_draws _ _ _)).below hb⟩
      clear e1 e0
      by_cases e2 : Lib.itoa v = t.toList
      case neg =>
        rw [if_neg e2] at h
        simp only [Prod.mk.injEq] at h
        obtain ⟨rfl, rfl, rfl⟩ := h
        have f2 : (Lib.itoa v == t.toList) = false := beq_eq_false_iff_ne.mpr e2
        clear e2
        go_wp2_with (first | (go_at_call 9; (with_reducible refine (CA.out _).mono ?_); rintro e w' ⟨rfl, hb⟩) | (go_at_call 10; (with_reducible refine (CI.out _ (HLx.out _ hb)).mono ?_); rintro e w'' ⟨rfl, hb2⟩))
        go_ret3
        exact ⟨rfl, below_two (B1.out) (hb.trans (hb2.mono hb.size))⟩
      rw [if_pos e2] at h
      simp only [Prod.mk.injEq] at h
      obtain ⟨rfl, rfl, rfl⟩ := h
      have f2 : (Lib.itoa v == t.toList) = true := beq_iff_eq.mpr e2
      clear e2
      have k4 := HK.out
      have k0 := HK0.out
      obtain rfl | rfl | rfl | rfl | rfl : K = 0 ∨ K = 1 ∨ K = 2 ∨ K = 3 ∨ K = 4 := by omega
      all_goals
        go_wp2_with (first | (go_at_call 9; (with_reducible refine (CA.out _).mono ?_); rintro e w' ⟨rfl, hb⟩) | (go_at_call 10; (with_reducible refine (CI.out _ (HLx.out _ hb)).mono ?_); rintro e w'' ⟨rfl, hb2⟩))
        go_ret3
        exact ⟨rfl, below_two (B1.out) ((hb.trans (hb2.mono hb.size)).trans (by repeat (first | exact Below.refl _ _ | apply below_drew1 | apply pw_below_drewN | (refine Below.alloc ?_ (Nat.le_trans hb.size hb2.size) _))))⟩
    | range =>
      rw [hA] at h
      simp only [Prod.mk.injEq] at h
      obtain ⟨rfl, rfl, rfl⟩ := h
      obtain ⟨tp, p, hv⟩ := (HL.out.below (Go.Joins.below_draws _ _ nc)).ran
      have CA : Aside0 (Calls Tryd.prog 9 #[.string t] (w.drewN nc) fun e w' => ∃ M, e = .returned (.tuple #[.int .i64 (Lib.atoiSat t.data.toList), .iface 40 (.pointer (some ⟨M, 0, none⟩))]) ∧ Below (w.drewN nc).heap.size (w.drewN nc) w') := ⟨(Tryd.strconv_Atoi_range_var t (by omega) hA tp p _ hv).mono fun e w' ⟨M, h1, _, _, h2⟩ => ⟨M, h1, h2⟩⟩
      clear hA hv
      go_wp2_with (go_at_call 9; (with_reducible refine CA.out.mono ?_); rintro e w' ⟨M, rfl, hb⟩)
      go_ret3
      exact ⟨rfl, below_two (B1.out) hb⟩
    | _ =>
      rw [hA] at h
      simp only [Prod.mk.injEq] at h
      obtain ⟨rfl, rfl, rfl⟩ := h
      obtain ⟨tp, p, hv⟩ := (HL.out.below (Go.Joins.below_draws _ _ nc)).syn
      have CA : Aside0 (Calls Tryd.prog 9 #[.string t] (w.drewN nc) fun e w' => ∃ M, e = .returned (.tuple #[.int .i64 0, .iface 40 (.pointer (some ⟨M, 0, none⟩))]) ∧ Below (w.drewN nc).heap.size (w.drewN nc) w') := ⟨(Tryd.strconv_Atoi_syntax_var t (by omega) (fun v e => by rw [hA] at e; cases e) (fun e => by rw [hA] at e; cases e) tp p _ hv).mono fun e w' ⟨M, h1, _, _, h2⟩ => ⟨M, h1, h2⟩⟩
      clear hA hv
      go_wp2_with (go_at_call 9; (with_reducible refine CA.out.mono ?_); rintro e w' ⟨M, rfl, hb⟩)
      go_ret3
      exact ⟨rfl, below_two (B1.out) hb⟩

/-! ### relayref03_Upper: function 11 -/
/-- A byte in capitals. -/
def upB (b : UInt8) : UInt8 := if 97 ≤ b.toNat ∧ b.toNat ≤ 122 then b - 32 else b
/-- relayref03.Upper: a text in capitals. -/
def relayref03_Upper.f (a0 : ByteArray) : Option (ByteArray) := if a0.size ≤ 1048576 then some (⟨(a0.data.toList.map upB).toArray⟩ : ByteArray) else none
/-- The row while it is turned: the first i bytes are in capitals. -/
structure UpAt (s : ByteArray) (w : World) (i : Nat) (w' : World) : Prop where
  below : Below w.heap.size w w'
  size : w'.heap.size = w.heap.size + 1
  cell : ∀ j, j < s.size → w'.cell? ⟨w.heap.size, j, none⟩ = some (.int .u8 ((if j < i then upB (s.data.toList.getD j 0) else s.data.toList.getD j 0).toNat : Int))
  free : ∀ j, j < s.size → w'.frozen? ⟨w.heap.size, j, none⟩ = false
theorem getD_at {s : ByteArray} {j : Nat} (hj : j < s.data.size) : s.data.toList.getD j 0 = s.data[j] := by
  have hl : j < s.data.toList.length := by rw [Array.length_toList]; exact hj
  rw [List.getD, List.getElem?_eq_getElem hl, Array.getElem_toList]
  rfl
theorem add_at (b j : Nat) : (⟨b, 0, none⟩ : Addr).add j = ⟨b, j, none⟩ := by
  unfold Addr.add
  split
  · rename_i e; subst e; rfl
  · rw [Nat.zero_add]
theorem UpAt.start (s : ByteArray) (w : World) (C : Array Value) (t : TypeId) (hrow : ∀ j (hj : j < s.data.size), C[j]? = some (.int .u8 (s.data[j].toNat : Int))) : UpAt s w 0 (w.alloc (.cells C t (C.size, C.size + 1))).drew := by
  refine ⟨(Go.Joins.below_alloc1 w _).drew, World.size_alloc w (.cells C t (C.size, C.size + 1)), fun j hj => ?_, fun j hj => ?_⟩
  · show (w.alloc (.cells C t (C.size, C.size + 1))).cell? _ = _
    rw [World.cell?_alloc_mark, hrow j hj, if_neg (by omega)]
    rw [getD_at hj]
  · show (w.alloc (.cells C t (C.size, C.size + 1))).frozen? _ = _
    rw [World.frozen?_alloc_mark]
    have hz : ¬ C.size ≤ j := by have := (Array.getElem?_eq_some_iff.1 (hrow j hj)).1; omega
    rw [decide_eq_false hz]
    rfl
/-- The end: the text in capitals. -/
theorem UpAt.back {s : ByteArray} {w w' : World} (h : UpAt s w s.size w') (cap : Nat) : (convert 36 9 (.slice (some ⟨w.heap.size, 0, none⟩) s.size cap)).run Tryd.prog w' = .ok (.string ⟨(s.data.toList.map upB).toArray⟩) w' := by
  have e : s.size = (s.data.toList.map upB).length := by rw [List.length_map, Array.length_toList]; rfl
  have := run_convert_bytes_back (P := Tryd.prog) w' 36 9 5 ⟨w.heap.size, 0, none⟩ cap (s.data.toList.map upB) Tryd.underlying36 Tryd.underlying5 Tryd.underlying9 (fun j hj => by
    have hj' : j < s.size := by rw [e]; exact hj
    rw [add_at, h.cell j hj', if_pos hj', getD_at hj', List.getElem_map, Array.getElem_toList])
  rw [← e] at this
  exact this
/-- One round: the byte at i is turned, or left. -/
theorem UpAt.next {s : ByteArray} {w w' : World} {i : Nat} (h : UpAt s w i w') (hi : i < s.size) (v : Int) (hv : v = ((upB (s.data.toList.getD i 0)).toNat : Int)) : UpAt s w (i + 1) (w'.setCell ⟨w.heap.size, i, none⟩ (.int .u8 v)) := by
  refine ⟨h.below.setCell (Nat.le_refl _) _, by rw [World.size_setCell]; exact h.size, fun j hj => ?_, fun j hj => by rw [World.frozen?_setCell]; exact h.free j hj⟩
  by_cases e : i = j
  · subst e
    rw [World.cell?_setCell_same _ _ _ (h.cell i hi), if_pos (by omega), hv]
  · rw [World.cell?_setCell_other _ _ _ _ (show (⟨w.heap.size, i, none⟩ : Addr) ≠ ⟨w.heap.size, j, none⟩ from fun k => e (congrArg Addr.off k)), h.cell j hj]
    by_cases c : j < i
    · rw [if_pos c, if_pos (by omega)]
    · rw [if_neg c, if_neg (by omega)]
theorem up_yes (b : UInt8) (h1 : 97 ≤ (b.toNat : Int)) (h2 : (b.toNat : Int) ≤ 122) : ((b.toNat : Int) - 32) = ((upB b).toNat : Int) := by
  unfold upB
  rw [if_pos ⟨by omega, by omega⟩, UInt8.toNat_sub_of_le _ _ (by rw [UInt8.le_iff_toNat_le]; show 32 ≤ _; omega)]
  show _ = ((b.toNat - 32 : Nat) : Int)
  omega
theorem up_no (b : UInt8) (h : ¬ (97 ≤ (b.toNat : Int) ∧ (b.toNat : Int) ≤ 122)) : upB b = b := by
  unfold upB
  rw [if_neg (by omega)]
theorem UpAt.left {s : ByteArray} {w w' : World} {i : Nat} (h : UpAt s w i w') (hv : upB (s.data.toList.getD i 0) = s.data.toList.getD i 0) : UpAt s w (i + 1) w' := by
  refine ⟨h.below, h.size, fun j hj => ?_, h.free⟩
  rw [h.cell j hj]
  by_cases e : j = i
  · subst e
    rw [if_neg (by omega), if_pos (by omega), hv]
  · by_cases c : j < i
    · rw [if_pos c, if_pos (by omega)]
    · rw [if_neg c, if_neg (by omega)]
theorem UpAt.drew {s : ByteArray} {w w' : World} {i : Nat} (h : UpAt s w i w') (n : Nat) : UpAt s w i (w'.drewN n) :=
  ⟨h.below.trans (Go.Joins.below_draws _ _ _), h.size, h.cell, h.free⟩
set_option maxHeartbeats 2000000 in
set_option maxRecDepth 100000 in
theorem relayref03_Upper.calls (a0 : ByteArray) (r : ByteArray) (w : World) (hL : LaidW w) (h : relayref03_Upper.f a0 = some r) :
    Calls Tryd.prog 11 #[.string a0] w fun e w' => e = .returned (.string r) ∧ Below w.heap.size w w' := by
  unfold relayref03_Upper.f at h
  split at h
  case isFalse => cases h
  rename_i hs
  obtain rfl := Option.some.inj h
  clear h hL
  have hconv := run_bytes_of_string (P := Tryd.prog) w 9 36 5 a0 Tryd.underlying9 Tryd.underlying36 Tryd.underlying5
  have hrow := bytesRow_at a0 (grownCap w a0.size 0 5)
  generalize grownCap w a0.size 0 5 = cap at hconv hrow
  generalize bytesRow a0 cap = C at hconv hrow
  have HS := Aside0.mk (UpAt.start a0 w C 5 hrow)
  clear hrow
  have HN := Aside0.mk hs
  clear hs
  go_enter Tryd.func11, Tryd.ntmps11
  go_wp2
  go_loopg [9] a0.size (fun kq v9 w' => ∃ (i : Nat), v9 = .int .i64 (i : Int) ∧ Aside0 (kq + i = a0.size) ∧ Aside0 (UpAt a0 w i w'))
  case atStart => exact ⟨0, rfl, ⟨rfl⟩, HS⟩
  case round =>
    clear HS
    obtain ⟨i, rfl, HK, HU⟩ := hrel
    have hk := HK.out
    have hn := HN.out
    by_cases c : i < a0.size
    · have hu := HU.out
      have hc := hu.cell i c
      have hf := hu.free i c
      rw [if_neg (by omega)] at hc
      clear hu
      have c1 : decide ((i : Int) < (a0.size : Int)) = true := decide_eq_true (by omega)
      have c2 : (0 ≤ (i : Int)) = True := eq_true (by omega)
      have c3 : ((i : Int) < (a0.size : Int)) = True := eq_true (by omega)
      go_wp2
      · have hd := getD_at c
        go_roundg (a0.size - (i + 1))
        case measure => omega
        case rel => exact ⟨i + 1, by simp, ⟨by omega⟩, ⟨HU.out.next c _ (by rw [hd]; exact up_yes _ (by assumption) (by assumption))⟩⟩
      · have hd := getD_at c
        go_roundg (a0.size - (i + 1))
        case measure => omega
        case rel => exact ⟨i + 1, by simp, ⟨by omega⟩, ⟨HU.out.left (by rw [hd]; exact up_no _ (by omega))⟩⟩
      · have hd := getD_at c
        go_roundg (a0.size - (i + 1))
        case measure => omega
        case rel => exact ⟨i + 1, by simp, ⟨by omega⟩, ⟨HU.out.left (by rw [hd]; exact up_no _ (by omega))⟩⟩
    · have c1 : decide ((i : Int) < (a0.size : Int)) = false := decide_eq_false (by omega)
      obtain rfl : i = a0.size := by omega
      have hu := HU.out
      have hback := hu.back cap
      have hb := Aside0.mk hu.below
      clear hu
      go_wp2
      go_ret
      exact ⟨rfl, hb.out⟩

/-! ### relayref03_letter: function 15 -/
def relayref03_letter.f (a0 : Int) : Option (Bool) := if a0 ≥ 97 then (if a0 ≤ 122 then (some true) else (if a0 ≥ 65 then (some (decide (a0 ≤ 90))) else (some false))) else (if a0 ≥ 65 then (some (decide (a0 ≤ 90))) else (some false))
set_option maxHeartbeats 8000000 in
set_option maxRecDepth 100000 in
theorem relayref03_letter.calls (a0 : Int) (r : Bool) (w : World) (hL : LaidW w) (h : relayref03_letter.f a0 = some r) :
    Calls Tryd.prog 15 #[.int .u8 a0] w fun e w' => e = .returned (.bool r) ∧ Drawn0 w w' := by
  have HLaid := Aside0.mk hL
  clear hL
  have H : (if a0 ≥ 97 then (if a0 ≤ 122 then (some true) else (if a0 ≥ 65 then (some (decide (a0 ≤ 90))) else (some false))) else (if a0 ≥ 65 then (some (decide (a0 ≤ 90))) else (some false))) = some r := h
  clear h
  by_cases c2 : a0 ≥ 97
  · rw [if_pos c2] at H
    have c2b0 : decide (97 ≤ a0) = true := decide_eq_true c2
    clear c2
    by_cases c3 : a0 ≤ 122
    · rw [if_pos c3] at H
      have c3b0 : decide (a0 ≤ 122) = true := decide_eq_true c3
      clear c3
      obtain rfl := Option.some.inj H
      go_enter Tryd.func15, Tryd.ntmps15
      go_wp2
      go_ret
      exact ⟨by first | rfl | (simp; done) | (simp [*]; done) | (simp [*, bne]; done), by repeat (first | exact Drawn0.refl _ | apply Drawn0.step)⟩
    · rw [if_neg c3] at H
      have c3b0 : decide (a0 ≤ 122) = false := decide_eq_false c3
      clear c3
      by_cases c4 : a0 ≥ 65
      · rw [if_pos c4] at H
        have c4b0 : decide (65 ≤ a0) = true := decide_eq_true c4
        clear c4
        obtain rfl := Option.some.inj H
        go_enter Tryd.func15, Tryd.ntmps15
        go_wp2
        go_ret
        exact ⟨by first | rfl | (simp; done) | (simp [*]; done) | (simp [*, bne]; done), by repeat (first | exact Drawn0.refl _ | apply Drawn0.step)⟩
      · rw [if_neg c4] at H
        have c4b0 : decide (65 ≤ a0) = false := decide_eq_false c4
        clear c4
        obtain rfl := Option.some.inj H
        go_enter Tryd.func15, Tryd.ntmps15
        go_wp2
        go_ret
        exact ⟨by first | rfl | (simp; done) | (simp [*]; done) | (simp [*, bne]; done), by repeat (first | exact Drawn0.refl _ | apply Drawn0.step)⟩
  · rw [if_neg c2] at H
    have c2b0 : decide (97 ≤ a0) = false := decide_eq_false c2
    clear c2
    by_cases c5 : a0 ≥ 65
    · rw [if_pos c5] at H
      have c5b0 : decide (65 ≤ a0) = true := decide_eq_true c5
      clear c5
      obtain rfl := Option.some.inj H
      go_enter Tryd.func15, Tryd.ntmps15
      go_wp2
      go_ret
      exact ⟨by first | rfl | (simp; done) | (simp [*]; done) | (simp [*, bne]; done), by repeat (first | exact Drawn0.refl _ | apply Drawn0.step)⟩
    · rw [if_neg c5] at H
      have c5b0 : decide (65 ≤ a0) = false := decide_eq_false c5
      clear c5
      obtain rfl := Option.some.inj H
      go_enter Tryd.func15, Tryd.ntmps15
      go_wp2
      go_ret
      exact ⟨by first | rfl | (simp; done) | (simp [*]; done) | (simp [*, bne]; done), by repeat (first | exact Drawn0.refl _ | apply Drawn0.step)⟩

end Go.Proofs.YtmdkbhbconnmmaaDoor.XLex
