-- WRITTEN BY wip/tools/xprint.py out of the translation: the kit's print with this work's hooks.
import Derived.Test.YtmdkbhbconnmmaaXIlx0
import Derived.Test.YtmdkbhbconnmmaaXIlx4
import Derived.Test.YtmdkbhbconnmmaaXIlx5
import Derived.Test.YtmdkbhbconnmmaaXIlx6
namespace Go.Proofs.Ytmdkbhbconnmmaa.XIl
open Go.RowKit Go.Proofs.YtmdkbhbconnmmaaW.PrintWords Go.Proofs.YtmdkbhbconnmmaaW.PrintLast Go.Proofs.YtmdkbhbconnmmaaW.PrintMore
attribute [local go_sem] max2_int min2_int max_two min_two max_three min_three max_four min_four   -- for this text's walks alone
set_option linter.unusedVariables false
set_option linter.unusedSimpArgs false

/-! ### st_Same: function 9 -/
/-! #### st_Same_1, over st_Same -/
mutual
def st_Same_1.j0Of (Fn : List (S46) → List (S46) → Option (Bool)) : Nat → Bool → Int → Int → ByteArray → Int → List (S65) → List ByteArray → List (S65) → List ByteArray → List (S50) → List (S46) → List (S46) → Int → Int → Int → Int → Int → ByteArray → Int → List (S65) → List ByteArray → List (S65) → List ByteArray → List (S50) → List (S46) → List (S46) → Int → Int → Int → Option (Bool)
 | 0, _, _, _, _, _, _, _, _, _, _, _, _, _, _, _, _, _, _, _, _, _, _, _, _, _, _, _, _, _ => none
 | k + 1, x5, x106000, x106001, x106002, x106003, x106004, x106005, x106006, x106007, x106008, x106009, x106010, x106011, x106012, x106013, x107000, x107001, x107002, x107003, x107004, x107005, x107006, x107007, x107008, x107009, x107010, x107011, x107012, x107013 => (slices_Equal_string_string.f k x106005 x107005).bind fun t107 => (if t107 = true then ((slices_Equal_string_string.f k x106007 x107007).bind fun t108 => (if t108 = true then ((api_Range.f k x106008 x107008).bind fun t109 => (st_Same_1.j1Of Fn k x5 t109 x106000 x106001 x106002 x106003 x106004 x106005 x106006 x106007 x106008 x106009 x106010 x106011 x106012 x106013 x107000 x107001 x107002 x107003 x107004 x107005 x107006 x107007 x107008 x107009 x107010 x107011 x107012 x107013)) else (st_Same_1.j1Of Fn k x5 false x106000 x106001 x106002 x106003 x106004 x106005 x106006 x106007 x106008 x106009 x106010 x106011 x106012 x106013 x107000 x107001 x107002 x107003 x107004 x107005 x107006 x107007 x107008 x107009 x107010 x107011 x107012 x107013))) else (st_Same_1.j1Of Fn k x5 false x106000 x106001 x106002 x106003 x106004 x106005 x106006 x106007 x106008 x106009 x106010 x106011 x106012 x106013 x107000 x107001 x107002 x107003 x107004 x107005 x107006 x107007 x107008 x107009 x107010 x107011 x107012 x107013))
def st_Same_1.j1Of (Fn : List (S46) → List (S46) → Option (Bool)) : Nat → Bool → Bool → Int → Int → ByteArray → Int → List (S65) → List ByteArray → List (S65) → List ByteArray → List (S50) → List (S46) → List (S46) → Int → Int → Int → Int → Int → ByteArray → Int → List (S65) → List ByteArray → List (S65) → List ByteArray → List (S50) → List (S46) → List (S46) → Int → Int → Int → Option (Bool)
 | 0, _, _, _, _, _, _, _, _, _, _, _, _, _, _, _, _, _, _, _, _, _, _, _, _, _, _, _, _, _, _ => none
 | k + 1, x5, x6, x106000, x106001, x106002, x106003, x106004, x106005, x106006, x106007, x106008, x106009, x106010, x106011, x106012, x106013, x107000, x107001, x107002, x107003, x107004, x107005, x107006, x107007, x107008, x107009, x107010, x107011, x107012, x107013 => if x5 = true then (if x6 = true then ((st_sameExprs.f k x106004 x107004).bind fun t110 => (if t110 = true then ((st_sameExprs.f k x106006 x107006).bind fun t111 => (if t111 = true then ((Fn x106009 x107009).bind fun t112 => (if t112 = true then ((Fn x106010 x107010).bind fun t113 => (some t113)) else (some false))) else (some false))) else (some false))) else (some false)) else (some false)
end
def st_Same_1.fOf (Fn : List (S46) → List (S46) → Option (Bool)) (k : Nat) (a0_0 : Int) (a0_1 : Int) (a0_2 : ByteArray) (a0_3 : Int) (l0_4 : List (S65)) (l0_5 : List ByteArray) (l0_6 : List (S65)) (l0_7 : List ByteArray) (l0_8 : List (S50)) (l0_9 : List (S46)) (l0_10 : List (S46)) (a0_11 : Int) (a0_12 : Int) (a0_13 : Int) (a1_0 : Int) (a1_1 : Int) (a1_2 : ByteArray) (a1_3 : Int) (l1_4 : List (S65)) (l1_5 : List ByteArray) (l1_6 : List (S65)) (l1_7 : List ByteArray) (l1_8 : List (S50)) (l1_9 : List (S46)) (l1_10 : List (S46)) (a1_11 : Int) (a1_12 : Int) (a1_13 : Int) : Option (Bool) := if a0_0 = a1_0 then (if a0_2.toList = a1_2.toList then (if a0_3 = a1_3 then (st_Same_1.j0Of Fn k true a0_0 a0_1 a0_2 a0_3 l0_4 l0_5 l0_6 l0_7 l0_8 l0_9 l0_10 a0_11 a0_12 a0_13 a1_0 a1_1 a1_2 a1_3 l1_4 l1_5 l1_6 l1_7 l1_8 l1_9 l1_10 a1_11 a1_12 a1_13) else (st_Same_1.j0Of Fn k (a0_0 == 5) a0_0 a0_1 a0_2 a0_3 l0_4 l0_5 l0_6 l0_7 l0_8 l0_9 l0_10 a0_11 a0_12 a0_13 a1_0 a1_1 a1_2 a1_3 l1_4 l1_5 l1_6 l1_7 l1_8 l1_9 l1_10 a1_11 a1_12 a1_13)) else (st_Same_1.j0Of Fn k false a0_0 a0_1 a0_2 a0_3 l0_4 l0_5 l0_6 l0_7 l0_8 l0_9 l0_10 a0_11 a0_12 a0_13 a1_0 a1_1 a1_2 a1_3 l1_4 l1_5 l1_6 l1_7 l1_8 l1_9 l1_10 a1_11 a1_12 a1_13)) else (st_Same_1.j0Of Fn k false a0_0 a0_1 a0_2 a0_3 l0_4 l0_5 l0_6 l0_7 l0_8 l0_9 l0_10 a0_11 a0_12 a0_13 a1_0 a1_1 a1_2 a1_3 l1_4 l1_5 l1_6 l1_7 l1_8 l1_9 l1_10 a1_11 a1_12 a1_13)

theorem st_Same_1.mono_lOf (Fn Fn' : List (S46) → List (S46) → Option (Bool)) (hle_ : ∀ z0 z1, LeO (Fn z0 z1) (Fn' z0 z1)) : ∀ k, (∀ y0 y1 y2 y3 y4 y5 y6 y7 y8 y9 y10 y11 y12 y13 y14 y15 y16 y17 y18 y19 y20 y21 y22 y23 y24 y25 y26 y27 y28, LeO (st_Same_1.j0Of Fn k y0 y1 y2 y3 y4 y5 y6 y7 y8 y9 y10 y11 y12 y13 y14 y15 y16 y17 y18 y19 y20 y21 y22 y23 y24 y25 y26 y27 y28) (st_Same_1.j0Of Fn' (k + 1) y0 y1 y2 y3 y4 y5 y6 y7 y8 y9 y10 y11 y12 y13 y14 y15 y16 y17 y18 y19 y20 y21 y22 y23 y24 y25 y26 y27 y28)) ∧ (∀ y0 y1 y2 y3 y4 y5 y6 y7 y8 y9 y10 y11 y12 y13 y14 y15 y16 y17 y18 y19 y20 y21 y22 y23 y24 y25 y26 y27 y28 y29, LeO (st_Same_1.j1Of Fn k y0 y1 y2 y3 y4 y5 y6 y7 y8 y9 y10 y11 y12 y13 y14 y15 y16 y17 y18 y19 y20 y21 y22 y23 y24 y25 y26 y27 y28 y29) (st_Same_1.j1Of Fn' (k + 1) y0 y1 y2 y3 y4 y5 y6 y7 y8 y9 y10 y11 y12 y13 y14 y15 y16 y17 y18 y19 y20 y21 y22 y23 y24 y25 y26 y27 y28 y29))
 | 0 => ⟨fun _ _ _ _ _ _ _ _ _ _ _ _ _ _ _ _ _ _ _ _ _ _ _ _ _ _ _ _ _ r h => by simp [st_Same_1.j0Of] at h, fun _ _ _ _ _ _ _ _ _ _ _ _ _ _ _ _ _ _ _ _ _ _ _ _ _ _ _ _ _ _ r h => by simp [st_Same_1.j1Of] at h⟩
 | k + 1 => by
  obtain ⟨ih0, ih1⟩ := st_Same_1.mono_lOf Fn Fn' hle_ k
  refine ⟨?_, ?_⟩
  · intro y0 y1 y2 y3 y4 y5 y6 y7 y8 y9 y10 y11 y12 y13 y14 y15 y16 y17 y18 y19 y20 y21 y22 y23 y24 y25 y26 y27 y28
    unfold st_Same_1.j0Of
    repeat' first
    | (with_reducible exact ih0 _ _ _ _ _ _ _ _ _ _ _ _ _ _ _ _ _ _ _ _ _ _ _ _ _ _ _ _ _)
    | (with_reducible exact ih1 _ _ _ _ _ _ _ _ _ _ _ _ _ _ _ _ _ _ _ _ _ _ _ _ _ _ _ _ _ _)
    | (with_reducible exact api_Range.mono _ _ _)
    | (with_reducible exact slices_Equal_string_string.mono _ _ _)
    | (with_reducible exact hle_ _ _)
    | (with_reducible exact st_sameExprs.mono _ _ _)
    | (with_reducible exact LeO.refl _)
    | (with_reducible exact LeO.none _)
    | (with_reducible refine LeO.ite ?_ ?_)
    | (with_reducible refine LeO.bind ?_ (fun _ => ?_))
    | exact ih0 _ _ _ _ _ _ _ _ _ _ _ _ _ _ _ _ _ _ _ _ _ _ _ _ _ _ _ _ _
    | exact ih1 _ _ _ _ _ _ _ _ _ _ _ _ _ _ _ _ _ _ _ _ _ _ _ _ _ _ _ _ _ _
    | exact api_Range.mono _ _ _
    | exact slices_Equal_string_string.mono _ _ _
    | exact hle_ _ _
    | exact st_sameExprs.mono _ _ _
    | exact LeO.none _
    | refine LeO.ite ?_ ?_
    | refine LeO.bind ?_ (fun _ => ?_)
  · intro y0 y1 y2 y3 y4 y5 y6 y7 y8 y9 y10 y11 y12 y13 y14 y15 y16 y17 y18 y19 y20 y21 y22 y23 y24 y25 y26 y27 y28 y29
    unfold st_Same_1.j1Of
    repeat' first
    | (with_reducible exact ih0 _ _ _ _ _ _ _ _ _ _ _ _ _ _ _ _ _ _ _ _ _ _ _ _ _ _ _ _ _)
    | (with_reducible exact ih1 _ _ _ _ _ _ _ _ _ _ _ _ _ _ _ _ _ _ _ _ _ _ _ _ _ _ _ _ _ _)
    | (with_reducible exact api_Range.mono _ _ _)
    | (with_reducible exact slices_Equal_string_string.mono _ _ _)
    | (with_reducible exact hle_ _ _)
    | (with_reducible exact st_sameExprs.mono _ _ _)
    | (with_reducible exact LeO.refl _)
    | (with_reducible exact LeO.none _)
    | (with_reducible refine LeO.ite ?_ ?_)
    | (with_reducible refine LeO.bind ?_ (fun _ => ?_))
    | exact ih0 _ _ _ _ _ _ _ _ _ _ _ _ _ _ _ _ _ _ _ _ _ _ _ _ _ _ _ _ _
    | exact ih1 _ _ _ _ _ _ _ _ _ _ _ _ _ _ _ _ _ _ _ _ _ _ _ _ _ _ _ _ _ _
    | exact api_Range.mono _ _ _
    | exact slices_Equal_string_string.mono _ _ _
    | exact hle_ _ _
    | exact st_sameExprs.mono _ _ _
    | exact LeO.none _
    | refine LeO.ite ?_ ?_
    | refine LeO.bind ?_ (fun _ => ?_)
theorem st_Same_1.monoOf (Fn Fn' : List (S46) → List (S46) → Option (Bool)) (hle_ : ∀ z0 z1, LeO (Fn z0 z1) (Fn' z0 z1)) : ∀ a0 a1 a2 a3 a4 a5 a6 a7 a8 a9 a10 a11 a12 a13 a14 a15 a16 a17 a18 a19 a20 a21 a22 a23 a24 a25 a26 a27 k, LeO (st_Same_1.fOf Fn k a0 a1 a2 a3 a4 a5 a6 a7 a8 a9 a10 a11 a12 a13 a14 a15 a16 a17 a18 a19 a20 a21 a22 a23 a24 a25 a26 a27) (st_Same_1.fOf Fn' (k + 1) a0 a1 a2 a3 a4 a5 a6 a7 a8 a9 a10 a11 a12 a13 a14 a15 a16 a17 a18 a19 a20 a21 a22 a23 a24 a25 a26 a27) := by
 intro a0 a1 a2 a3 a4 a5 a6 a7 a8 a9 a10 a11 a12 a13 a14 a15 a16 a17 a18 a19 a20 a21 a22 a23 a24 a25 a26 a27 k
 obtain ⟨ih0, ih1⟩ := st_Same_1.mono_lOf Fn Fn' hle_ k
 unfold st_Same_1.fOf
 repeat' first
  | (with_reducible exact ih0 _ _ _ _ _ _ _ _ _ _ _ _ _ _ _ _ _ _ _ _ _ _ _ _ _ _ _ _ _)
  | (with_reducible exact ih1 _ _ _ _ _ _ _ _ _ _ _ _ _ _ _ _ _ _ _ _ _ _ _ _ _ _ _ _ _ _)
  | (with_reducible exact api_Range.mono _ _ _)
  | (with_reducible exact slices_Equal_string_string.mono _ _ _)
  | (with_reducible exact hle_ _ _)
  | (with_reducible exact st_sameExprs.mono _ _ _)
  | (with_reducible exact LeO.refl _)
  | (with_reducible exact LeO.none _)
  | (with_reducible refine LeO.ite ?_ ?_)
  | (with_reducible refine LeO.bind ?_ (fun _ => ?_))
  | exact ih0 _ _ _ _ _ _ _ _ _ _ _ _ _ _ _ _ _ _ _ _ _ _ _ _ _ _ _ _ _
  | exact ih1 _ _ _ _ _ _ _ _ _ _ _ _ _ _ _ _ _ _ _ _ _ _ _ _ _ _ _ _ _ _
  | exact api_Range.mono _ _ _
  | exact slices_Equal_string_string.mono _ _ _
  | exact hle_ _ _
  | exact st_sameExprs.mono _ _ _
  | exact LeO.none _
  | refine LeO.ite ?_ ?_
  | refine LeO.bind ?_ (fun _ => ?_)

set_option maxHeartbeats 8000000 in
set_option maxRecDepth 100000 in
theorem st_Same_1.callsOf (Fn : List (S46) → List (S46) → Option (Bool)) (hFn : ∀ (A0 : Option Addr) (c0 : Nat) (l0 : List (S46)) (A1 : Option Addr) (c1 : Nat) (l1 : List (S46)) (r : Bool) (w : World) (hr0 : Kd.C k46 w A0 l0.length l0) (hc0 : l0.length ≤ c0) (hr1 : Kd.C k46 w A1 l1.length l1) (hc1 : l1.length ≤ c1) (h : Fn l0 l1 = some r), Calls Try.prog 9 #[.slice A0 l0.length c0, .slice A1 l1.length c1] w fun e w' => e = .returned (.bool r) ∧ Below w.heap.size w w') (k : Nat) (a0_0 : Int) (a0_1 : Int) (a0_2 : ByteArray) (a0_3 : Int) (A0_4 : Option Addr) (c0_4 : Nat) (l0_4 : List (S65)) (A0_5 : Option Addr) (c0_5 : Nat) (l0_5 : List ByteArray) (A0_6 : Option Addr) (c0_6 : Nat) (l0_6 : List (S65)) (A0_7 : Option Addr) (c0_7 : Nat) (l0_7 : List ByteArray) (A0_8 : Option Addr) (c0_8 : Nat) (l0_8 : List (S50)) (A0_9 : Option Addr) (c0_9 : Nat) (l0_9 : List (S46)) (A0_10 : Option Addr) (c0_10 : Nat) (l0_10 : List (S46)) (a0_11 : Int) (a0_12 : Int) (a0_13 : Int) (a1_0 : Int) (a1_1 : Int) (a1_2 : ByteArray) (a1_3 : Int) (A1_4 : Option Addr) (c1_4 : Nat) (l1_4 : List (S65)) (A1_5 : Option Addr) (c1_5 : Nat) (l1_5 : List ByteArray) (A1_6 : Option Addr) (c1_6 : Nat) (l1_6 : List (S65)) (A1_7 : Option Addr) (c1_7 : Nat) (l1_7 : List ByteArray) (A1_8 : Option Addr) (c1_8 : Nat) (l1_8 : List (S50)) (A1_9 : Option Addr) (c1_9 : Nat) (l1_9 : List (S46)) (A1_10 : Option Addr) (c1_10 : Nat) (l1_10 : List (S46)) (a1_11 : Int) (a1_12 : Int) (a1_13 : Int) (r : Bool) (w : World) (hr0_4 : Kd.C k65 w A0_4 l0_4.length l0_4) (hc0_4 : l0_4.length ≤ c0_4) (hr0_5 : Kd.C Kd.string w A0_5 l0_5.length l0_5) (hc0_5 : l0_5.length ≤ c0_5) (hr0_6 : Kd.C k65 w A0_6 l0_6.length l0_6) (hc0_6 : l0_6.length ≤ c0_6) (hr0_7 : Kd.C Kd.string w A0_7 l0_7.length l0_7) (hc0_7 : l0_7.length ≤ c0_7) (hr0_8 : Kd.C k50 w A0_8 l0_8.length l0_8) (hc0_8 : l0_8.length ≤ c0_8) (hr0_9 : Kd.C k46 w A0_9 l0_9.length l0_9) (hc0_9 : l0_9.length ≤ c0_9) (hr0_10 : Kd.C k46 w A0_10 l0_10.length l0_10) (hc0_10 : l0_10.length ≤ c0_10) (hr1_4 : Kd.C k65 w A1_4 l1_4.length l1_4) (hc1_4 : l1_4.length ≤ c1_4) (hr1_5 : Kd.C Kd.string w A1_5 l1_5.length l1_5) (hc1_5 : l1_5.length ≤ c1_5) (hr1_6 : Kd.C k65 w A1_6 l1_6.length l1_6) (hc1_6 : l1_6.length ≤ c1_6) (hr1_7 : Kd.C Kd.string w A1_7 l1_7.length l1_7) (hc1_7 : l1_7.length ≤ c1_7) (hr1_8 : Kd.C k50 w A1_8 l1_8.length l1_8) (hc1_8 : l1_8.length ≤ c1_8) (hr1_9 : Kd.C k46 w A1_9 l1_9.length l1_9) (hc1_9 : l1_9.length ≤ c1_9) (hr1_10 : Kd.C k46 w A1_10 l1_10.length l1_10) (hc1_10 : l1_10.length ≤ c1_10) (h : st_Same_1.fOf Fn k a0_0 a0_1 a0_2 a0_3 l0_4 l0_5 l0_6 l0_7 l0_8 l0_9 l0_10 a0_11 a0_12 a0_13 a1_0 a1_1 a1_2 a1_3 l1_4 l1_5 l1_6 l1_7 l1_8 l1_9 l1_10 a1_11 a1_12 a1_13 = some r) :
 Calls Try.prog 21 #[.agg #[.int .i64 a0_0, .int .i64 a0_1, .string a0_2, .int .i64 a0_3, .slice A0_4 l0_4.length c0_4, .slice A0_5 l0_5.length c0_5, .slice A0_6 l0_6.length c0_6, .slice A0_7 l0_7.length c0_7, .slice A0_8 l0_8.length c0_8, .slice A0_9 l0_9.length c0_9, .slice A0_10 l0_10.length c0_10, .int .u8 a0_11, .int .i64 a0_12, .int .i64 a0_13], .agg #[.int .i64 a1_0, .int .i64 a1_1, .string a1_2, .int .i64 a1_3, .slice A1_4 l1_4.length c1_4, .slice A1_5 l1_5.length c1_5, .slice A1_6 l1_6.length c1_6, .slice A1_7 l1_7.length c1_7, .slice A1_8 l1_8.length c1_8, .slice A1_9 l1_9.length c1_9, .slice A1_10 l1_10.length c1_10, .int .u8 a1_11, .int .i64 a1_12, .int .i64 a1_13]] w fun e w' => e = .returned (.bool r) ∧ Below w.heap.size w w' := by
 have hu46 := Try.underlying46
 have HR0_4 := Aside0.mk hr0_4
 have HC0_4 := Aside0.mk hc0_4
 clear hr0_4 hc0_4
 have HR0_5 := Aside0.mk hr0_5
 have HC0_5 := Aside0.mk hc0_5
 clear hr0_5 hc0_5
 have HR0_6 := Aside0.mk hr0_6
 have HC0_6 := Aside0.mk hc0_6
 clear hr0_6 hc0_6
 have HR0_7 := Aside0.mk hr0_7
 have HC0_7 := Aside0.mk hc0_7
 clear hr0_7 hc0_7
 have HR0_8 := Aside0.mk hr0_8
 have HC0_8 := Aside0.mk hc0_8
 clear hr0_8 hc0_8
 have HR0_9 := Aside0.mk hr0_9
 have HC0_9 := Aside0.mk hc0_9
 clear hr0_9 hc0_9
 have HR0_10 := Aside0.mk hr0_10
 have HC0_10 := Aside0.mk hc0_10
 clear hr0_10 hc0_10
 have HR1_4 := Aside0.mk hr1_4
 have HC1_4 := Aside0.mk hc1_4
 clear hr1_4 hc1_4
 have HR1_5 := Aside0.mk hr1_5
 have HC1_5 := Aside0.mk hc1_5
 clear hr1_5 hc1_5
 have HR1_6 := Aside0.mk hr1_6
 have HC1_6 := Aside0.mk hc1_6
 clear hr1_6 hc1_6
 have HR1_7 := Aside0.mk hr1_7
 have HC1_7 := Aside0.mk hc1_7
 clear hr1_7 hc1_7
 have HR1_8 := Aside0.mk hr1_8
 have HC1_8 := Aside0.mk hc1_8
 clear hr1_8 hc1_8
 have HR1_9 := Aside0.mk hr1_9
 have HC1_9 := Aside0.mk hc1_9
 clear hr1_9 hc1_9
 have HR1_10 := Aside0.mk hr1_10
 have HC1_10 := Aside0.mk hc1_10
 clear hr1_10 hc1_10
 have HB := Aside0.mk (Below.refl w.heap.size w)
 have H : (if a0_0 = a1_0 then (if a0_2.toList = a1_2.toList then (if a0_3 = a1_3 then (st_Same_1.j0Of Fn k true a0_0 a0_1 a0_2 a0_3 l0_4 l0_5 l0_6 l0_7 l0_8 l0_9 l0_10 a0_11 a0_12 a0_13 a1_0 a1_1 a1_2 a1_3 l1_4 l1_5 l1_6 l1_7 l1_8 l1_9 l1_10 a1_11 a1_12 a1_13) else (st_Same_1.j0Of Fn k (a0_0 == 5) a0_0 a0_1 a0_2 a0_3 l0_4 l0_5 l0_6 l0_7 l0_8 l0_9 l0_10 a0_11 a0_12 a0_13 a1_0 a1_1 a1_2 a1_3 l1_4 l1_5 l1_6 l1_7 l1_8 l1_9 l1_10 a1_11 a1_12 a1_13)) else (st_Same_1.j0Of Fn k false a0_0 a0_1 a0_2 a0_3 l0_4 l0_5 l0_6 l0_7 l0_8 l0_9 l0_10 a0_11 a0_12 a0_13 a1_0 a1_1 a1_2 a1_3 l1_4 l1_5 l1_6 l1_7 l1_8 l1_9 l1_10 a1_11 a1_12 a1_13)) else (st_Same_1.j0Of Fn k false a0_0 a0_1 a0_2 a0_3 l0_4 l0_5 l0_6 l0_7 l0_8 l0_9 l0_10 a0_11 a0_12 a0_13 a1_0 a1_1 a1_2 a1_3 l1_4 l1_5 l1_6 l1_7 l1_8 l1_9 l1_10 a1_11 a1_12 a1_13)) = some r := h
 clear h
 have HC3 := Aside0.mk H
 clear H
 go_enter Try.func21, Try.ntmps21
 go_upto_region 1 with (first | ((with_reducible refine gate_dst (N := 2) rfl ?_); refine box_event ?hg (N := 2) ?hd (cs := #[.int .i64 a0_0, .int .i64 a0_1, .string a0_2, .int .i64 a0_3, .slice A0_4 l0_4.length c0_4, .slice A0_5 l0_5.length c0_5, .slice A0_6 l0_6.length c0_6, .slice A0_7 l0_7.length c0_7, .slice A0_8 l0_8.length c0_8, .slice A0_9 l0_9.length c0_9, .slice A0_10 l0_10.length c0_10, .int .u8 a0_11, .int .i64 a0_12, .int .i64 a0_13]) (t := 46) ?hr ?_; (case hd => rfl); (case hg => rfl); (case hr => first | (go_simp; done) | (go_simp; rfl)); intro gb105 hg w4 hbox hb; have n0_ := Aside0.mk (below_step (by repeat (first | (with_reducible first | exact HB.out | apply below_alloc | apply pw_below_drewN | apply below_drew1) | exact HB.out)) hb); have n1_ := Aside0.mk (hbox); have n2_ := Aside0.mk ((by rw [hg]; exact (below_size (by repeat (first | (with_reducible first | exact HB.out | apply below_alloc | apply pw_below_drewN | apply below_drew1) | exact HB.out))) : w.heap.size ≤ gb105)); have n3_ := Aside0.mk ((by rw [hg]; exact (below_size (by repeat (first | (with_reducible first | exact HB.out | apply below_alloc | apply pw_below_drewN | apply below_drew1) | exact HB.out))) : w.heap.size ≤ gb105)); clear HB; have HB := n0_; have BK105 := n1_; have GW105 := n2_; have GE105 := n3_; clear n0_ n1_ n2_ n3_; clear hb hbox hg) | ((with_reducible refine gate_dst (N := 3) rfl ?_); refine box_event ?hg (N := 3) ?hd (cs := #[.int .i64 a1_0, .int .i64 a1_1, .string a1_2, .int .i64 a1_3, .slice A1_4 l1_4.length c1_4, .slice A1_5 l1_5.length c1_5, .slice A1_6 l1_6.length c1_6, .slice A1_7 l1_7.length c1_7, .slice A1_8 l1_8.length c1_8, .slice A1_9 l1_9.length c1_9, .slice A1_10 l1_10.length c1_10, .int .u8 a1_11, .int .i64 a1_12, .int .i64 a1_13]) (t := 46) ?hr ?_; (case hd => rfl); (case hg => rfl); (case hr => first | (go_simp; done) | (go_simp; rfl)); intro gb106 hg w5 hbox hb; have n0_ := Aside0.mk (blk_below (g := gb105) (by (with_reducible repeat (first | refine blk_drewN ?_ _ | refine blk_drew ?_ | refine blk_alloc ?_ _)); exact BK105.out) hb); have n1_ := Aside0.mk (below_step (by repeat (first | (with_reducible first | exact HB.out | apply below_alloc | apply pw_below_drewN | apply below_drew1 | refine below_set ?_ GE105.out) | exact HB.out)) hb); have n2_ := Aside0.mk (hbox); have n3_ := Aside0.mk ((by rw [hg]; exact (below_size (by repeat (first | (with_reducible first | exact HB.out | apply below_alloc | apply pw_below_drewN | apply below_drew1 | refine below_set ?_ GE105.out) | exact HB.out))) : w.heap.size ≤ gb106)); have n4_ := Aside0.mk ((by rw [hg]; exact (below_size (by repeat (first | (with_reducible first | exact HB.out | apply below_alloc | apply pw_below_drewN | apply below_drew1 | refine below_set ?_ GE105.out) | exact HB.out))) : w.heap.size ≤ gb106)); have n5_ := Aside0.mk ((by rw [hg]; exact Nat.ne_of_lt (blk_lt (g := gb105) (o := .cells #[.int .i64 a0_0, .int .i64 a0_1, .string a0_2, .int .i64 a0_3, .slice A0_4 l0_4.length c0_4, .slice A0_5 l0_5.length c0_5, .slice A0_6 l0_6.length c0_6, .slice A0_7 l0_7.length c0_7, .slice A0_8 l0_8.length c0_8, .slice A0_9 l0_9.length c0_9, .slice A0_10 l0_10.length c0_10, .int .u8 a0_11, .int .i64 a0_12, .int .i64 a0_13] 46 (0, 0)) (by (with_reducible repeat (first | refine blk_drewN ?_ _ | refine blk_drew ?_ | refine blk_alloc ?_ _)); exact BK105.out)) : gb105 ≠ gb106)); have n6_ := Aside0.mk ((by rw [hg]; exact Nat.ne_of_gt (blk_lt (g := gb105) (o := .cells #[.int .i64 a0_0, .int .i64 a0_1, .string a0_2, .int .i64 a0_3, .slice A0_4 l0_4.length c0_4, .slice A0_5 l0_5.length c0_5, .slice A0_6 l0_6.length c0_6, .slice A0_7 l0_7.length c0_7, .slice A0_8 l0_8.length c0_8, .slice A0_9 l0_9.length c0_9, .slice A0_10 l0_10.length c0_10, .int .u8 a0_11, .int .i64 a0_12, .int .i64 a0_13] 46 (0, 0)) (by (with_reducible repeat (first | refine blk_drewN ?_ _ | refine blk_drew ?_ | refine blk_alloc ?_ _)); exact BK105.out)) : gb106 ≠ gb105)); clear BK105; clear HB; have BK105 := n0_; have HB := n1_; have BK106 := n2_; have GW106 := n3_; have GE106 := n4_; have NB105_106 := n5_; have NB106_105 := n6_; clear n0_ n1_ n2_ n3_ n4_ n5_ n6_; clear hb hbox hg))
 (try simp only [Act.put, List.setIfInBounds_toArray, List.set_cons_zero, List.set_cons_succ])
 go_cut [5] (fun v5 wc => ∃ (kq : Nat) (x5_2 : Bool), v5 = .bool x5_2 ∧ Aside0 (st_Same_1.j0Of Fn kq x5_2 a0_0 a0_1 a0_2 a0_3 l0_4 l0_5 l0_6 l0_7 l0_8 l0_9 l0_10 a0_11 a0_12 a0_13 a1_0 a1_1 a1_2 a1_3 l1_4 l1_5 l1_6 l1_7 l1_8 l1_9 l1_10 a1_11 a1_12 a1_13 = some r) ∧ Aside0 (kq ≤ k) ∧ Aside0 (wc.heap[gb105]? = some (.cells #[.int .i64 a0_0, .int .i64 a0_1, .string a0_2, .int .i64 a0_3, (.slice A0_4 l0_4.length c0_4), (.slice A0_5 l0_5.length c0_5), (.slice A0_6 l0_6.length c0_6), (.slice A0_7 l0_7.length c0_7), (.slice A0_8 l0_8.length c0_8), (.slice A0_9 l0_9.length c0_9), (.slice A0_10 l0_10.length c0_10), .int .u8 a0_11, .int .i64 a0_12, .int .i64 a0_13] 46 (0, 0))) ∧ Aside0 (wc.heap[gb106]? = some (.cells #[.int .i64 a1_0, .int .i64 a1_1, .string a1_2, .int .i64 a1_3, (.slice A1_4 l1_4.length c1_4), (.slice A1_5 l1_5.length c1_5), (.slice A1_6 l1_6.length c1_6), (.slice A1_7 l1_7.length c1_7), (.slice A1_8 l1_8.length c1_8), (.slice A1_9 l1_9.length c1_9), (.slice A1_10 l1_10.length c1_10), .int .u8 a1_11, .int .i64 a1_12, .int .i64 a1_13] 46 (0, 0))) ∧ Aside0 (Below w.heap.size w wc))
 case first =>
  have H := HC3.out
  clear HC3
  by_cases c6 : a0_0 = a1_0
  · rw [if_pos c6] at H
    have c6b0 : (a0_0 == a1_0) = true := beq_iff_eq.mpr c6
    have c6b1 : (a0_0 != a1_0) = false := bne_eq_false_iff_eq.mpr c6
    clear c6
    (first | rw [c6b0] | (simp only [i64_w, i32_w]; rw [c6b0]) | skip)
    by_cases c7 : a0_2.toList = a1_2.toList
    · rw [if_pos c7] at H
      have c7b0 : (a0_2.toList == a1_2.toList) = true := beq_iff_eq.mpr c7
      have c7b1 : (a0_2.toList != a1_2.toList) = false := bne_eq_false_iff_eq.mpr c7
      clear c7
      by_cases c8 : a0_3 = a1_3
      · rw [if_pos c8] at H
        have c8b0 : (a0_3 == a1_3) = true := beq_iff_eq.mpr c8
        have c8b1 : (a0_3 != a1_3) = false := bne_eq_false_iff_eq.mpr c8
        clear c8
        have H' := Aside0.mk H
        clear H
        have hnb9 := NB105_106.out
        have hnc9 := NB106_105.out
        obtain ⟨hcz10_0, hcz10_1, hcz10_2, hcz10_3, hcz10_4, hcz10_5, hcz10_6, hcz10_7, hcz10_8, hcz10_9, hcz10_10, hcz10_11, hcz10_12, hcz10_13, hfz10_0, hfz10_1, hfz10_2, hfz10_3, hfz10_4, hfz10_5, hfz10_6, hfz10_7, hfz10_8, hfz10_9, hfz10_10, hfz10_11, hfz10_12, hfz10_13⟩ := cells14 BK105.out
        obtain ⟨hcz11_0, hcz11_1, hcz11_2, hcz11_3, hcz11_4, hcz11_5, hcz11_6, hcz11_7, hcz11_8, hcz11_9, hcz11_10, hcz11_11, hcz11_12, hcz11_13, hfz11_0, hfz11_1, hfz11_2, hfz11_3, hfz11_4, hfz11_5, hfz11_6, hfz11_7, hfz11_8, hfz11_9, hfz11_10, hfz11_11, hfz11_12, hfz11_13⟩ := cells14 BK106.out
        go_wp2
        go_meet
        case rel => exact ⟨_, (true), (by first | rfl | (simp; done) | (simp [*]; done) | (simp [*, bne]; done)), H', ⟨by first | omega | exact Nat.le_refl _⟩, ⟨by (with_reducible repeat (first | refine blk_drewN ?_ _ | refine blk_drew ?_ | refine blk_alloc ?_ _)); exact BK105.out⟩, ⟨by (with_reducible repeat (first | refine blk_drewN ?_ _ | refine blk_drew ?_ | refine blk_alloc ?_ _)); exact BK106.out⟩, ⟨by repeat (first | (with_reducible first | exact HB.out | apply below_alloc | apply pw_below_drewN | apply below_drew1 | refine below_set ?_ GE105.out | refine below_set ?_ GE106.out) | exact HB.out)⟩⟩
      · rw [if_neg c8] at H
        have c8b0 : (a0_3 == a1_3) = false := beq_eq_false_iff_ne.mpr c8
        have c8b1 : (a0_3 != a1_3) = true := bne_iff_ne.mpr c8
        have H' := Aside0.mk H
        clear H
        have hnb12 := NB105_106.out
        have hnc12 := NB106_105.out
        obtain ⟨hcz13_0, hcz13_1, hcz13_2, hcz13_3, hcz13_4, hcz13_5, hcz13_6, hcz13_7, hcz13_8, hcz13_9, hcz13_10, hcz13_11, hcz13_12, hcz13_13, hfz13_0, hfz13_1, hfz13_2, hfz13_3, hfz13_4, hfz13_5, hfz13_6, hfz13_7, hfz13_8, hfz13_9, hfz13_10, hfz13_11, hfz13_12, hfz13_13⟩ := cells14 BK105.out
        obtain ⟨hcz14_0, hcz14_1, hcz14_2, hcz14_3, hcz14_4, hcz14_5, hcz14_6, hcz14_7, hcz14_8, hcz14_9, hcz14_10, hcz14_11, hcz14_12, hcz14_13, hfz14_0, hfz14_1, hfz14_2, hfz14_3, hfz14_4, hfz14_5, hfz14_6, hfz14_7, hfz14_8, hfz14_9, hfz14_10, hfz14_11, hfz14_12, hfz14_13⟩ := cells14 BK106.out
        go_wp2
        go_meet
        case rel => exact ⟨_, ((a0_0 == 5)), (by first | rfl | (simp; done) | (simp [*]; done) | (simp [*, bne]; done)), H', ⟨by first | omega | exact Nat.le_refl _⟩, ⟨by (with_reducible repeat (first | refine blk_drewN ?_ _ | refine blk_drew ?_ | refine blk_alloc ?_ _)); exact BK105.out⟩, ⟨by (with_reducible repeat (first | refine blk_drewN ?_ _ | refine blk_drew ?_ | refine blk_alloc ?_ _)); exact BK106.out⟩, ⟨by repeat (first | (with_reducible first | exact HB.out | apply below_alloc | apply pw_below_drewN | apply below_drew1 | refine below_set ?_ GE105.out | refine below_set ?_ GE106.out) | exact HB.out)⟩⟩
    · rw [if_neg c7] at H
      have c7b0 : (a0_2.toList == a1_2.toList) = false := beq_eq_false_iff_ne.mpr c7
      have c7b1 : (a0_2.toList != a1_2.toList) = true := bne_iff_ne.mpr c7
      have H' := Aside0.mk H
      clear H
      have hnb15 := NB105_106.out
      have hnc15 := NB106_105.out
      obtain ⟨hcz16_0, hcz16_1, hcz16_2, hcz16_3, hcz16_4, hcz16_5, hcz16_6, hcz16_7, hcz16_8, hcz16_9, hcz16_10, hcz16_11, hcz16_12, hcz16_13, hfz16_0, hfz16_1, hfz16_2, hfz16_3, hfz16_4, hfz16_5, hfz16_6, hfz16_7, hfz16_8, hfz16_9, hfz16_10, hfz16_11, hfz16_12, hfz16_13⟩ := cells14 BK105.out
      obtain ⟨hcz17_0, hcz17_1, hcz17_2, hcz17_3, hcz17_4, hcz17_5, hcz17_6, hcz17_7, hcz17_8, hcz17_9, hcz17_10, hcz17_11, hcz17_12, hcz17_13, hfz17_0, hfz17_1, hfz17_2, hfz17_3, hfz17_4, hfz17_5, hfz17_6, hfz17_7, hfz17_8, hfz17_9, hfz17_10, hfz17_11, hfz17_12, hfz17_13⟩ := cells14 BK106.out
      go_wp2
      go_meet
      case rel => exact ⟨_, (false), (by first | rfl | (simp; done) | (simp [*]; done) | (simp [*, bne]; done)), H', ⟨by first | omega | exact Nat.le_refl _⟩, ⟨by (with_reducible repeat (first | refine blk_drewN ?_ _ | refine blk_drew ?_ | refine blk_alloc ?_ _)); exact BK105.out⟩, ⟨by (with_reducible repeat (first | refine blk_drewN ?_ _ | refine blk_drew ?_ | refine blk_alloc ?_ _)); exact BK106.out⟩, ⟨by repeat (first | (with_reducible first | exact HB.out | apply below_alloc | apply pw_below_drewN | apply below_drew1 | refine below_set ?_ GE105.out | refine below_set ?_ GE106.out) | exact HB.out)⟩⟩
  · rw [if_neg c6] at H
    have c6b0 : (a0_0 == a1_0) = false := beq_eq_false_iff_ne.mpr c6
    have c6b1 : (a0_0 != a1_0) = true := bne_iff_ne.mpr c6
    (first | rw [c6b0] | (simp only [i64_w, i32_w]; rw [c6b0]) | skip)
    have H' := Aside0.mk H
    clear H
    have hnb18 := NB105_106.out
    have hnc18 := NB106_105.out
    obtain ⟨hcz19_0, hcz19_1, hcz19_2, hcz19_3, hcz19_4, hcz19_5, hcz19_6, hcz19_7, hcz19_8, hcz19_9, hcz19_10, hcz19_11, hcz19_12, hcz19_13, hfz19_0, hfz19_1, hfz19_2, hfz19_3, hfz19_4, hfz19_5, hfz19_6, hfz19_7, hfz19_8, hfz19_9, hfz19_10, hfz19_11, hfz19_12, hfz19_13⟩ := cells14 BK105.out
    obtain ⟨hcz20_0, hcz20_1, hcz20_2, hcz20_3, hcz20_4, hcz20_5, hcz20_6, hcz20_7, hcz20_8, hcz20_9, hcz20_10, hcz20_11, hcz20_12, hcz20_13, hfz20_0, hfz20_1, hfz20_2, hfz20_3, hfz20_4, hfz20_5, hfz20_6, hfz20_7, hfz20_8, hfz20_9, hfz20_10, hfz20_11, hfz20_12, hfz20_13⟩ := cells14 BK106.out
    go_wp2
    go_meet
    case rel => exact ⟨_, (false), (by first | rfl | (simp; done) | (simp [*]; done) | (simp [*, bne]; done)), H', ⟨by first | omega | exact Nat.le_refl _⟩, ⟨by (with_reducible repeat (first | refine blk_drewN ?_ _ | refine blk_drew ?_ | refine blk_alloc ?_ _)); exact BK105.out⟩, ⟨by (with_reducible repeat (first | refine blk_drewN ?_ _ | refine blk_drew ?_ | refine blk_alloc ?_ _)); exact BK106.out⟩, ⟨by repeat (first | (with_reducible first | exact HB.out | apply below_alloc | apply pw_below_drewN | apply below_drew1 | refine below_set ?_ GE105.out | refine below_set ?_ GE106.out) | exact HB.out)⟩⟩
 case rest =>
  clear HC3
  try clear c1
  try clear c2
  try clear p2
  try clear c6
  try clear c6b0
  try clear c6b1
  try clear c7
  try clear c7b0
  try clear c7b1
  try clear c8
  try clear c8b0
  try clear c8b1
  try clear c9
  try clear c12
  try clear c15
  try clear c18
  try clear hcz10_0 hcz10_1 hcz10_10 hcz10_11 hcz10_12 hcz10_13 hcz10_2 hcz10_3 hcz10_4 hcz10_5 hcz10_6 hcz10_7 hcz10_8 hcz10_9
  try clear hcz11_0 hcz11_1 hcz11_10 hcz11_11 hcz11_12 hcz11_13 hcz11_2 hcz11_3 hcz11_4 hcz11_5 hcz11_6 hcz11_7 hcz11_8 hcz11_9
  try clear hcz13_0 hcz13_1 hcz13_10 hcz13_11 hcz13_12 hcz13_13 hcz13_2 hcz13_3 hcz13_4 hcz13_5 hcz13_6 hcz13_7 hcz13_8 hcz13_9
  try clear hcz14_0 hcz14_1 hcz14_10 hcz14_11 hcz14_12 hcz14_13 hcz14_2 hcz14_3 hcz14_4 hcz14_5 hcz14_6 hcz14_7 hcz14_8 hcz14_9
  try clear hcz16_0 hcz16_1 hcz16_10 hcz16_11 hcz16_12 hcz16_13 hcz16_2 hcz16_3 hcz16_4 hcz16_5 hcz16_6 hcz16_7 hcz16_8 hcz16_9
  try clear hcz17_0 hcz17_1 hcz17_10 hcz17_11 hcz17_12 hcz17_13 hcz17_2 hcz17_3 hcz17_4 hcz17_5 hcz17_6 hcz17_7 hcz17_8 hcz17_9
  try clear hcz19_0 hcz19_1 hcz19_10 hcz19_11 hcz19_12 hcz19_13 hcz19_2 hcz19_3 hcz19_4 hcz19_5 hcz19_6 hcz19_7 hcz19_8 hcz19_9
  try clear hcz20_0 hcz20_1 hcz20_10 hcz20_11 hcz20_12 hcz20_13 hcz20_2 hcz20_3 hcz20_4 hcz20_5 hcz20_6 hcz20_7 hcz20_8 hcz20_9
  try clear hfz10_0 hfz10_1 hfz10_10 hfz10_11 hfz10_12 hfz10_13 hfz10_2 hfz10_3 hfz10_4 hfz10_5 hfz10_6 hfz10_7 hfz10_8 hfz10_9
  try clear hfz11_0 hfz11_1 hfz11_10 hfz11_11 hfz11_12 hfz11_13 hfz11_2 hfz11_3 hfz11_4 hfz11_5 hfz11_6 hfz11_7 hfz11_8 hfz11_9
  try clear hfz13_0 hfz13_1 hfz13_10 hfz13_11 hfz13_12 hfz13_13 hfz13_2 hfz13_3 hfz13_4 hfz13_5 hfz13_6 hfz13_7 hfz13_8 hfz13_9
  try clear hfz14_0 hfz14_1 hfz14_10 hfz14_11 hfz14_12 hfz14_13 hfz14_2 hfz14_3 hfz14_4 hfz14_5 hfz14_6 hfz14_7 hfz14_8 hfz14_9
  try clear hfz16_0 hfz16_1 hfz16_10 hfz16_11 hfz16_12 hfz16_13 hfz16_2 hfz16_3 hfz16_4 hfz16_5 hfz16_6 hfz16_7 hfz16_8 hfz16_9
  try clear hfz17_0 hfz17_1 hfz17_10 hfz17_11 hfz17_12 hfz17_13 hfz17_2 hfz17_3 hfz17_4 hfz17_5 hfz17_6 hfz17_7 hfz17_8 hfz17_9
  try clear hfz19_0 hfz19_1 hfz19_10 hfz19_11 hfz19_12 hfz19_13 hfz19_2 hfz19_3 hfz19_4 hfz19_5 hfz19_6 hfz19_7 hfz19_8 hfz19_9
  try clear hfz20_0 hfz20_1 hfz20_10 hfz20_11 hfz20_12 hfz20_13 hfz20_2 hfz20_3 hfz20_4 hfz20_5 hfz20_6 hfz20_7 hfz20_8 hfz20_9
  obtain ⟨kq, x5_2, rfl, HA, HJ2, BK105, BK106, HB⟩ := hcut
  cases kq with
  | zero => exact absurd HA.out (by simp [st_Same_1.j0Of])
  | succ kj2 =>
   have H := HA.out
   clear HA
   simp only [st_Same_1.j0Of] at H
   have HC21 := Aside0.mk H
   clear H
   go_upto_region 2 with (fail)
   go_cut [6] (fun v6 wc => ∃ (kq : Nat) (x6_20 : Bool), v6 = .bool x6_20 ∧ Aside0 (st_Same_1.j1Of Fn kq x5_2 x6_20 a0_0 a0_1 a0_2 a0_3 l0_4 l0_5 l0_6 l0_7 l0_8 l0_9 l0_10 a0_11 a0_12 a0_13 a1_0 a1_1 a1_2 a1_3 l1_4 l1_5 l1_6 l1_7 l1_8 l1_9 l1_10 a1_11 a1_12 a1_13 = some r) ∧ Aside0 (kq ≤ kj2) ∧ Aside0 (wc.heap[gb105]? = some (.cells #[.int .i64 a0_0, .int .i64 a0_1, .string a0_2, .int .i64 a0_3, (.slice A0_4 l0_4.length c0_4), (.slice A0_5 l0_5.length c0_5), (.slice A0_6 l0_6.length c0_6), (.slice A0_7 l0_7.length c0_7), (.slice A0_8 l0_8.length c0_8), (.slice A0_9 l0_9.length c0_9), (.slice A0_10 l0_10.length c0_10), .int .u8 a0_11, .int .i64 a0_12, .int .i64 a0_13] 46 (0, 0))) ∧ Aside0 (wc.heap[gb106]? = some (.cells #[.int .i64 a1_0, .int .i64 a1_1, .string a1_2, .int .i64 a1_3, (.slice A1_4 l1_4.length c1_4), (.slice A1_5 l1_5.length c1_5), (.slice A1_6 l1_6.length c1_6), (.slice A1_7 l1_7.length c1_7), (.slice A1_8 l1_8.length c1_8), (.slice A1_9 l1_9.length c1_9), (.slice A1_10 l1_10.length c1_10), .int .u8 a1_11, .int .i64 a1_12, .int .i64 a1_13] 46 (0, 0))) ∧ Aside0 (Below w.heap.size w wc))
   case first =>
    have H := HC21.out
    clear HC21
    replace H := Option.bind_eq_some_iff.mp H
    obtain ⟨t107, A220, H⟩ := H
    replace H : (if t107 = true then ((slices_Equal_string_string.f kj2 l0_7 l1_7).bind fun t108 => (if t108 = true then ((api_Range.f kj2 l0_8 l1_8).bind fun t109 => (st_Same_1.j1Of Fn kj2 x5_2 t109 a0_0 a0_1 a0_2 a0_3 l0_4 l0_5 l0_6 l0_7 l0_8 l0_9 l0_10 a0_11 a0_12 a0_13 a1_0 a1_1 a1_2 a1_3 l1_4 l1_5 l1_6 l1_7 l1_8 l1_9 l1_10 a1_11 a1_12 a1_13)) else (st_Same_1.j1Of Fn kj2 x5_2 false a0_0 a0_1 a0_2 a0_3 l0_4 l0_5 l0_6 l0_7 l0_8 l0_9 l0_10 a0_11 a0_12 a0_13 a1_0 a1_1 a1_2 a1_3 l1_4 l1_5 l1_6 l1_7 l1_8 l1_9 l1_10 a1_11 a1_12 a1_13))) else (st_Same_1.j1Of Fn kj2 x5_2 false a0_0 a0_1 a0_2 a0_3 l0_4 l0_5 l0_6 l0_7 l0_8 l0_9 l0_10 a0_11 a0_12 a0_13 a1_0 a1_1 a1_2 a1_3 l1_4 l1_5 l1_6 l1_7 l1_8 l1_9 l1_10 a1_11 a1_12 a1_13)) = some r := H
    have A22 := Aside0.mk A220
    clear A220
    by_cases c23 : t107 = true
    · subst c23
      have H1 : ((slices_Equal_string_string.f kj2 l0_7 l1_7).bind fun t108 => (if t108 = true then ((api_Range.f kj2 l0_8 l1_8).bind fun t109 => (st_Same_1.j1Of Fn kj2 x5_2 t109 a0_0 a0_1 a0_2 a0_3 l0_4 l0_5 l0_6 l0_7 l0_8 l0_9 l0_10 a0_11 a0_12 a0_13 a1_0 a1_1 a1_2 a1_3 l1_4 l1_5 l1_6 l1_7 l1_8 l1_9 l1_10 a1_11 a1_12 a1_13)) else (st_Same_1.j1Of Fn kj2 x5_2 false a0_0 a0_1 a0_2 a0_3 l0_4 l0_5 l0_6 l0_7 l0_8 l0_9 l0_10 a0_11 a0_12 a0_13 a1_0 a1_1 a1_2 a1_3 l1_4 l1_5 l1_6 l1_7 l1_8 l1_9 l1_10 a1_11 a1_12 a1_13))) = some r := by rw [if_pos rfl] at H; exact H
      clear H
      have H := H1
      clear H1
      replace H := Option.bind_eq_some_iff.mp H
      obtain ⟨t108, A240, H⟩ := H
      replace H : (if t108 = true then ((api_Range.f kj2 l0_8 l1_8).bind fun t109 => (st_Same_1.j1Of Fn kj2 x5_2 t109 a0_0 a0_1 a0_2 a0_3 l0_4 l0_5 l0_6 l0_7 l0_8 l0_9 l0_10 a0_11 a0_12 a0_13 a1_0 a1_1 a1_2 a1_3 l1_4 l1_5 l1_6 l1_7 l1_8 l1_9 l1_10 a1_11 a1_12 a1_13)) else (st_Same_1.j1Of Fn kj2 x5_2 false a0_0 a0_1 a0_2 a0_3 l0_4 l0_5 l0_6 l0_7 l0_8 l0_9 l0_10 a0_11 a0_12 a0_13 a1_0 a1_1 a1_2 a1_3 l1_4 l1_5 l1_6 l1_7 l1_8 l1_9 l1_10 a1_11 a1_12 a1_13)) = some r := H
      have A24 := Aside0.mk A240
      clear A240
      by_cases c25 : t108 = true
      · subst c25
        have H1 : ((api_Range.f kj2 l0_8 l1_8).bind fun t109 => (st_Same_1.j1Of Fn kj2 x5_2 t109 a0_0 a0_1 a0_2 a0_3 l0_4 l0_5 l0_6 l0_7 l0_8 l0_9 l0_10 a0_11 a0_12 a0_13 a1_0 a1_1 a1_2 a1_3 l1_4 l1_5 l1_6 l1_7 l1_8 l1_9 l1_10 a1_11 a1_12 a1_13)) = some r := by rw [if_pos rfl] at H; exact H
        clear H
        have H := H1
        clear H1
        replace H := Option.bind_eq_some_iff.mp H
        obtain ⟨t109, A260, H⟩ := H
        replace H : (st_Same_1.j1Of Fn kj2 x5_2 t109 a0_0 a0_1 a0_2 a0_3 l0_4 l0_5 l0_6 l0_7 l0_8 l0_9 l0_10 a0_11 a0_12 a0_13 a1_0 a1_1 a1_2 a1_3 l1_4 l1_5 l1_6 l1_7 l1_8 l1_9 l1_10 a1_11 a1_12 a1_13) = some r := H
        have A26 := Aside0.mk A260
        clear A260
        have H' := Aside0.mk H
        clear H
        have hnb27 := NB105_106.out
        have hnc27 := NB106_105.out
        obtain ⟨hcz28_0, hcz28_1, hcz28_2, hcz28_3, hcz28_4, hcz28_5, hcz28_6, hcz28_7, hcz28_8, hcz28_9, hcz28_10, hcz28_11, hcz28_12, hcz28_13, hfz28_0, hfz28_1, hfz28_2, hfz28_3, hfz28_4, hfz28_5, hfz28_6, hfz28_7, hfz28_8, hfz28_9, hfz28_10, hfz28_11, hfz28_12, hfz28_13⟩ := cells14 BK105.out
        obtain ⟨hcz29_0, hcz29_1, hcz29_2, hcz29_3, hcz29_4, hcz29_5, hcz29_6, hcz29_7, hcz29_8, hcz29_9, hcz29_10, hcz29_11, hcz29_12, hcz29_13, hfz29_0, hfz29_1, hfz29_2, hfz29_3, hfz29_4, hfz29_5, hfz29_6, hfz29_7, hfz29_8, hfz29_9, hfz29_10, hfz29_11, hfz29_12, hfz29_13⟩ := cells14 BK106.out
        go_wp2_with (first | ((with_reducible refine gate_callee (f := 22) rfl ?_); refine goesL_ (some 35) rfl rfl Try.func22 (by kernel_rfl) rfl #[.slice A0_5 l0_5.length c0_5, .slice A1_5 l1_5.length c1_5] rfl (by (try simp only [List.map_toArray, List.map_cons, List.map_nil]); first | done | rfl | (simp only [List.length_drop, List.length_take]; rfl)) ?_; (with_reducible refine (slices_Equal_string_string.calls kj2 _ _ l0_5 _ _ l1_5 true _ ?side1 ?side2 ?side3 ?side4 A22.out).mono ?_); (case side1 => repeat (first | exact (Kd.C_below HR0_5.out HB.out) | (with_reducible refine Kd.C_alloc ?_ _) | (with_reducible refine Kd.C_drewN ?_ _) | (with_reducible refine Kd.C_drew ?_))); (case side2 => exact HC0_5.out); (case side3 => repeat (first | exact (Kd.C_below HR1_5.out HB.out) | (with_reducible refine Kd.C_alloc ?_ _) | (with_reducible refine Kd.C_drewN ?_ _) | (with_reducible refine Kd.C_drew ?_))); (case side4 => exact HC1_5.out); rintro e w' ⟨rfl, ⟨nd, rfl⟩⟩; refine ⟨_, rfl, ?_⟩) | (go_at_call 22; (with_reducible refine (slices_Equal_string_string.calls kj2 _ _ l0_7 _ _ l1_7 true _ ?side1 ?side2 ?side3 ?side4 A24.out).mono ?_); (case side1 => repeat (first | exact (Kd.C_below HR0_7.out (by repeat (first | (with_reducible first | exact HB.out | apply below_alloc | apply pw_below_drewN | apply below_drew1 | refine below_set ?_ GE105.out | refine below_set ?_ GE106.out) | exact HB.out))) | (with_reducible refine Kd.C_alloc ?_ _) | (with_reducible refine Kd.C_drewN ?_ _) | (with_reducible refine Kd.C_drew ?_))); (case side2 => exact HC0_7.out); (case side3 => repeat (first | exact (Kd.C_below HR1_7.out (by repeat (first | (with_reducible first | exact HB.out | apply below_alloc | apply pw_below_drewN | apply below_drew1 | refine below_set ?_ GE105.out | refine below_set ?_ GE106.out) | exact HB.out))) | (with_reducible refine Kd.C_alloc ?_ _) | (with_reducible refine Kd.C_drewN ?_ _) | (with_reducible refine Kd.C_drew ?_))); (case side4 => exact HC1_7.out); rintro e w' ⟨rfl, ⟨nd, rfl⟩⟩) | (go_at_call 23; (with_reducible refine (api_Range.calls kj2 _ _ l0_8 _ _ l1_8 t109 _ ?side1 ?side2 ?side3 ?side4 A26.out).mono ?_); (case side1 => repeat (first | exact (Kd.C_below HR0_8.out (by repeat (first | (with_reducible first | exact HB.out | apply below_alloc | apply pw_below_drewN | apply below_drew1 | refine below_set ?_ GE105.out | refine below_set ?_ GE106.out) | exact HB.out))) | (with_reducible refine Kd.C_alloc ?_ _) | (with_reducible refine Kd.C_drewN ?_ _) | (with_reducible refine Kd.C_drew ?_))); (case side2 => exact HC0_8.out); (case side3 => repeat (first | exact (Kd.C_below HR1_8.out (by repeat (first | (with_reducible first | exact HB.out | apply below_alloc | apply pw_below_drewN | apply below_drew1 | refine below_set ?_ GE105.out | refine below_set ?_ GE106.out) | exact HB.out))) | (with_reducible refine Kd.C_alloc ?_ _) | (with_reducible refine Kd.C_drewN ?_ _) | (with_reducible refine Kd.C_drew ?_))); (case side4 => exact HC1_8.out); rintro e w' ⟨rfl, ⟨nd, rfl⟩⟩))
        go_meet
        case rel => exact ⟨_, (t109), (by first | rfl | (simp; done) | (simp [*]; done) | (simp [*, bne]; done)), H', ⟨by have := HJ2.out; first | omega | exact Nat.le_refl _⟩, ⟨by (with_reducible repeat (first | refine blk_drewN ?_ _ | refine blk_drew ?_ | refine blk_alloc ?_ _)); exact BK105.out⟩, ⟨by (with_reducible repeat (first | refine blk_drewN ?_ _ | refine blk_drew ?_ | refine blk_alloc ?_ _)); exact BK106.out⟩, ⟨by repeat (first | (with_reducible first | exact HB.out | apply below_alloc | apply pw_below_drewN | apply below_drew1 | refine below_set ?_ GE105.out | refine below_set ?_ GE106.out) | exact HB.out)⟩⟩
      · replace c25 := Bool.eq_false_iff.mpr c25
        subst c25
        have H1 : (st_Same_1.j1Of Fn kj2 x5_2 false a0_0 a0_1 a0_2 a0_3 l0_4 l0_5 l0_6 l0_7 l0_8 l0_9 l0_10 a0_11 a0_12 a0_13 a1_0 a1_1 a1_2 a1_3 l1_4 l1_5 l1_6 l1_7 l1_8 l1_9 l1_10 a1_11 a1_12 a1_13) = some r := by rw [if_neg (show ¬ (false = true) by decide)] at H; exact H
        clear H
        have H := H1
        clear H1
        have H' := Aside0.mk H
        clear H
        have hnb30 := NB105_106.out
        have hnc30 := NB106_105.out
        obtain ⟨hcz31_0, hcz31_1, hcz31_2, hcz31_3, hcz31_4, hcz31_5, hcz31_6, hcz31_7, hcz31_8, hcz31_9, hcz31_10, hcz31_11, hcz31_12, hcz31_13, hfz31_0, hfz31_1, hfz31_2, hfz31_3, hfz31_4, hfz31_5, hfz31_6, hfz31_7, hfz31_8, hfz31_9, hfz31_10, hfz31_11, hfz31_12, hfz31_13⟩ := cells14 BK105.out
        obtain ⟨hcz32_0, hcz32_1, hcz32_2, hcz32_3, hcz32_4, hcz32_5, hcz32_6, hcz32_7, hcz32_8, hcz32_9, hcz32_10, hcz32_11, hcz32_12, hcz32_13, hfz32_0, hfz32_1, hfz32_2, hfz32_3, hfz32_4, hfz32_5, hfz32_6, hfz32_7, hfz32_8, hfz32_9, hfz32_10, hfz32_11, hfz32_12, hfz32_13⟩ := cells14 BK106.out
        go_wp2_with (first | ((with_reducible refine gate_callee (f := 22) rfl ?_); refine goesL_ (some 35) rfl rfl Try.func22 (by kernel_rfl) rfl #[.slice A0_5 l0_5.length c0_5, .slice A1_5 l1_5.length c1_5] rfl (by (try simp only [List.map_toArray, List.map_cons, List.map_nil]); first | done | rfl | (simp only [List.length_drop, List.length_take]; rfl)) ?_; (with_reducible refine (slices_Equal_string_string.calls kj2 _ _ l0_5 _ _ l1_5 true _ ?side1 ?side2 ?side3 ?side4 A22.out).mono ?_); (case side1 => repeat (first | exact (Kd.C_below HR0_5.out HB.out) | (with_reducible refine Kd.C_alloc ?_ _) | (with_reducible refine Kd.C_drewN ?_ _) | (with_reducible refine Kd.C_drew ?_))); (case side2 => exact HC0_5.out); (case side3 => repeat (first | exact (Kd.C_below HR1_5.out HB.out) | (with_reducible refine Kd.C_alloc ?_ _) | (with_reducible refine Kd.C_drewN ?_ _) | (with_reducible refine Kd.C_drew ?_))); (case side4 => exact HC1_5.out); rintro e w' ⟨rfl, ⟨nd, rfl⟩⟩; refine ⟨_, rfl, ?_⟩) | (go_at_call 22; (with_reducible refine (slices_Equal_string_string.calls kj2 _ _ l0_7 _ _ l1_7 false _ ?side1 ?side2 ?side3 ?side4 A24.out).mono ?_); (case side1 => repeat (first | exact (Kd.C_below HR0_7.out (by repeat (first | (with_reducible first | exact HB.out | apply below_alloc | apply pw_below_drewN | apply below_drew1 | refine below_set ?_ GE105.out | refine below_set ?_ GE106.out) | exact HB.out))) | (with_reducible refine Kd.C_alloc ?_ _) | (with_reducible refine Kd.C_drewN ?_ _) | (with_reducible refine Kd.C_drew ?_))); (case side2 => exact HC0_7.out); (case side3 => repeat (first | exact (Kd.C_below HR1_7.out (by repeat (first | (with_reducible first | exact HB.out | apply below_alloc | apply pw_below_drewN | apply below_drew1 | refine below_set ?_ GE105.out | refine below_set ?_ GE106.out) | exact HB.out))) | (with_reducible refine Kd.C_alloc ?_ _) | (with_reducible refine Kd.C_drewN ?_ _) | (with_reducible refine Kd.C_drew ?_))); (case side4 => exact HC1_7.out); rintro e w' ⟨rfl, ⟨nd, rfl⟩⟩))
        go_meet
        case rel => exact ⟨_, (false), (by first | rfl | (simp; done) | (simp [*]; done) | (simp [*, bne]; done)), H', ⟨by have := HJ2.out; first | omega | exact Nat.le_refl _⟩, ⟨by (with_reducible repeat (first | refine blk_drewN ?_ _ | refine blk_drew ?_ | refine blk_alloc ?_ _)); exact BK105.out⟩, ⟨by (with_reducible repeat (first | refine blk_drewN ?_ _ | refine blk_drew ?_ | refine blk_alloc ?_ _)); exact BK106.out⟩, ⟨by repeat (first | (with_reducible first | exact HB.out | apply below_alloc | apply pw_below_drewN | apply below_drew1 | refine below_set ?_ GE105.out | refine below_set ?_ GE106.out) | exact HB.out)⟩⟩
    · replace c23 := Bool.eq_false_iff.mpr c23
      subst c23
      have H1 : (st_Same_1.j1Of Fn kj2 x5_2 false a0_0 a0_1 a0_2 a0_3 l0_4 l0_5 l0_6 l0_7 l0_8 l0_9 l0_10 a0_11 a0_12 a0_13 a1_0 a1_1 a1_2 a1_3 l1_4 l1_5 l1_6 l1_7 l1_8 l1_9 l1_10 a1_11 a1_12 a1_13) = some r := by rw [if_neg (show ¬ (false = true) by decide)] at H; exact H
      clear H
      have H := H1
      clear H1
      have H' := Aside0.mk H
      clear H
      have hnb33 := NB105_106.out
      have hnc33 := NB106_105.out
      obtain ⟨hcz34_0, hcz34_1, hcz34_2, hcz34_3, hcz34_4, hcz34_5, hcz34_6, hcz34_7, hcz34_8, hcz34_9, hcz34_10, hcz34_11, hcz34_12, hcz34_13, hfz34_0, hfz34_1, hfz34_2, hfz34_3, hfz34_4, hfz34_5, hfz34_6, hfz34_7, hfz34_8, hfz34_9, hfz34_10, hfz34_11, hfz34_12, hfz34_13⟩ := cells14 BK105.out
      obtain ⟨hcz35_0, hcz35_1, hcz35_2, hcz35_3, hcz35_4, hcz35_5, hcz35_6, hcz35_7, hcz35_8, hcz35_9, hcz35_10, hcz35_11, hcz35_12, hcz35_13, hfz35_0, hfz35_1, hfz35_2, hfz35_3, hfz35_4, hfz35_5, hfz35_6, hfz35_7, hfz35_8, hfz35_9, hfz35_10, hfz35_11, hfz35_12, hfz35_13⟩ := cells14 BK106.out
      go_wp2_with (first | ((with_reducible refine gate_callee (f := 22) rfl ?_); refine goesL_ (some 35) rfl rfl Try.func22 (by kernel_rfl) rfl #[.slice A0_5 l0_5.length c0_5, .slice A1_5 l1_5.length c1_5] rfl (by (try simp only [List.map_toArray, List.map_cons, List.map_nil]); first | done | rfl | (simp only [List.length_drop, List.length_take]; rfl)) ?_; (with_reducible refine (slices_Equal_string_string.calls kj2 _ _ l0_5 _ _ l1_5 false _ ?side1 ?side2 ?side3 ?side4 A22.out).mono ?_); (case side1 => repeat (first | exact (Kd.C_below HR0_5.out HB.out) | (with_reducible refine Kd.C_alloc ?_ _) | (with_reducible refine Kd.C_drewN ?_ _) | (with_reducible refine Kd.C_drew ?_))); (case side2 => exact HC0_5.out); (case side3 => repeat (first | exact (Kd.C_below HR1_5.out HB.out) | (with_reducible refine Kd.C_alloc ?_ _) | (with_reducible refine Kd.C_drewN ?_ _) | (with_reducible refine Kd.C_drew ?_))); (case side4 => exact HC1_5.out); rintro e w' ⟨rfl, ⟨nd, rfl⟩⟩; refine ⟨_, rfl, ?_⟩))
      go_meet
      case rel => exact ⟨_, (false), (by first | rfl | (simp; done) | (simp [*]; done) | (simp [*, bne]; done)), H', ⟨by have := HJ2.out; first | omega | exact Nat.le_refl _⟩, ⟨by (with_reducible repeat (first | refine blk_drewN ?_ _ | refine blk_drew ?_ | refine blk_alloc ?_ _)); exact BK105.out⟩, ⟨by (with_reducible repeat (first | refine blk_drewN ?_ _ | refine blk_drew ?_ | refine blk_alloc ?_ _)); exact BK106.out⟩, ⟨by repeat (first | (with_reducible first | exact HB.out | apply below_alloc | apply pw_below_drewN | apply below_drew1 | refine below_set ?_ GE105.out | refine below_set ?_ GE106.out) | exact HB.out)⟩⟩
   case rest =>
    clear HC21
    try clear c1
    try clear c2
    try clear p2
    try clear c3
    try clear c6
    try clear c6b0
    try clear c6b1
    try clear c7
    try clear c7b0
    try clear c7b1
    try clear c8
    try clear c8b0
    try clear c8b1
    try clear c9
    try clear c12
    try clear c15
    try clear c18
    try clear c22
    try clear c23
    try clear c25
    try clear c27
    try clear c30
    try clear c33
    try clear hcz10_0 hcz10_1 hcz10_10 hcz10_11 hcz10_12 hcz10_13 hcz10_2 hcz10_3 hcz10_4 hcz10_5 hcz10_6 hcz10_7 hcz10_8 hcz10_9
    try clear hcz11_0 hcz11_1 hcz11_10 hcz11_11 hcz11_12 hcz11_13 hcz11_2 hcz11_3 hcz11_4 hcz11_5 hcz11_6 hcz11_7 hcz11_8 hcz11_9
    try clear hcz13_0 hcz13_1 hcz13_10 hcz13_11 hcz13_12 hcz13_13 hcz13_2 hcz13_3 hcz13_4 hcz13_5 hcz13_6 hcz13_7 hcz13_8 hcz13_9
    try clear hcz14_0 hcz14_1 hcz14_10 hcz14_11 hcz14_12 hcz14_13 hcz14_2 hcz14_3 hcz14_4 hcz14_5 hcz14_6 hcz14_7 hcz14_8 hcz14_9
    try clear hcz16_0 hcz16_1 hcz16_10 hcz16_11 hcz16_12 hcz16_13 hcz16_2 hcz16_3 hcz16_4 hcz16_5 hcz16_6 hcz16_7 hcz16_8 hcz16_9
    try clear hcz17_0 hcz17_1 hcz17_10 hcz17_11 hcz17_12 hcz17_13 hcz17_2 hcz17_3 hcz17_4 hcz17_5 hcz17_6 hcz17_7 hcz17_8 hcz17_9
    try clear hcz19_0 hcz19_1 hcz19_10 hcz19_11 hcz19_12 hcz19_13 hcz19_2 hcz19_3 hcz19_4 hcz19_5 hcz19_6 hcz19_7 hcz19_8 hcz19_9
    try clear hcz20_0 hcz20_1 hcz20_10 hcz20_11 hcz20_12 hcz20_13 hcz20_2 hcz20_3 hcz20_4 hcz20_5 hcz20_6 hcz20_7 hcz20_8 hcz20_9
    try clear hcz28_0 hcz28_1 hcz28_10 hcz28_11 hcz28_12 hcz28_13 hcz28_2 hcz28_3 hcz28_4 hcz28_5 hcz28_6 hcz28_7 hcz28_8 hcz28_9
    try clear hcz29_0 hcz29_1 hcz29_10 hcz29_11 hcz29_12 hcz29_13 hcz29_2 hcz29_3 hcz29_4 hcz29_5 hcz29_6 hcz29_7 hcz29_8 hcz29_9
    try clear hcz31_0 hcz31_1 hcz31_10 hcz31_11 hcz31_12 hcz31_13 hcz31_2 hcz31_3 hcz31_4 hcz31_5 hcz31_6 hcz31_7 hcz31_8 hcz31_9
    try clear hcz32_0 hcz32_1 hcz32_10 hcz32_11 hcz32_12 hcz32_13 hcz32_2 hcz32_3 hcz32_4 hcz32_5 hcz32_6 hcz32_7 hcz32_8 hcz32_9
    try clear hcz34_0 hcz34_1 hcz34_10 hcz34_11 hcz34_12 hcz34_13 hcz34_2 hcz34_3 hcz34_4 hcz34_5 hcz34_6 hcz34_7 hcz34_8 hcz34_9
    try clear hcz35_0 hcz35_1 hcz35_10 hcz35_11 hcz35_12 hcz35_13 hcz35_2 hcz35_3 hcz35_4 hcz35_5 hcz35_6 hcz35_7 hcz35_8 hcz35_9
    try clear hfz10_0 hfz10_1 hfz10_10 hfz10_11 hfz10_12 hfz10_13 hfz10_2 hfz10_3 hfz10_4 hfz10_5 hfz10_6 hfz10_7 hfz10_8 hfz10_9
    try clear hfz11_0 hfz11_1 hfz11_10 hfz11_11 hfz11_12 hfz11_13 hfz11_2 hfz11_3 hfz11_4 hfz11_5 hfz11_6 hfz11_7 hfz11_8 hfz11_9
    try clear hfz13_0 hfz13_1 hfz13_10 hfz13_11 hfz13_12 hfz13_13 hfz13_2 hfz13_3 hfz13_4 hfz13_5 hfz13_6 hfz13_7 hfz13_8 hfz13_9
    try clear hfz14_0 hfz14_1 hfz14_10 hfz14_11 hfz14_12 hfz14_13 hfz14_2 hfz14_3 hfz14_4 hfz14_5 hfz14_6 hfz14_7 hfz14_8 hfz14_9
    try clear hfz16_0 hfz16_1 hfz16_10 hfz16_11 hfz16_12 hfz16_13 hfz16_2 hfz16_3 hfz16_4 hfz16_5 hfz16_6 hfz16_7 hfz16_8 hfz16_9
    try clear hfz17_0 hfz17_1 hfz17_10 hfz17_11 hfz17_12 hfz17_13 hfz17_2 hfz17_3 hfz17_4 hfz17_5 hfz17_6 hfz17_7 hfz17_8 hfz17_9
    try clear hfz19_0 hfz19_1 hfz19_10 hfz19_11 hfz19_12 hfz19_13 hfz19_2 hfz19_3 hfz19_4 hfz19_5 hfz19_6 hfz19_7 hfz19_8 hfz19_9
    try clear hfz20_0 hfz20_1 hfz20_10 hfz20_11 hfz20_12 hfz20_13 hfz20_2 hfz20_3 hfz20_4 hfz20_5 hfz20_6 hfz20_7 hfz20_8 hfz20_9
    try clear hfz28_0 hfz28_1 hfz28_10 hfz28_11 hfz28_12 hfz28_13 hfz28_2 hfz28_3 hfz28_4 hfz28_5 hfz28_6 hfz28_7 hfz28_8 hfz28_9
    try clear hfz29_0 hfz29_1 hfz29_10 hfz29_11 hfz29_12 hfz29_13 hfz29_2 hfz29_3 hfz29_4 hfz29_5 hfz29_6 hfz29_7 hfz29_8 hfz29_9
    try clear hfz31_0 hfz31_1 hfz31_10 hfz31_11 hfz31_12 hfz31_13 hfz31_2 hfz31_3 hfz31_4 hfz31_5 hfz31_6 hfz31_7 hfz31_8 hfz31_9
    try clear hfz32_0 hfz32_1 hfz32_10 hfz32_11 hfz32_12 hfz32_13 hfz32_2 hfz32_3 hfz32_4 hfz32_5 hfz32_6 hfz32_7 hfz32_8 hfz32_9
    try clear hfz34_0 hfz34_1 hfz34_10 hfz34_11 hfz34_12 hfz34_13 hfz34_2 hfz34_3 hfz34_4 hfz34_5 hfz34_6 hfz34_7 hfz34_8 hfz34_9
    try clear hfz35_0 hfz35_1 hfz35_10 hfz35_11 hfz35_12 hfz35_13 hfz35_2 hfz35_3 hfz35_4 hfz35_5 hfz35_6 hfz35_7 hfz35_8 hfz35_9
    try clear p2
    obtain ⟨kq, x6_20, rfl, HA, HJ20, BK105, BK106, HB⟩ := hcut
    cases kq with
    | zero => exact absurd HA.out (by simp [st_Same_1.j1Of])
    | succ kj20 =>
     have H := HA.out
     clear HA
     simp only [st_Same_1.j1Of] at H
     refine (Classical.em (x5_2 = true)).elim (fun c36 => ?p1_) (fun c36 => ?n1_)
     case' p1_ =>
      subst c36
      have H1 : (if x6_20 = true then ((st_sameExprs.f kj20 l0_4 l1_4).bind fun t110 => (if t110 = true then ((st_sameExprs.f kj20 l0_6 l1_6).bind fun t111 => (if t111 = true then ((Fn l0_9 l1_9).bind fun t112 => (if t112 = true then ((Fn l0_10 l1_10).bind fun t113 => (some t113)) else (some false))) else (some false))) else (some false))) else (some false)) = some r := by rw [if_pos rfl] at H; exact H
      clear H
      have H := H1
      clear H1
      refine (Classical.em (x6_20 = true)).elim (fun c37 => ?p2_) (fun c37 => ?n2_)
      case' p2_ =>
       subst c37
       have H1 : ((st_sameExprs.f kj20 l0_4 l1_4).bind fun t110 => (if t110 = true then ((st_sameExprs.f kj20 l0_6 l1_6).bind fun t111 => (if t111 = true then ((Fn l0_9 l1_9).bind fun t112 => (if t112 = true then ((Fn l0_10 l1_10).bind fun t113 => (some t113)) else (some false))) else (some false))) else (some false))) = some r := by rw [if_pos rfl] at H; exact H
       clear H
       have H := H1
       clear H1
       replace H := Option.bind_eq_some_iff.mp H
       obtain ⟨t110, A380, H⟩ := H
       replace H : (if t110 = true then ((st_sameExprs.f kj20 l0_6 l1_6).bind fun t111 => (if t111 = true then ((Fn l0_9 l1_9).bind fun t112 => (if t112 = true then ((Fn l0_10 l1_10).bind fun t113 => (some t113)) else (some false))) else (some false))) else (some false)) = some r := H
       have A38 := Aside0.mk A380
       clear A380
       refine (Classical.em (t110 = true)).elim (fun c39 => ?p3_) (fun c39 => ?n3_)
       case' p3_ =>
        subst c39
        have H1 : ((st_sameExprs.f kj20 l0_6 l1_6).bind fun t111 => (if t111 = true then ((Fn l0_9 l1_9).bind fun t112 => (if t112 = true then ((Fn l0_10 l1_10).bind fun t113 => (some t113)) else (some false))) else (some false))) = some r := by rw [if_pos rfl] at H; exact H
        clear H
        have H := H1
        clear H1
        replace H := Option.bind_eq_some_iff.mp H
        obtain ⟨t111, A400, H⟩ := H
        replace H : (if t111 = true then ((Fn l0_9 l1_9).bind fun t112 => (if t112 = true then ((Fn l0_10 l1_10).bind fun t113 => (some t113)) else (some false))) else (some false)) = some r := H
        have A40 := Aside0.mk A400
        clear A400
        refine (Classical.em (t111 = true)).elim (fun c41 => ?p4_) (fun c41 => ?n4_)
        case' p4_ =>
         subst c41
         have H1 : ((Fn l0_9 l1_9).bind fun t112 => (if t112 = true then ((Fn l0_10 l1_10).bind fun t113 => (some t113)) else (some false))) = some r := by rw [if_pos rfl] at H; exact H
         clear H
         have H := H1
         clear H1
         replace H := Option.bind_eq_some_iff.mp H
         obtain ⟨t112, A420, H⟩ := H
         replace H : (if t112 = true then ((Fn l0_10 l1_10).bind fun t113 => (some t113)) else (some false)) = some r := H
         have A42 := Aside0.mk A420
         clear A420
         refine (Classical.em (t112 = true)).elim (fun c43 => ?p5_) (fun c43 => ?n5_)
         case' p5_ =>
          subst c43
          have H1 : ((Fn l0_10 l1_10).bind fun t113 => (some t113)) = some r := by rw [if_pos rfl] at H; exact H
          clear H
          have H := H1
          clear H1
          replace H := Option.bind_eq_some_iff.mp H
          obtain ⟨t113, A440, H⟩ := H
          replace H : (some t113) = some r := H
          have A44 := Aside0.mk A440
          clear A440
          obtain rfl := Option.some.inj H
          have hnb45 := NB105_106.out
          have hnc45 := NB106_105.out
          obtain ⟨_, _, _, _, _, _, _, _, _, _, _, _, _, _, _, _, _, _, _, _, _, _, _, _, _, _, _, _⟩ := cells14 BK105.out
          obtain ⟨_, _, _, _, _, _, _, _, _, _, _, _, _, _, _, _, _, _, _, _, _, _, _, _, _, _, _, _⟩ := cells14 BK106.out
         case' n5_ =>
          replace c43 := Bool.eq_false_iff.mpr c43
          subst c43
          have H1 : (some false) = some r := by rw [if_neg (show ¬ (false = true) by decide)] at H; exact H
          clear H
          have H := H1
          clear H1
          obtain rfl := Option.some.inj H
          have hnb58 := NB105_106.out
          have hnc58 := NB106_105.out
          obtain ⟨_, _, _, _, _, _, _, _, _, _, _, _, _, _, _, _, _, _, _, _, _, _, _, _, _, _, _, _⟩ := cells14 BK105.out
          obtain ⟨_, _, _, _, _, _, _, _, _, _, _, _, _, _, _, _, _, _, _, _, _, _, _, _, _, _, _, _⟩ := cells14 BK106.out
        case' n4_ =>
         replace c41 := Bool.eq_false_iff.mpr c41
         subst c41
         have H1 : (some false) = some r := by rw [if_neg (show ¬ (false = true) by decide)] at H; exact H
         clear H
         have H := H1
         clear H1
         obtain rfl := Option.some.inj H
         have hnb68 := NB105_106.out
         have hnc68 := NB106_105.out
         obtain ⟨_, _, _, _, _, _, _, _, _, _, _, _, _, _, _, _, _, _, _, _, _, _, _, _, _, _, _, _⟩ := cells14 BK105.out
         obtain ⟨_, _, _, _, _, _, _, _, _, _, _, _, _, _, _, _, _, _, _, _, _, _, _, _, _, _, _, _⟩ := cells14 BK106.out
       case' n3_ =>
        replace c39 := Bool.eq_false_iff.mpr c39
        subst c39
        have H1 : (some false) = some r := by rw [if_neg (show ¬ (false = true) by decide)] at H; exact H
        clear H
        have H := H1
        clear H1
        obtain rfl := Option.some.inj H
        have hnb75 := NB105_106.out
        have hnc75 := NB106_105.out
        obtain ⟨_, _, _, _, _, _, _, _, _, _, _, _, _, _, _, _, _, _, _, _, _, _, _, _, _, _, _, _⟩ := cells14 BK105.out
        obtain ⟨_, _, _, _, _, _, _, _, _, _, _, _, _, _, _, _, _, _, _, _, _, _, _, _, _, _, _, _⟩ := cells14 BK106.out
        go_wp2_with (first | (go_at_call 24; (with_reducible refine (st_sameExprs.calls kj20 _ _ l0_4 _ _ l1_4 false _ ?side1 ?side2 ?side3 ?side4 A38.out).mono ?_); (case side1 => repeat (first | exact (Kd.C_below HR0_4.out HB.out) | (with_reducible refine Kd.C_alloc ?_ _) | (with_reducible refine Kd.C_drewN ?_ _) | (with_reducible refine Kd.C_drew ?_))); (case side2 => exact HC0_4.out); (case side3 => repeat (first | exact (Kd.C_below HR1_4.out HB.out) | (with_reducible refine Kd.C_alloc ?_ _) | (with_reducible refine Kd.C_drewN ?_ _) | (with_reducible refine Kd.C_drew ?_))); (case side4 => exact HC1_4.out); rintro e w78 ⟨rfl, hb⟩; have n0_ := Aside0.mk (blk_below (g := gb105) (by (with_reducible repeat (first | refine blk_drewN ?_ _ | refine blk_drew ?_ | refine blk_alloc ?_ _)); exact BK105.out) hb); have n1_ := Aside0.mk (blk_below (g := gb106) (by (with_reducible repeat (first | refine blk_drewN ?_ _ | refine blk_drew ?_ | refine blk_alloc ?_ _)); exact BK106.out) hb); have n2_ := Aside0.mk (below_step (by repeat (first | (with_reducible first | exact HB.out | apply below_alloc | apply pw_below_drewN | apply below_drew1 | refine below_set ?_ GE105.out | refine below_set ?_ GE106.out) | exact HB.out)) hb); clear BK105; clear BK106; clear HB; have BK105 := n0_; have BK106 := n1_; have HB := n2_; clear n0_ n1_ n2_; (try clear hb); (try clear hb2); (try clear hk); (try clear hi)))
        go_ret
        exact ⟨by first | rfl | (simp [errW_none, errW_some] <;> rfl) | (simp [*, errW_none, errW_some] <;> rfl), by repeat (first | (with_reducible first | exact HB.out | apply below_alloc | apply pw_below_drewN | apply below_drew1 | refine below_set ?_ GE105.out | refine below_set ?_ GE106.out) | exact HB.out)⟩
      case' n2_ =>
       replace c37 := Bool.eq_false_iff.mpr c37
       subst c37
       have H1 : (some false) = some r := by rw [if_neg (show ¬ (false = true) by decide)] at H; exact H
       clear H
       have H := H1
       clear H1
       obtain rfl := Option.some.inj H
       go_wp2
       go_ret
       exact ⟨by first | rfl | (simp [errW_none, errW_some] <;> rfl) | (simp [*, errW_none, errW_some] <;> rfl), by repeat (first | (with_reducible first | exact HB.out | apply below_alloc | apply pw_below_drewN | apply below_drew1 | refine below_set ?_ GE105.out | refine below_set ?_ GE106.out) | exact HB.out)⟩
     case' n1_ =>
      replace c36 := Bool.eq_false_iff.mpr c36
      subst c36
      have H1 : (some false) = some r := by rw [if_neg (show ¬ (false = true) by decide)] at H; exact H
      clear H
      have H := H1
      clear H1
      obtain rfl := Option.some.inj H
      go_wp2
      go_ret
      exact ⟨by first | rfl | (simp [errW_none, errW_some] <;> rfl) | (simp [*, errW_none, errW_some] <;> rfl), by repeat (first | (with_reducible first | exact HB.out | apply below_alloc | apply pw_below_drewN | apply below_drew1 | refine below_set ?_ GE105.out | refine below_set ?_ GE106.out) | exact HB.out)⟩
     all_goals go_wp2_with (first | (go_at_call 24; (with_reducible refine (st_sameExprs.calls kj20 _ _ l0_4 _ _ l1_4 _ _ ?side1 ?side2 ?side3 ?side4 A38.out).mono ?_); (case side1 => repeat (first | exact (Kd.C_below HR0_4.out HB.out) | (with_reducible refine Kd.C_alloc ?_ _) | (with_reducible refine Kd.C_drewN ?_ _) | (with_reducible refine Kd.C_drew ?_))); (case side2 => exact HC0_4.out); (case side3 => repeat (first | exact (Kd.C_below HR1_4.out HB.out) | (with_reducible refine Kd.C_alloc ?_ _) | (with_reducible refine Kd.C_drewN ?_ _) | (with_reducible refine Kd.C_drew ?_))); (case side4 => exact HC1_4.out); rintro e w48 ⟨rfl, hb⟩; have n0_ := Aside0.mk (blk_below (g := gb105) (by (with_reducible repeat (first | refine blk_drewN ?_ _ | refine blk_drew ?_ | refine blk_alloc ?_ _)); exact BK105.out) hb); have n1_ := Aside0.mk (blk_below (g := gb106) (by (with_reducible repeat (first | refine blk_drewN ?_ _ | refine blk_drew ?_ | refine blk_alloc ?_ _)); exact BK106.out) hb); have n2_ := Aside0.mk (below_step (by repeat (first | (with_reducible first | exact HB.out | apply below_alloc | apply pw_below_drewN | apply below_drew1 | refine below_set ?_ GE105.out | refine below_set ?_ GE106.out) | exact HB.out)) hb); clear BK105; clear BK106; clear HB; have BK105 := n0_; have BK106 := n1_; have HB := n2_; clear n0_ n1_ n2_; (try clear hb); (try clear hb2); (try clear hk); (try clear hi); obtain ⟨_, _, _, _, _, _, _, _, _, _, _, _, _, _, _, _, _, _, _, _, _, _, _, _, _, _, _, _⟩ := cells14 BK105.out; obtain ⟨_, _, _, _, _, _, _, _, _, _, _, _, _, _, _, _, _, _, _, _, _, _, _, _, _, _, _, _⟩ := cells14 BK106.out) | (go_at_call 24; (with_reducible refine (st_sameExprs.calls kj20 _ _ l0_6 _ _ l1_6 _ _ ?side1 ?side2 ?side3 ?side4 A40.out).mono ?_); (case side1 => repeat (first | exact (Kd.C_below HR0_6.out HB.out) | (with_reducible refine Kd.C_alloc ?_ _) | (with_reducible refine Kd.C_drewN ?_ _) | (with_reducible refine Kd.C_drew ?_))); (case side2 => exact HC0_6.out); (case side3 => repeat (first | exact (Kd.C_below HR1_6.out HB.out) | (with_reducible refine Kd.C_alloc ?_ _) | (with_reducible refine Kd.C_drewN ?_ _) | (with_reducible refine Kd.C_drew ?_))); (case side4 => exact HC1_6.out); rintro e w51 ⟨rfl, hb⟩; have n0_ := Aside0.mk (blk_below (g := gb105) (by (with_reducible repeat (first | refine blk_drewN ?_ _ | refine blk_drew ?_ | refine blk_alloc ?_ _)); exact BK105.out) hb); have n1_ := Aside0.mk (blk_below (g := gb106) (by (with_reducible repeat (first | refine blk_drewN ?_ _ | refine blk_drew ?_ | refine blk_alloc ?_ _)); exact BK106.out) hb); have n2_ := Aside0.mk (below_step (by repeat (first | (with_reducible first | exact HB.out | apply below_alloc | apply pw_below_drewN | apply below_drew1 | refine below_set ?_ GE105.out | refine below_set ?_ GE106.out) | exact HB.out)) hb); clear BK105; clear BK106; clear HB; have BK105 := n0_; have BK106 := n1_; have HB := n2_; clear n0_ n1_ n2_; (try clear hb); (try clear hb2); (try clear hk); (try clear hi); obtain ⟨_, _, _, _, _, _, _, _, _, _, _, _, _, _, _, _, _, _, _, _, _, _, _, _, _, _, _, _⟩ := cells14 BK105.out; obtain ⟨_, _, _, _, _, _, _, _, _, _, _, _, _, _, _, _, _, _, _, _, _, _, _, _, _, _, _, _⟩ := cells14 BK106.out) | (go_at_call 9; (with_reducible refine (hFn _ _ l0_9 _ _ l1_9 _ _ ?side1 ?side2 ?side3 ?side4 A42.out).mono ?_); (case side1 => repeat (first | exact (Kd.C_below HR0_9.out HB.out) | (with_reducible refine Kd.C_alloc ?_ _) | (with_reducible refine Kd.C_drewN ?_ _) | (with_reducible refine Kd.C_drew ?_))); (case side2 => exact HC0_9.out); (case side3 => repeat (first | exact (Kd.C_below HR1_9.out HB.out) | (with_reducible refine Kd.C_alloc ?_ _) | (with_reducible refine Kd.C_drewN ?_ _) | (with_reducible refine Kd.C_drew ?_))); (case side4 => exact HC1_9.out); rintro e w54 ⟨rfl, hb⟩; have n0_ := Aside0.mk (blk_below (g := gb105) (by (with_reducible repeat (first | refine blk_drewN ?_ _ | refine blk_drew ?_ | refine blk_alloc ?_ _)); exact BK105.out) hb); have n1_ := Aside0.mk (blk_below (g := gb106) (by (with_reducible repeat (first | refine blk_drewN ?_ _ | refine blk_drew ?_ | refine blk_alloc ?_ _)); exact BK106.out) hb); have n2_ := Aside0.mk (below_step (by repeat (first | (with_reducible first | exact HB.out | apply below_alloc | apply pw_below_drewN | apply below_drew1 | refine below_set ?_ GE105.out | refine below_set ?_ GE106.out) | exact HB.out)) hb); clear BK105; clear BK106; clear HB; have BK105 := n0_; have BK106 := n1_; have HB := n2_; clear n0_ n1_ n2_; (try clear hb); (try clear hb2); (try clear hk); (try clear hi); obtain ⟨_, _, _, _, _, _, _, _, _, _, _, _, _, _, _, _, _, _, _, _, _, _, _, _, _, _, _, _⟩ := cells14 BK105.out; obtain ⟨_, _, _, _, _, _, _, _, _, _, _, _, _, _, _, _, _, _, _, _, _, _, _, _, _, _, _, _⟩ := cells14 BK106.out) | (go_at_call 9; (with_reducible refine (hFn _ _ l0_10 _ _ l1_10 t113 _ ?side1 ?side2 ?side3 ?side4 A44.out).mono ?_); (case side1 => repeat (first | exact (Kd.C_below HR0_10.out HB.out) | (with_reducible refine Kd.C_alloc ?_ _) | (with_reducible refine Kd.C_drewN ?_ _) | (with_reducible refine Kd.C_drew ?_))); (case side2 => exact HC0_10.out); (case side3 => repeat (first | exact (Kd.C_below HR1_10.out HB.out) | (with_reducible refine Kd.C_alloc ?_ _) | (with_reducible refine Kd.C_drewN ?_ _) | (with_reducible refine Kd.C_drew ?_))); (case side4 => exact HC1_10.out); rintro e w57 ⟨rfl, hb⟩; have n0_ := Aside0.mk (blk_below (g := gb105) (by (with_reducible repeat (first | refine blk_drewN ?_ _ | refine blk_drew ?_ | refine blk_alloc ?_ _)); exact BK105.out) hb); have n1_ := Aside0.mk (blk_below (g := gb106) (by (with_reducible repeat (first | refine blk_drewN ?_ _ | refine blk_drew ?_ | refine blk_alloc ?_ _)); exact BK106.out) hb); have n2_ := Aside0.mk (below_step (by repeat (first | (with_reducible first | exact HB.out | apply below_alloc | apply pw_below_drewN | apply below_drew1 | refine below_set ?_ GE105.out | refine below_set ?_ GE106.out) | exact HB.out)) hb); clear BK105; clear BK106; clear HB; have BK105 := n0_; have BK106 := n1_; have HB := n2_; clear n0_ n1_ n2_; (try clear hb); (try clear hb2); (try clear hk); (try clear hi)) | (go_at_call 9; (with_reducible refine (hFn _ _ l0_9 _ _ l1_9 _ _ ?side1 ?side2 ?side3 ?side4 A42.out).mono ?_); (case side1 => repeat (first | exact (Kd.C_below HR0_9.out HB.out) | (with_reducible refine Kd.C_alloc ?_ _) | (with_reducible refine Kd.C_drewN ?_ _) | (with_reducible refine Kd.C_drew ?_))); (case side2 => exact HC0_9.out); (case side3 => repeat (first | exact (Kd.C_below HR1_9.out HB.out) | (with_reducible refine Kd.C_alloc ?_ _) | (with_reducible refine Kd.C_drewN ?_ _) | (with_reducible refine Kd.C_drew ?_))); (case side4 => exact HC1_9.out); rintro e w67 ⟨rfl, hb⟩; have n0_ := Aside0.mk (blk_below (g := gb105) (by (with_reducible repeat (first | refine blk_drewN ?_ _ | refine blk_drew ?_ | refine blk_alloc ?_ _)); exact BK105.out) hb); have n1_ := Aside0.mk (blk_below (g := gb106) (by (with_reducible repeat (first | refine blk_drewN ?_ _ | refine blk_drew ?_ | refine blk_alloc ?_ _)); exact BK106.out) hb); have n2_ := Aside0.mk (below_step (by repeat (first | (with_reducible first | exact HB.out | apply below_alloc | apply pw_below_drewN | apply below_drew1 | refine below_set ?_ GE105.out | refine below_set ?_ GE106.out) | exact HB.out)) hb); clear BK105; clear BK106; clear HB; have BK105 := n0_; have BK106 := n1_; have HB := n2_; clear n0_ n1_ n2_; (try clear hb); (try clear hb2); (try clear hk); (try clear hi)) | (go_at_call 24; (with_reducible refine (st_sameExprs.calls kj20 _ _ l0_6 _ _ l1_6 _ _ ?side1 ?side2 ?side3 ?side4 A40.out).mono ?_); (case side1 => repeat (first | exact (Kd.C_below HR0_6.out HB.out) | (with_reducible refine Kd.C_alloc ?_ _) | (with_reducible refine Kd.C_drewN ?_ _) | (with_reducible refine Kd.C_drew ?_))); (case side2 => exact HC0_6.out); (case side3 => repeat (first | exact (Kd.C_below HR1_6.out HB.out) | (with_reducible refine Kd.C_alloc ?_ _) | (with_reducible refine Kd.C_drewN ?_ _) | (with_reducible refine Kd.C_drew ?_))); (case side4 => exact HC1_6.out); rintro e w74 ⟨rfl, hb⟩; have n0_ := Aside0.mk (blk_below (g := gb105) (by (with_reducible repeat (first | refine blk_drewN ?_ _ | refine blk_drew ?_ | refine blk_alloc ?_ _)); exact BK105.out) hb); have n1_ := Aside0.mk (blk_below (g := gb106) (by (with_reducible repeat (first | refine blk_drewN ?_ _ | refine blk_drew ?_ | refine blk_alloc ?_ _)); exact BK106.out) hb); have n2_ := Aside0.mk (below_step (by repeat (first | (with_reducible first | exact HB.out | apply below_alloc | apply pw_below_drewN | apply below_drew1 | refine below_set ?_ GE105.out | refine below_set ?_ GE106.out) | exact HB.out)) hb); clear BK105; clear BK106; clear HB; have BK105 := n0_; have BK106 := n1_; have HB := n2_; clear n0_ n1_ n2_; (try clear hb); (try clear hb2); (try clear hk); (try clear hi)))
     all_goals first
      | (go_ret
         exact ⟨by first | rfl | (simp [errW_none, errW_some] <;> rfl) | (simp [*, errW_none, errW_some] <;> rfl), by repeat (first | (with_reducible first | exact HB.out | apply below_alloc | apply pw_below_drewN | apply below_drew1 | refine below_set ?_ GE105.out | refine below_set ?_ GE106.out) | exact HB.out)⟩)
/-! #### api_Stmt, over st_Same_1 -/
def api_Stmt.l0Of (Fn : Int → Int → ByteArray → Int → List (S65) → List ByteArray → List (S65) → List ByteArray → List (S50) → List (S46) → List (S46) → Int → Int → Int → Int → Int → ByteArray → Int → List (S65) → List ByteArray → List (S65) → List ByteArray → List (S50) → List (S46) → List (S46) → Int → Int → Int → Option (Bool)) : Nat → List (S46) → List (S46) → Int → Int → Option (Bool)
 | 0, _, _, _, _ => none
 | k + 1, x1, x15, x16, x17 => if x17 < x16 then (if 0 ≤ x17 then (if x17 < (x15.length : Int) then (if x17 < (x1.length : Int) then ((Fn ((rd_T46 x15 x17).f0) ((rd_T46 x15 x17).f1) ((rd_T46 x15 x17).f2) ((rd_T46 x15 x17).f3) ((rd_T46 x15 x17).f4) ((rd_T46 x15 x17).f5) ((rd_T46 x15 x17).f6) ((rd_T46 x15 x17).f7) ((rd_T46 x15 x17).f8) ((rd_T46 x15 x17).f9) ((rd_T46 x15 x17).f10) ((rd_T46 x15 x17).f11) ((rd_T46 x15 x17).f12) ((rd_T46 x15 x17).f13) ((rd_T46 x1 x17).f0) ((rd_T46 x1 x17).f1) ((rd_T46 x1 x17).f2) ((rd_T46 x1 x17).f3) ((rd_T46 x1 x17).f4) ((rd_T46 x1 x17).f5) ((rd_T46 x1 x17).f6) ((rd_T46 x1 x17).f7) ((rd_T46 x1 x17).f8) ((rd_T46 x1 x17).f9) ((rd_T46 x1 x17).f10) ((rd_T46 x1 x17).f11) ((rd_T46 x1 x17).f12) ((rd_T46 x1 x17).f13)).bind fun t118 => (if t118 = true then (api_Stmt.l0Of Fn k x1 x15 x16 (wrap64 (x17 + 1))) else (some false))) else (none)) else (none)) else (none)) else (some true)
def api_Stmt.fOf (Fn : Int → Int → ByteArray → Int → List (S65) → List ByteArray → List (S65) → List ByteArray → List (S50) → List (S46) → List (S46) → Int → Int → Int → Int → Int → ByteArray → Int → List (S65) → List ByteArray → List (S65) → List ByteArray → List (S50) → List (S46) → List (S46) → Int → Int → Int → Option (Bool)) (k : Nat) (l0 : List (S46)) (l1 : List (S46)) (a2 : Bool) : Option (Bool) := if (l0.length : Int) = (l1.length : Int) then (api_Stmt.l0Of Fn k l1 l0 (l0.length : Int) 0) else (some false)

theorem api_Stmt.mono_lOf (Fn Fn' : Int → Int → ByteArray → Int → List (S65) → List ByteArray → List (S65) → List ByteArray → List (S50) → List (S46) → List (S46) → Int → Int → Int → Int → Int → ByteArray → Int → List (S65) → List ByteArray → List (S65) → List ByteArray → List (S50) → List (S46) → List (S46) → Int → Int → Int → Option (Bool)) (hle_ : ∀ z0 z1 z2 z3 z4 z5 z6 z7 z8 z9 z10 z11 z12 z13 z14 z15 z16 z17 z18 z19 z20 z21 z22 z23 z24 z25 z26 z27, LeO (Fn z0 z1 z2 z3 z4 z5 z6 z7 z8 z9 z10 z11 z12 z13 z14 z15 z16 z17 z18 z19 z20 z21 z22 z23 z24 z25 z26 z27) (Fn' z0 z1 z2 z3 z4 z5 z6 z7 z8 z9 z10 z11 z12 z13 z14 z15 z16 z17 z18 z19 z20 z21 z22 z23 z24 z25 z26 z27)) : ∀ k, (∀ y0 y1 y2 y3, LeO (api_Stmt.l0Of Fn k y0 y1 y2 y3) (api_Stmt.l0Of Fn' (k + 1) y0 y1 y2 y3))
 | 0 => fun _ _ _ _ r h => by simp [api_Stmt.l0Of] at h
 | k + 1 => by
  have ih0 := api_Stmt.mono_lOf Fn Fn' hle_ k
  · intro y0 y1 y2 y3
    unfold api_Stmt.l0Of
    repeat' first
    | (with_reducible exact ih0 _ _ _ _)
    | (with_reducible exact hle_ _ _ _ _ _ _ _ _ _ _ _ _ _ _ _ _ _ _ _ _ _ _ _ _ _ _ _ _)
    | (with_reducible exact LeO.refl _)
    | (with_reducible exact LeO.none _)
    | (with_reducible refine LeO.ite ?_ ?_)
    | (with_reducible refine LeO.bind ?_ (fun _ => ?_))
    | exact ih0 _ _ _ _
    | exact hle_ _ _ _ _ _ _ _ _ _ _ _ _ _ _ _ _ _ _ _ _ _ _ _ _ _ _ _ _
    | exact LeO.none _
    | refine LeO.ite ?_ ?_
    | refine LeO.bind ?_ (fun _ => ?_)
theorem api_Stmt.monoOf (Fn Fn' : Int → Int → ByteArray → Int → List (S65) → List ByteArray → List (S65) → List ByteArray → List (S50) → List (S46) → List (S46) → Int → Int → Int → Int → Int → ByteArray → Int → List (S65) → List ByteArray → List (S65) → List ByteArray → List (S50) → List (S46) → List (S46) → Int → Int → Int → Option (Bool)) (hle_ : ∀ z0 z1 z2 z3 z4 z5 z6 z7 z8 z9 z10 z11 z12 z13 z14 z15 z16 z17 z18 z19 z20 z21 z22 z23 z24 z25 z26 z27, LeO (Fn z0 z1 z2 z3 z4 z5 z6 z7 z8 z9 z10 z11 z12 z13 z14 z15 z16 z17 z18 z19 z20 z21 z22 z23 z24 z25 z26 z27) (Fn' z0 z1 z2 z3 z4 z5 z6 z7 z8 z9 z10 z11 z12 z13 z14 z15 z16 z17 z18 z19 z20 z21 z22 z23 z24 z25 z26 z27)) : ∀ a0 a1 a2 k, LeO (api_Stmt.fOf Fn k a0 a1 a2) (api_Stmt.fOf Fn' (k + 1) a0 a1 a2) := by
 intro a0 a1 a2 k
 have ih0 := api_Stmt.mono_lOf Fn Fn' hle_ k
 unfold api_Stmt.fOf
 repeat' first
  | (with_reducible exact ih0 _ _ _ _)
  | (with_reducible exact hle_ _ _ _ _ _ _ _ _ _ _ _ _ _ _ _ _ _ _ _ _ _ _ _ _ _ _ _ _)
  | (with_reducible exact LeO.refl _)
  | (with_reducible exact LeO.none _)
  | (with_reducible refine LeO.ite ?_ ?_)
  | (with_reducible refine LeO.bind ?_ (fun _ => ?_))
  | exact ih0 _ _ _ _
  | exact hle_ _ _ _ _ _ _ _ _ _ _ _ _ _ _ _ _ _ _ _ _ _ _ _ _ _ _ _ _
  | exact LeO.none _
  | refine LeO.ite ?_ ?_
  | refine LeO.bind ?_ (fun _ => ?_)

set_option maxHeartbeats 8000000 in
set_option maxRecDepth 100000 in
theorem api_Stmt.callsOf (Fn : Int → Int → ByteArray → Int → List (S65) → List ByteArray → List (S65) → List ByteArray → List (S50) → List (S46) → List (S46) → Int → Int → Int → Int → Int → ByteArray → Int → List (S65) → List ByteArray → List (S65) → List ByteArray → List (S50) → List (S46) → List (S46) → Int → Int → Int → Option (Bool)) (hFn : ∀ (a0_0 : Int) (a0_1 : Int) (a0_2 : ByteArray) (a0_3 : Int) (A0_4 : Option Addr) (c0_4 : Nat) (l0_4 : List (S65)) (A0_5 : Option Addr) (c0_5 : Nat) (l0_5 : List ByteArray) (A0_6 : Option Addr) (c0_6 : Nat) (l0_6 : List (S65)) (A0_7 : Option Addr) (c0_7 : Nat) (l0_7 : List ByteArray) (A0_8 : Option Addr) (c0_8 : Nat) (l0_8 : List (S50)) (A0_9 : Option Addr) (c0_9 : Nat) (l0_9 : List (S46)) (A0_10 : Option Addr) (c0_10 : Nat) (l0_10 : List (S46)) (a0_11 : Int) (a0_12 : Int) (a0_13 : Int) (a1_0 : Int) (a1_1 : Int) (a1_2 : ByteArray) (a1_3 : Int) (A1_4 : Option Addr) (c1_4 : Nat) (l1_4 : List (S65)) (A1_5 : Option Addr) (c1_5 : Nat) (l1_5 : List ByteArray) (A1_6 : Option Addr) (c1_6 : Nat) (l1_6 : List (S65)) (A1_7 : Option Addr) (c1_7 : Nat) (l1_7 : List ByteArray) (A1_8 : Option Addr) (c1_8 : Nat) (l1_8 : List (S50)) (A1_9 : Option Addr) (c1_9 : Nat) (l1_9 : List (S46)) (A1_10 : Option Addr) (c1_10 : Nat) (l1_10 : List (S46)) (a1_11 : Int) (a1_12 : Int) (a1_13 : Int) (r : Bool) (w : World) (hr0_4 : Kd.C k65 w A0_4 l0_4.length l0_4) (hc0_4 : l0_4.length ≤ c0_4) (hr0_5 : Kd.C Kd.string w A0_5 l0_5.length l0_5) (hc0_5 : l0_5.length ≤ c0_5) (hr0_6 : Kd.C k65 w A0_6 l0_6.length l0_6) (hc0_6 : l0_6.length ≤ c0_6) (hr0_7 : Kd.C Kd.string w A0_7 l0_7.length l0_7) (hc0_7 : l0_7.length ≤ c0_7) (hr0_8 : Kd.C k50 w A0_8 l0_8.length l0_8) (hc0_8 : l0_8.length ≤ c0_8) (hr0_9 : Kd.C k46 w A0_9 l0_9.length l0_9) (hc0_9 : l0_9.length ≤ c0_9) (hr0_10 : Kd.C k46 w A0_10 l0_10.length l0_10) (hc0_10 : l0_10.length ≤ c0_10) (hr1_4 : Kd.C k65 w A1_4 l1_4.length l1_4) (hc1_4 : l1_4.length ≤ c1_4) (hr1_5 : Kd.C Kd.string w A1_5 l1_5.length l1_5) (hc1_5 : l1_5.length ≤ c1_5) (hr1_6 : Kd.C k65 w A1_6 l1_6.length l1_6) (hc1_6 : l1_6.length ≤ c1_6) (hr1_7 : Kd.C Kd.string w A1_7 l1_7.length l1_7) (hc1_7 : l1_7.length ≤ c1_7) (hr1_8 : Kd.C k50 w A1_8 l1_8.length l1_8) (hc1_8 : l1_8.length ≤ c1_8) (hr1_9 : Kd.C k46 w A1_9 l1_9.length l1_9) (hc1_9 : l1_9.length ≤ c1_9) (hr1_10 : Kd.C k46 w A1_10 l1_10.length l1_10) (hc1_10 : l1_10.length ≤ c1_10) (h : Fn a0_0 a0_1 a0_2 a0_3 l0_4 l0_5 l0_6 l0_7 l0_8 l0_9 l0_10 a0_11 a0_12 a0_13 a1_0 a1_1 a1_2 a1_3 l1_4 l1_5 l1_6 l1_7 l1_8 l1_9 l1_10 a1_11 a1_12 a1_13 = some r), Calls Try.prog 21 #[.agg #[.int .i64 a0_0, .int .i64 a0_1, .string a0_2, .int .i64 a0_3, .slice A0_4 l0_4.length c0_4, .slice A0_5 l0_5.length c0_5, .slice A0_6 l0_6.length c0_6, .slice A0_7 l0_7.length c0_7, .slice A0_8 l0_8.length c0_8, .slice A0_9 l0_9.length c0_9, .slice A0_10 l0_10.length c0_10, .int .u8 a0_11, .int .i64 a0_12, .int .i64 a0_13], .agg #[.int .i64 a1_0, .int .i64 a1_1, .string a1_2, .int .i64 a1_3, .slice A1_4 l1_4.length c1_4, .slice A1_5 l1_5.length c1_5, .slice A1_6 l1_6.length c1_6, .slice A1_7 l1_7.length c1_7, .slice A1_8 l1_8.length c1_8, .slice A1_9 l1_9.length c1_9, .slice A1_10 l1_10.length c1_10, .int .u8 a1_11, .int .i64 a1_12, .int .i64 a1_13]] w fun e w' => e = .returned (.bool r) ∧ Below w.heap.size w w') (k : Nat) (A0 : Option Addr) (c0 : Nat) (l0 : List (S46)) (A1 : Option Addr) (c1 : Nat) (l1 : List (S46)) (a2 : Bool) (r : Bool) (w : World) (hr0 : Kd.C k46 w A0 l0.length l0) (hc0 : l0.length ≤ c0) (hr1 : Kd.C k46 w A1 l1.length l1) (hc1 : l1.length ≤ c1) (h : api_Stmt.fOf Fn k l0 l1 a2 = some r) :
 Calls Try.prog 20 #[.slice A0 l0.length c0, .slice A1 l1.length c1, .func (.func 21) #[] #[]] w fun e w' => e = .returned (.bool r) ∧ Below w.heap.size w w' := by
 have hu46 := Try.underlying46
 have HR0 := Aside0.mk hr0
 have HC0 := Aside0.mk hc0
 clear hr0 hc0
 have HR1 := Aside0.mk hr1
 have HC1 := Aside0.mk hc1
 clear hr1 hc1
 have HB := Aside0.mk (Below.refl w.heap.size w)
 have H : (if (l0.length : Int) = (l1.length : Int) then (api_Stmt.l0Of Fn k l1 l0 (l0.length : Int) 0) else (some false)) = some r := h
 clear h
 by_cases c4 : (l0.length : Int) = (l1.length : Int)
 · rw [if_pos c4] at H
   have c4b0 : ((l0.length : Int) == (l1.length : Int)) = true := beq_iff_eq.mpr c4
   have c4b1 : ((l0.length : Int) != (l1.length : Int)) = false := bne_eq_false_iff_eq.mpr c4
   have c4b2 : (l0.length == l1.length) = true := by first | simpa using c4 | (simp at c4 ⊢; omega)
   clear c4
   have H' := Aside0.mk H
   clear H
   go_enter Try.func20, Try.ntmps20
   go_wp2
   go_loopg [17] k (fun kq v17 w' => ∃ (x17_1 : Int), v17 = .int .i64 x17_1 ∧ Aside0 (api_Stmt.l0Of Fn kq l1 l0 (l0.length : Int) x17_1 = some r) ∧ Aside0 (kq ≤ k) ∧ Aside0 (Below w.heap.size w w'))
   case atStart => exact ⟨(0), (by first | rfl | (simp; done) | (simp [*]; done) | (simp [*, bne]; done)), H', ⟨Nat.le_refl _⟩, ⟨by repeat (first | (with_reducible first | exact HB.out | apply below_alloc | apply pw_below_drewN | apply below_drew1) | exact HB.out)⟩⟩
   case round =>
    clear H'
    try clear c1
    try clear c2
    try clear p2
    try clear c4
    try clear c4b0
    try clear c4b1
    try clear c4b2
    obtain ⟨x17_1, rfl, HA, HK1, HB⟩ := hrel
    cases gk with
    | zero => exact absurd HA.out (by simp [api_Stmt.l0Of])
    | succ k1 =>
     have H := HA.out
     clear HA
     simp only [api_Stmt.l0Of] at H
     refine (Classical.em (x17_1 < (l0.length : Int))).elim (fun c5 => ?p6_) (fun c5 => ?n6_)
     case' p6_ =>
      rw [if_pos c5] at H
      have c5b0 : decide (x17_1 < (l0.length : Int)) = true := decide_eq_true c5
      clear c5
      refine (Classical.em (0 ≤ x17_1)).elim (fun c6 => ?p7_) (fun c6 => ?n7_)
      case' p7_ =>
       rw [if_pos c6] at H
       have c6b0 : decide (0 ≤ x17_1) = true := decide_eq_true c6
       clear c6
       refine (Classical.em (x17_1 < (l0.length : Int))).elim (fun c7 => ?p8_) (fun c7 => ?n8_)
       case' p8_ =>
        rw [if_pos c7] at H
        have c7b0 : decide (x17_1 < (l0.length : Int)) = true := decide_eq_true c7
        clear c7
        refine (Classical.em (x17_1 < (l1.length : Int))).elim (fun c8 => ?p9_) (fun c8 => ?n9_)
        case' p9_ =>
         rw [if_pos c8] at H
         have c8b0 : decide (x17_1 < (l1.length : Int)) = true := decide_eq_true c8
         clear c8
         replace H := Option.bind_eq_some_iff.mp H
         obtain ⟨t118, A90, H⟩ := H
         replace H : (if t118 = true then (api_Stmt.l0Of Fn k1 l1 l0 (l0.length : Int) (wrap64 (x17_1 + 1))) else (some false)) = some r := H
         have A9 := Aside0.mk A90
         clear A90
         refine (Classical.em (t118 = true)).elim (fun c10 => ?p10_) (fun c10 => ?n10_)
         case' p10_ =>
          subst c10
          have H1 : (api_Stmt.l0Of Fn k1 l1 l0 (l0.length : Int) (wrap64 (x17_1 + 1))) = some r := by rw [if_pos rfl] at H; exact H
          clear H
          have H := H1
          clear H1
          have H' := Aside0.mk H
          clear H
          have p114 : 0 ≤ (x17_1 : Int) := of_decide_eq_true (by first | (with_reducible assumption) | assumption)
          have q114 : x17_1 < (l0.length : Int) := of_decide_eq_true (by first | (with_reducible assumption) | assumption)
          obtain ⟨ad114, A114_4, c114_4, A114_5, c114_5, A114_6, c114_6, A114_7, c114_7, A114_8, c114_8, A114_9, c114_9, A114_10, c114_10, e114, hx114_0, hx114_1, hx114_2, hx114_3, hx114_4, hx114_5, hx114_6, hx114_7, hx114_8, hx114_9, hx114_10, hx114_11, hx114_12, hx114_13, hl114_4, hi114_4, hl114_5, hi114_5, hl114_6, hi114_6, hl114_7, hi114_7, hl114_8, hi114_8, hl114_9, hi114_9, hl114_10, hi114_10⟩ := at_T46 HR0.out x17_1 p114 q114
          cases e114
          replace hx114_0 := (HB.out.cell (World.block_lt_of_cell? w _ hx114_0)).trans hx114_0
          replace hx114_1 := (HB.out.cell (World.block_lt_of_cell? w _ hx114_1)).trans hx114_1
          replace hx114_2 := (HB.out.cell (World.block_lt_of_cell? w _ hx114_2)).trans hx114_2
          replace hx114_3 := (HB.out.cell (World.block_lt_of_cell? w _ hx114_3)).trans hx114_3
          replace hx114_4 := (HB.out.cell (World.block_lt_of_cell? w _ hx114_4)).trans hx114_4
          replace hx114_5 := (HB.out.cell (World.block_lt_of_cell? w _ hx114_5)).trans hx114_5
          replace hx114_6 := (HB.out.cell (World.block_lt_of_cell? w _ hx114_6)).trans hx114_6
          replace hx114_7 := (HB.out.cell (World.block_lt_of_cell? w _ hx114_7)).trans hx114_7
          replace hx114_8 := (HB.out.cell (World.block_lt_of_cell? w _ hx114_8)).trans hx114_8
          replace hx114_9 := (HB.out.cell (World.block_lt_of_cell? w _ hx114_9)).trans hx114_9
          replace hx114_10 := (HB.out.cell (World.block_lt_of_cell? w _ hx114_10)).trans hx114_10
          replace hx114_11 := (HB.out.cell (World.block_lt_of_cell? w _ hx114_11)).trans hx114_11
          replace hx114_12 := (HB.out.cell (World.block_lt_of_cell? w _ hx114_12)).trans hx114_12
          replace hx114_13 := (HB.out.cell (World.block_lt_of_cell? w _ hx114_13)).trans hx114_13
          have HR114_4 := Aside0.mk hi114_4
          have HC114_4 := Aside0.mk hl114_4
          clear hi114_4 hl114_4
          have HR114_5 := Aside0.mk hi114_5
          have HC114_5 := Aside0.mk hl114_5
          clear hi114_5 hl114_5
          have HR114_6 := Aside0.mk hi114_6
          have HC114_6 := Aside0.mk hl114_6
          clear hi114_6 hl114_6
          have HR114_7 := Aside0.mk hi114_7
          have HC114_7 := Aside0.mk hl114_7
          clear hi114_7 hl114_7
          have HR114_8 := Aside0.mk hi114_8
          have HC114_8 := Aside0.mk hl114_8
          clear hi114_8 hl114_8
          have HR114_9 := Aside0.mk hi114_9
          have HC114_9 := Aside0.mk hl114_9
          clear hi114_9 hl114_9
          have HR114_10 := Aside0.mk hi114_10
          have HC114_10 := Aside0.mk hl114_10
          clear hi114_10 hl114_10
          replace p114 := eq_true p114
          replace q114 := eq_true q114
         case' n10_ =>
          replace c10 := Bool.eq_false_iff.mpr c10
          subst c10
          have H1 : (some false) = some r := by rw [if_neg (show ¬ (false = true) by decide)] at H; exact H
          clear H
          have H := H1
          clear H1
          obtain rfl := Option.some.inj H
          have p114 : 0 ≤ (x17_1 : Int) := of_decide_eq_true (by first | (with_reducible assumption) | assumption)
          have q114 : x17_1 < (l0.length : Int) := of_decide_eq_true (by first | (with_reducible assumption) | assumption)
          obtain ⟨ad114, A114_4, c114_4, A114_5, c114_5, A114_6, c114_6, A114_7, c114_7, A114_8, c114_8, A114_9, c114_9, A114_10, c114_10, e114, hx114_0, hx114_1, hx114_2, hx114_3, hx114_4, hx114_5, hx114_6, hx114_7, hx114_8, hx114_9, hx114_10, hx114_11, hx114_12, hx114_13, hl114_4, hi114_4, hl114_5, hi114_5, hl114_6, hi114_6, hl114_7, hi114_7, hl114_8, hi114_8, hl114_9, hi114_9, hl114_10, hi114_10⟩ := at_T46 HR0.out x17_1 p114 q114
          cases e114
          replace hx114_0 := (HB.out.cell (World.block_lt_of_cell? w _ hx114_0)).trans hx114_0
          replace hx114_1 := (HB.out.cell (World.block_lt_of_cell? w _ hx114_1)).trans hx114_1
          replace hx114_2 := (HB.out.cell (World.block_lt_of_cell? w _ hx114_2)).trans hx114_2
          replace hx114_3 := (HB.out.cell (World.block_lt_of_cell? w _ hx114_3)).trans hx114_3
          replace hx114_4 := (HB.out.cell (World.block_lt_of_cell? w _ hx114_4)).trans hx114_4
          replace hx114_5 := (HB.out.cell (World.block_lt_of_cell? w _ hx114_5)).trans hx114_5
          replace hx114_6 := (HB.out.cell (World.block_lt_of_cell? w _ hx114_6)).trans hx114_6
          replace hx114_7 := (HB.out.cell (World.block_lt_of_cell? w _ hx114_7)).trans hx114_7
          replace hx114_8 := (HB.out.cell (World.block_lt_of_cell? w _ hx114_8)).trans hx114_8
          replace hx114_9 := (HB.out.cell (World.block_lt_of_cell? w _ hx114_9)).trans hx114_9
          replace hx114_10 := (HB.out.cell (World.block_lt_of_cell? w _ hx114_10)).trans hx114_10
          replace hx114_11 := (HB.out.cell (World.block_lt_of_cell? w _ hx114_11)).trans hx114_11
          replace hx114_12 := (HB.out.cell (World.block_lt_of_cell? w _ hx114_12)).trans hx114_12
          replace hx114_13 := (HB.out.cell (World.block_lt_of_cell? w _ hx114_13)).trans hx114_13
          have HR114_4 := Aside0.mk hi114_4
          have HC114_4 := Aside0.mk hl114_4
          clear hi114_4 hl114_4
          have HR114_5 := Aside0.mk hi114_5
          have HC114_5 := Aside0.mk hl114_5
          clear hi114_5 hl114_5
          have HR114_6 := Aside0.mk hi114_6
          have HC114_6 := Aside0.mk hl114_6
          clear hi114_6 hl114_6
          have HR114_7 := Aside0.mk hi114_7
          have HC114_7 := Aside0.mk hl114_7
          clear hi114_7 hl114_7
          have HR114_8 := Aside0.mk hi114_8
          have HC114_8 := Aside0.mk hl114_8
          clear hi114_8 hl114_8
          have HR114_9 := Aside0.mk hi114_9
          have HC114_9 := Aside0.mk hl114_9
          clear hi114_9 hl114_9
          have HR114_10 := Aside0.mk hi114_10
          have HC114_10 := Aside0.mk hl114_10
          clear hi114_10 hl114_10
          replace p114 := eq_true p114
          replace q114 := eq_true q114
        case' n9_ =>
         rw [if_neg c8] at H
         exact absurd H (by simp)
       case' n8_ =>
        rw [if_neg c7] at H
        exact absurd H (by simp)
      case' n7_ =>
       rw [if_neg c6] at H
       exact absurd H (by simp)
     case' n6_ =>
      rw [if_neg c5] at H
      have c5b0 : decide (x17_1 < (l0.length : Int)) = false := decide_eq_false c5
      clear c5
      obtain rfl := Option.some.inj H
      go_wp2
      go_ret
      exact ⟨by first | rfl | (simp [errW_none, errW_some] <;> rfl) | (simp [*, errW_none, errW_some] <;> rfl), by repeat (first | (with_reducible first | exact HB.out | apply below_alloc | apply pw_below_drewN | apply below_drew1) | exact HB.out)⟩
     all_goals go_wp2_with (first | ((with_reducible refine gate_dst (N := 8) rfl ?_); refine box_event ?hg (N := 8) ?hd (cs := #[.int .i64 0, .int .i64 0, .string (⟨#[]⟩ : ByteArray), .int .i64 0, .slice none 0 0, .slice none 0 0, .slice none 0 0, .slice none 0 0, .slice none 0 0, .slice none 0 0, .slice none 0 0, .int .u8 0, .int .i64 0, .int .i64 0]) (t := 46) ?hr ?_; (case hd => rfl); (case hg => rfl); (case hr => first | (go_simp; done) | (go_simp; rfl)); intro gb115 hg w11 hbox hb; have n0_ := Aside0.mk (below_step (by repeat (first | (with_reducible first | exact HB.out | apply below_alloc | apply pw_below_drewN | apply below_drew1) | exact HB.out)) hb); have n1_ := Aside0.mk (hbox); have n2_ := Aside0.mk ((by rw [hg]; exact (below_size (by repeat (first | (with_reducible first | exact HB.out | apply below_alloc | apply pw_below_drewN | apply below_drew1) | exact HB.out))) : w.heap.size ≤ gb115)); have n3_ := Aside0.mk ((by rw [hg]; exact (below_size (by repeat (first | (with_reducible first | exact HB.out | apply below_alloc | apply pw_below_drewN | apply below_drew1) | exact HB.out))) : w.heap.size ≤ gb115)); clear HB; have HB := n0_; have BK115 := n1_; have GW115 := n2_; have GE115 := n3_; clear n0_ n1_ n2_ n3_; clear hb hbox hg; obtain ⟨_, _, _, _, _, _, _, _, _, _, _, _, _, _, _, _, _, _, _, _, _, _, _, _, _, _, _, _⟩ := cells14 BK115.out; have p116 : 0 ≤ (x17_1 : Int) := of_decide_eq_true (by first | (with_reducible assumption) | assumption); have q116 : x17_1 < (l1.length : Int) := of_decide_eq_true (by first | (with_reducible assumption) | assumption); obtain ⟨ad116, A116_4, c116_4, A116_5, c116_5, A116_6, c116_6, A116_7, c116_7, A116_8, c116_8, A116_9, c116_9, A116_10, c116_10, e116, hx116_0, hx116_1, hx116_2, hx116_3, hx116_4, hx116_5, hx116_6, hx116_7, hx116_8, hx116_9, hx116_10, hx116_11, hx116_12, hx116_13, hl116_4, hi116_4, hl116_5, hi116_5, hl116_6, hi116_6, hl116_7, hi116_7, hl116_8, hi116_8, hl116_9, hi116_9, hl116_10, hi116_10⟩ := at_T46 HR1.out x17_1 p116 q116; cases e116; have hn116_0 : ad116.block ≠ gb115 := Nat.ne_of_lt (Nat.lt_of_lt_of_le (by have := World.block_lt_of_cell? _ _ hx116_0; first | rwa [add_block] at this | exact this) GW115.out); have hn116_1 := hn116_0; have hn116_2 := hn116_0; have hn116_3 := hn116_0; have hn116_4 := hn116_0; have hn116_5 := hn116_0; have hn116_6 := hn116_0; have hn116_7 := hn116_0; have hn116_8 := hn116_0; have hn116_9 := hn116_0; have hn116_10 := hn116_0; have hn116_11 := hn116_0; have hn116_12 := hn116_0; have hn116_13 := hn116_0; replace hx116_0 := (HB.out.cell (World.block_lt_of_cell? w _ hx116_0)).trans hx116_0; replace hx116_1 := (HB.out.cell (World.block_lt_of_cell? w _ hx116_1)).trans hx116_1; replace hx116_2 := (HB.out.cell (World.block_lt_of_cell? w _ hx116_2)).trans hx116_2; replace hx116_3 := (HB.out.cell (World.block_lt_of_cell? w _ hx116_3)).trans hx116_3; replace hx116_4 := (HB.out.cell (World.block_lt_of_cell? w _ hx116_4)).trans hx116_4; replace hx116_5 := (HB.out.cell (World.block_lt_of_cell? w _ hx116_5)).trans hx116_5; replace hx116_6 := (HB.out.cell (World.block_lt_of_cell? w _ hx116_6)).trans hx116_6; replace hx116_7 := (HB.out.cell (World.block_lt_of_cell? w _ hx116_7)).trans hx116_7; replace hx116_8 := (HB.out.cell (World.block_lt_of_cell? w _ hx116_8)).trans hx116_8; replace hx116_9 := (HB.out.cell (World.block_lt_of_cell? w _ hx116_9)).trans hx116_9; replace hx116_10 := (HB.out.cell (World.block_lt_of_cell? w _ hx116_10)).trans hx116_10; replace hx116_11 := (HB.out.cell (World.block_lt_of_cell? w _ hx116_11)).trans hx116_11; replace hx116_12 := (HB.out.cell (World.block_lt_of_cell? w _ hx116_12)).trans hx116_12; replace hx116_13 := (HB.out.cell (World.block_lt_of_cell? w _ hx116_13)).trans hx116_13; have HR116_4 := Aside0.mk hi116_4; have HC116_4 := Aside0.mk hl116_4; clear hi116_4 hl116_4; have HR116_5 := Aside0.mk hi116_5; have HC116_5 := Aside0.mk hl116_5; clear hi116_5 hl116_5; have HR116_6 := Aside0.mk hi116_6; have HC116_6 := Aside0.mk hl116_6; clear hi116_6 hl116_6; have HR116_7 := Aside0.mk hi116_7; have HC116_7 := Aside0.mk hl116_7; clear hi116_7 hl116_7; have HR116_8 := Aside0.mk hi116_8; have HC116_8 := Aside0.mk hl116_8; clear hi116_8 hl116_8; have HR116_9 := Aside0.mk hi116_9; have HC116_9 := Aside0.mk hl116_9; clear hi116_9 hl116_9; have HR116_10 := Aside0.mk hi116_10; have HC116_10 := Aside0.mk hl116_10; clear hi116_10 hl116_10; replace hx116_0 := far14 gb115 (.int .i64 ((rd_T46 l0 x17_1).f0)) (.int .i64 ((rd_T46 l0 x17_1).f1)) (.string ((rd_T46 l0 x17_1).f2)) (.int .i64 ((rd_T46 l0 x17_1).f3)) (.slice A114_4 ((rd_T46 l0 x17_1).f4).length c114_4) (.slice A114_5 ((rd_T46 l0 x17_1).f5).length c114_5) (.slice A114_6 ((rd_T46 l0 x17_1).f6).length c114_6) (.slice A114_7 ((rd_T46 l0 x17_1).f7).length c114_7) (.slice A114_8 ((rd_T46 l0 x17_1).f8).length c114_8) (.slice A114_9 ((rd_T46 l0 x17_1).f9).length c114_9) (.slice A114_10 ((rd_T46 l0 x17_1).f10).length c114_10) (.int .u8 ((rd_T46 l0 x17_1).f11)) (.int .i64 ((rd_T46 l0 x17_1).f12)) (.int .i64 ((rd_T46 l0 x17_1).f13)) (by first | (rw [add_block]; exact hn116_0) | (show (Addr.add _ _).block ≠ _; rw [add_block]; exact hn116_0) | exact hn116_0) hx116_0; replace hx116_1 := far14 gb115 (.int .i64 ((rd_T46 l0 x17_1).f0)) (.int .i64 ((rd_T46 l0 x17_1).f1)) (.string ((rd_T46 l0 x17_1).f2)) (.int .i64 ((rd_T46 l0 x17_1).f3)) (.slice A114_4 ((rd_T46 l0 x17_1).f4).length c114_4) (.slice A114_5 ((rd_T46 l0 x17_1).f5).length c114_5) (.slice A114_6 ((rd_T46 l0 x17_1).f6).length c114_6) (.slice A114_7 ((rd_T46 l0 x17_1).f7).length c114_7) (.slice A114_8 ((rd_T46 l0 x17_1).f8).length c114_8) (.slice A114_9 ((rd_T46 l0 x17_1).f9).length c114_9) (.slice A114_10 ((rd_T46 l0 x17_1).f10).length c114_10) (.int .u8 ((rd_T46 l0 x17_1).f11)) (.int .i64 ((rd_T46 l0 x17_1).f12)) (.int .i64 ((rd_T46 l0 x17_1).f13)) (by first | (rw [add_block]; exact hn116_0) | (show (Addr.add _ _).block ≠ _; rw [add_block]; exact hn116_0) | exact hn116_0) hx116_1; replace hx116_2 := far14 gb115 (.int .i64 ((rd_T46 l0 x17_1).f0)) (.int .i64 ((rd_T46 l0 x17_1).f1)) (.string ((rd_T46 l0 x17_1).f2)) (.int .i64 ((rd_T46 l0 x17_1).f3)) (.slice A114_4 ((rd_T46 l0 x17_1).f4).length c114_4) (.slice A114_5 ((rd_T46 l0 x17_1).f5).length c114_5) (.slice A114_6 ((rd_T46 l0 x17_1).f6).length c114_6) (.slice A114_7 ((rd_T46 l0 x17_1).f7).length c114_7) (.slice A114_8 ((rd_T46 l0 x17_1).f8).length c114_8) (.slice A114_9 ((rd_T46 l0 x17_1).f9).length c114_9) (.slice A114_10 ((rd_T46 l0 x17_1).f10).length c114_10) (.int .u8 ((rd_T46 l0 x17_1).f11)) (.int .i64 ((rd_T46 l0 x17_1).f12)) (.int .i64 ((rd_T46 l0 x17_1).f13)) (by first | (rw [add_block]; exact hn116_0) | (show (Addr.add _ _).block ≠ _; rw [add_block]; exact hn116_0) | exact hn116_0) hx116_2; replace hx116_3 := far14 gb115 (.int .i64 ((rd_T46 l0 x17_1).f0)) (.int .i64 ((rd_T46 l0 x17_1).f1)) (.string ((rd_T46 l0 x17_1).f2)) (.int .i64 ((rd_T46 l0 x17_1).f3)) (.slice A114_4 ((rd_T46 l0 x17_1).f4).length c114_4) (.slice A114_5 ((rd_T46 l0 x17_1).f5).length c114_5) (.slice A114_6 ((rd_T46 l0 x17_1).f6).length c114_6) (.slice A114_7 ((rd_T46 l0 x17_1).f7).length c114_7) (.slice A114_8 ((rd_T46 l0 x17_1).f8).length c114_8) (.slice A114_9 ((rd_T46 l0 x17_1).f9).length c114_9) (.slice A114_10 ((rd_T46 l0 x17_1).f10).length c114_10) (.int .u8 ((rd_T46 l0 x17_1).f11)) (.int .i64 ((rd_T46 l0 x17_1).f12)) (.int .i64 ((rd_T46 l0 x17_1).f13)) (by first | (rw [add_block]; exact hn116_0) | (show (Addr.add _ _).block ≠ _; rw [add_block]; exact hn116_0) | exact hn116_0) hx116_3; replace hx116_4 := far14 gb115 (.int .i64 ((rd_T46 l0 x17_1).f0)) (.int .i64 ((rd_T46 l0 x17_1).f1)) (.string ((rd_T46 l0 x17_1).f2)) (.int .i64 ((rd_T46 l0 x17_1).f3)) (.slice A114_4 ((rd_T46 l0 x17_1).f4).length c114_4) (.slice A114_5 ((rd_T46 l0 x17_1).f5).length c114_5) (.slice A114_6 ((rd_T46 l0 x17_1).f6).length c114_6) (.slice A114_7 ((rd_T46 l0 x17_1).f7).length c114_7) (.slice A114_8 ((rd_T46 l0 x17_1).f8).length c114_8) (.slice A114_9 ((rd_T46 l0 x17_1).f9).length c114_9) (.slice A114_10 ((rd_T46 l0 x17_1).f10).length c114_10) (.int .u8 ((rd_T46 l0 x17_1).f11)) (.int .i64 ((rd_T46 l0 x17_1).f12)) (.int .i64 ((rd_T46 l0 x17_1).f13)) (by first | (rw [add_block]; exact hn116_0) | (show (Addr.add _ _).block ≠ _; rw [add_block]; exact hn116_0) | exact hn116_0) hx116_4; replace hx116_5 := far14 gb115 (.int .i64 ((rd_T46 l0 x17_1).f0)) (.int .i64 ((rd_T46 l0 x17_1).f1)) (.string ((rd_T46 l0 x17_1).f2)) (.int .i64 ((rd_T46 l0 x17_1).f3)) (.slice A114_4 ((rd_T46 l0 x17_1).f4).length c114_4) (.slice A114_5 ((rd_T46 l0 x17_1).f5).length c114_5) (.slice A114_6 ((rd_T46 l0 x17_1).f6).length c114_6) (.slice A114_7 ((rd_T46 l0 x17_1).f7).length c114_7) (.slice A114_8 ((rd_T46 l0 x17_1).f8).length c114_8) (.slice A114_9 ((rd_T46 l0 x17_1).f9).length c114_9) (.slice A114_10 ((rd_T46 l0 x17_1).f10).length c114_10) (.int .u8 ((rd_T46 l0 x17_1).f11)) (.int .i64 ((rd_T46 l0 x17_1).f12)) (.int .i64 ((rd_T46 l0 x17_1).f13)) (by first | (rw [add_block]; exact hn116_0) | (show (Addr.add _ _).block ≠ _; rw [add_block]; exact hn116_0) | exact hn116_0) hx116_5; replace hx116_6 := far14 gb115 (.int .i64 ((rd_T46 l0 x17_1).f0)) (.int .i64 ((rd_T46 l0 x17_1).f1)) (.string ((rd_T46 l0 x17_1).f2)) (.int .i64 ((rd_T46 l0 x17_1).f3)) (.slice A114_4 ((rd_T46 l0 x17_1).f4).length c114_4) (.slice A114_5 ((rd_T46 l0 x17_1).f5).length c114_5) (.slice A114_6 ((rd_T46 l0 x17_1).f6).length c114_6) (.slice A114_7 ((rd_T46 l0 x17_1).f7).length c114_7) (.slice A114_8 ((rd_T46 l0 x17_1).f8).length c114_8) (.slice A114_9 ((rd_T46 l0 x17_1).f9).length c114_9) (.slice A114_10 ((rd_T46 l0 x17_1).f10).length c114_10) (.int .u8 ((rd_T46 l0 x17_1).f11)) (.int .i64 ((rd_T46 l0 x17_1).f12)) (.int .i64 ((rd_T46 l0 x17_1).f13)) (by first | (rw [add_block]; exact hn116_0) | (show (Addr.add _ _).block ≠ _; rw [add_block]; exact hn116_0) | exact hn116_0) hx116_6; replace hx116_7 := far14 gb115 (.int .i64 ((rd_T46 l0 x17_1).f0)) (.int .i64 ((rd_T46 l0 x17_1).f1)) (.string ((rd_T46 l0 x17_1).f2)) (.int .i64 ((rd_T46 l0 x17_1).f3)) (.slice A114_4 ((rd_T46 l0 x17_1).f4).length c114_4) (.slice A114_5 ((rd_T46 l0 x17_1).f5).length c114_5) (.slice A114_6 ((rd_T46 l0 x17_1).f6).length c114_6) (.slice A114_7 ((rd_T46 l0 x17_1).f7).length c114_7) (.slice A114_8 ((rd_T46 l0 x17_1).f8).length c114_8) (.slice A114_9 ((rd_T46 l0 x17_1).f9).length c114_9) (.slice A114_10 ((rd_T46 l0 x17_1).f10).length c114_10) (.int .u8 ((rd_T46 l0 x17_1).f11)) (.int .i64 ((rd_T46 l0 x17_1).f12)) (.int .i64 ((rd_T46 l0 x17_1).f13)) (by first | (rw [add_block]; exact hn116_0) | (show (Addr.add _ _).block ≠ _; rw [add_block]; exact hn116_0) | exact hn116_0) hx116_7; replace hx116_8 := far14 gb115 (.int .i64 ((rd_T46 l0 x17_1).f0)) (.int .i64 ((rd_T46 l0 x17_1).f1)) (.string ((rd_T46 l0 x17_1).f2)) (.int .i64 ((rd_T46 l0 x17_1).f3)) (.slice A114_4 ((rd_T46 l0 x17_1).f4).length c114_4) (.slice A114_5 ((rd_T46 l0 x17_1).f5).length c114_5) (.slice A114_6 ((rd_T46 l0 x17_1).f6).length c114_6) (.slice A114_7 ((rd_T46 l0 x17_1).f7).length c114_7) (.slice A114_8 ((rd_T46 l0 x17_1).f8).length c114_8) (.slice A114_9 ((rd_T46 l0 x17_1).f9).length c114_9) (.slice A114_10 ((rd_T46 l0 x17_1).f10).length c114_10) (.int .u8 ((rd_T46 l0 x17_1).f11)) (.int .i64 ((rd_T46 l0 x17_1).f12)) (.int .i64 ((rd_T46 l0 x17_1).f13)) (by first | (rw [add_block]; exact hn116_0) | (show (Addr.add _ _).block ≠ _; rw [add_block]; exact hn116_0) | exact hn116_0) hx116_8; replace hx116_9 := far14 gb115 (.int .i64 ((rd_T46 l0 x17_1).f0)) (.int .i64 ((rd_T46 l0 x17_1).f1)) (.string ((rd_T46 l0 x17_1).f2)) (.int .i64 ((rd_T46 l0 x17_1).f3)) (.slice A114_4 ((rd_T46 l0 x17_1).f4).length c114_4) (.slice A114_5 ((rd_T46 l0 x17_1).f5).length c114_5) (.slice A114_6 ((rd_T46 l0 x17_1).f6).length c114_6) (.slice A114_7 ((rd_T46 l0 x17_1).f7).length c114_7) (.slice A114_8 ((rd_T46 l0 x17_1).f8).length c114_8) (.slice A114_9 ((rd_T46 l0 x17_1).f9).length c114_9) (.slice A114_10 ((rd_T46 l0 x17_1).f10).length c114_10) (.int .u8 ((rd_T46 l0 x17_1).f11)) (.int .i64 ((rd_T46 l0 x17_1).f12)) (.int .i64 ((rd_T46 l0 x17_1).f13)) (by first | (rw [add_block]; exact hn116_0) | (show (Addr.add _ _).block ≠ _; rw [add_block]; exact hn116_0) | exact hn116_0) hx116_9; replace hx116_10 := far14 gb115 (.int .i64 ((rd_T46 l0 x17_1).f0)) (.int .i64 ((rd_T46 l0 x17_1).f1)) (.string ((rd_T46 l0 x17_1).f2)) (.int .i64 ((rd_T46 l0 x17_1).f3)) (.slice A114_4 ((rd_T46 l0 x17_1).f4).length c114_4) (.slice A114_5 ((rd_T46 l0 x17_1).f5).length c114_5) (.slice A114_6 ((rd_T46 l0 x17_1).f6).length c114_6) (.slice A114_7 ((rd_T46 l0 x17_1).f7).length c114_7) (.slice A114_8 ((rd_T46 l0 x17_1).f8).length c114_8) (.slice A114_9 ((rd_T46 l0 x17_1).f9).length c114_9) (.slice A114_10 ((rd_T46 l0 x17_1).f10).length c114_10) (.int .u8 ((rd_T46 l0 x17_1).f11)) (.int .i64 ((rd_T46 l0 x17_1).f12)) (.int .i64 ((rd_T46 l0 x17_1).f13)) (by first | (rw [add_block]; exact hn116_0) | (show (Addr.add _ _).block ≠ _; rw [add_block]; exact hn116_0) | exact hn116_0) hx116_10; replace hx116_11 := far14 gb115 (.int .i64 ((rd_T46 l0 x17_1).f0)) (.int .i64 ((rd_T46 l0 x17_1).f1)) (.string ((rd_T46 l0 x17_1).f2)) (.int .i64 ((rd_T46 l0 x17_1).f3)) (.slice A114_4 ((rd_T46 l0 x17_1).f4).length c114_4) (.slice A114_5 ((rd_T46 l0 x17_1).f5).length c114_5) (.slice A114_6 ((rd_T46 l0 x17_1).f6).length c114_6) (.slice A114_7 ((rd_T46 l0 x17_1).f7).length c114_7) (.slice A114_8 ((rd_T46 l0 x17_1).f8).length c114_8) (.slice A114_9 ((rd_T46 l0 x17_1).f9).length c114_9) (.slice A114_10 ((rd_T46 l0 x17_1).f10).length c114_10) (.int .u8 ((rd_T46 l0 x17_1).f11)) (.int .i64 ((rd_T46 l0 x17_1).f12)) (.int .i64 ((rd_T46 l0 x17_1).f13)) (by first | (rw [add_block]; exact hn116_0) | (show (Addr.add _ _).block ≠ _; rw [add_block]; exact hn116_0) | exact hn116_0) hx116_11; replace hx116_12 := far14 gb115 (.int .i64 ((rd_T46 l0 x17_1).f0)) (.int .i64 ((rd_T46 l0 x17_1).f1)) (.string ((rd_T46 l0 x17_1).f2)) (.int .i64 ((rd_T46 l0 x17_1).f3)) (.slice A114_4 ((rd_T46 l0 x17_1).f4).length c114_4) (.slice A114_5 ((rd_T46 l0 x17_1).f5).length c114_5) (.slice A114_6 ((rd_T46 l0 x17_1).f6).length c114_6) (.slice A114_7 ((rd_T46 l0 x17_1).f7).length c114_7) (.slice A114_8 ((rd_T46 l0 x17_1).f8).length c114_8) (.slice A114_9 ((rd_T46 l0 x17_1).f9).length c114_9) (.slice A114_10 ((rd_T46 l0 x17_1).f10).length c114_10) (.int .u8 ((rd_T46 l0 x17_1).f11)) (.int .i64 ((rd_T46 l0 x17_1).f12)) (.int .i64 ((rd_T46 l0 x17_1).f13)) (by first | (rw [add_block]; exact hn116_0) | (show (Addr.add _ _).block ≠ _; rw [add_block]; exact hn116_0) | exact hn116_0) hx116_12; replace hx116_13 := far14 gb115 (.int .i64 ((rd_T46 l0 x17_1).f0)) (.int .i64 ((rd_T46 l0 x17_1).f1)) (.string ((rd_T46 l0 x17_1).f2)) (.int .i64 ((rd_T46 l0 x17_1).f3)) (.slice A114_4 ((rd_T46 l0 x17_1).f4).length c114_4) (.slice A114_5 ((rd_T46 l0 x17_1).f5).length c114_5) (.slice A114_6 ((rd_T46 l0 x17_1).f6).length c114_6) (.slice A114_7 ((rd_T46 l0 x17_1).f7).length c114_7) (.slice A114_8 ((rd_T46 l0 x17_1).f8).length c114_8) (.slice A114_9 ((rd_T46 l0 x17_1).f9).length c114_9) (.slice A114_10 ((rd_T46 l0 x17_1).f10).length c114_10) (.int .u8 ((rd_T46 l0 x17_1).f11)) (.int .i64 ((rd_T46 l0 x17_1).f12)) (.int .i64 ((rd_T46 l0 x17_1).f13)) (by first | (rw [add_block]; exact hn116_0) | (show (Addr.add _ _).block ≠ _; rw [add_block]; exact hn116_0) | exact hn116_0) hx116_13; clear hn116_0; clear hn116_1; clear hn116_2; clear hn116_3; clear hn116_4; clear hn116_5; clear hn116_6; clear hn116_7; clear hn116_8; clear hn116_9; clear hn116_10; clear hn116_11; clear hn116_12; clear hn116_13; replace p116 := eq_true p116; replace q116 := eq_true q116) | ((with_reducible refine gate_dst (N := 9) rfl ?_); refine box_event ?hg (N := 9) ?hd (cs := #[.int .i64 0, .int .i64 0, .string (⟨#[]⟩ : ByteArray), .int .i64 0, .slice none 0 0, .slice none 0 0, .slice none 0 0, .slice none 0 0, .slice none 0 0, .slice none 0 0, .slice none 0 0, .int .u8 0, .int .i64 0, .int .i64 0]) (t := 46) ?hr ?_; (case hd => rfl); (case hg => rfl); (case hr => first | (go_simp; done) | (go_simp; rfl)); intro gb117 hg w13 hbox hb; have n0_ := Aside0.mk (blk_below (g := gb115) (o := .cells #[.int .i64 ((rd_T46 l0 x17_1).f0), .int .i64 ((rd_T46 l0 x17_1).f1), .string ((rd_T46 l0 x17_1).f2), .int .i64 ((rd_T46 l0 x17_1).f3), .slice A114_4 ((rd_T46 l0 x17_1).f4).length c114_4, .slice A114_5 ((rd_T46 l0 x17_1).f5).length c114_5, .slice A114_6 ((rd_T46 l0 x17_1).f6).length c114_6, .slice A114_7 ((rd_T46 l0 x17_1).f7).length c114_7, .slice A114_8 ((rd_T46 l0 x17_1).f8).length c114_8, .slice A114_9 ((rd_T46 l0 x17_1).f9).length c114_9, .slice A114_10 ((rd_T46 l0 x17_1).f10).length c114_10, .int .u8 ((rd_T46 l0 x17_1).f11), .int .i64 ((rd_T46 l0 x17_1).f12), .int .i64 ((rd_T46 l0 x17_1).f13)] 46 (0, 0)) (by (with_reducible repeat (first | refine blk_drewN ?_ _ | refine blk_drew ?_ | refine blk_alloc ?_ _)); apply put14; (with_reducible repeat (first | refine blk_drewN ?_ _ | refine blk_drew ?_ | refine blk_alloc ?_ _)); exact BK115.out) hb); have n1_ := Aside0.mk (below_step (by repeat (first | (with_reducible first | exact HB.out | apply below_alloc | apply pw_below_drewN | apply below_drew1 | refine below_set ?_ GE115.out) | exact HB.out)) hb); have n2_ := Aside0.mk (hbox); have n3_ := Aside0.mk ((by rw [hg]; exact (below_size (by repeat (first | (with_reducible first | exact HB.out | apply below_alloc | apply pw_below_drewN | apply below_drew1 | refine below_set ?_ GE115.out) | exact HB.out))) : w.heap.size ≤ gb117)); have n4_ := Aside0.mk ((by rw [hg]; exact (below_size (by repeat (first | (with_reducible first | exact HB.out | apply below_alloc | apply pw_below_drewN | apply below_drew1 | refine below_set ?_ GE115.out) | exact HB.out))) : w.heap.size ≤ gb117)); have n5_ := Aside0.mk ((by rw [hg]; exact Nat.ne_of_lt (blk_lt (g := gb115) (o := .cells #[.int .i64 ((rd_T46 l0 x17_1).f0), .int .i64 ((rd_T46 l0 x17_1).f1), .string ((rd_T46 l0 x17_1).f2), .int .i64 ((rd_T46 l0 x17_1).f3), .slice A114_4 ((rd_T46 l0 x17_1).f4).length c114_4, .slice A114_5 ((rd_T46 l0 x17_1).f5).length c114_5, .slice A114_6 ((rd_T46 l0 x17_1).f6).length c114_6, .slice A114_7 ((rd_T46 l0 x17_1).f7).length c114_7, .slice A114_8 ((rd_T46 l0 x17_1).f8).length c114_8, .slice A114_9 ((rd_T46 l0 x17_1).f9).length c114_9, .slice A114_10 ((rd_T46 l0 x17_1).f10).length c114_10, .int .u8 ((rd_T46 l0 x17_1).f11), .int .i64 ((rd_T46 l0 x17_1).f12), .int .i64 ((rd_T46 l0 x17_1).f13)] 46 (0, 0)) (by (with_reducible repeat (first | refine blk_drewN ?_ _ | refine blk_drew ?_ | refine blk_alloc ?_ _)); apply put14; (with_reducible repeat (first | refine blk_drewN ?_ _ | refine blk_drew ?_ | refine blk_alloc ?_ _)); exact BK115.out)) : gb115 ≠ gb117)); have n6_ := Aside0.mk ((by rw [hg]; exact Nat.ne_of_gt (blk_lt (g := gb115) (o := .cells #[.int .i64 ((rd_T46 l0 x17_1).f0), .int .i64 ((rd_T46 l0 x17_1).f1), .string ((rd_T46 l0 x17_1).f2), .int .i64 ((rd_T46 l0 x17_1).f3), .slice A114_4 ((rd_T46 l0 x17_1).f4).length c114_4, .slice A114_5 ((rd_T46 l0 x17_1).f5).length c114_5, .slice A114_6 ((rd_T46 l0 x17_1).f6).length c114_6, .slice A114_7 ((rd_T46 l0 x17_1).f7).length c114_7, .slice A114_8 ((rd_T46 l0 x17_1).f8).length c114_8, .slice A114_9 ((rd_T46 l0 x17_1).f9).length c114_9, .slice A114_10 ((rd_T46 l0 x17_1).f10).length c114_10, .int .u8 ((rd_T46 l0 x17_1).f11), .int .i64 ((rd_T46 l0 x17_1).f12), .int .i64 ((rd_T46 l0 x17_1).f13)] 46 (0, 0)) (by (with_reducible repeat (first | refine blk_drewN ?_ _ | refine blk_drew ?_ | refine blk_alloc ?_ _)); apply put14; (with_reducible repeat (first | refine blk_drewN ?_ _ | refine blk_drew ?_ | refine blk_alloc ?_ _)); exact BK115.out)) : gb117 ≠ gb115)); clear BK115; clear HB; have BK115 := n0_; have HB := n1_; have BK117 := n2_; have GW117 := n3_; have GE117 := n4_; have NB115_117 := n5_; have NB117_115 := n6_; clear n0_ n1_ n2_ n3_ n4_ n5_ n6_; clear hb hbox hg; have hnb14 := NB117_115.out; have hnc14 := NB115_117.out; obtain ⟨_, _, _, _, _, _, _, _, _, _, _, _, _, _, _, _, _, _, _, _, _, _, _, _, _, _, _, _⟩ := cells14 BK117.out; obtain ⟨hcz16_0, hcz16_1, hcz16_2, hcz16_3, hcz16_4, hcz16_5, hcz16_6, hcz16_7, hcz16_8, hcz16_9, hcz16_10, hcz16_11, hcz16_12, hcz16_13, hfz16_0, hfz16_1, hfz16_2, hfz16_3, hfz16_4, hfz16_5, hfz16_6, hfz16_7, hfz16_8, hfz16_9, hfz16_10, hfz16_11, hfz16_12, hfz16_13⟩ := cells14 BK115.out) | ((with_reducible refine gate_valued (N := 26) rfl ?_); refine goesV_ (x := .tmp 26) (by first | rfl | (simp [Act.eval]; done)) (some 29) rfl rfl Try.func21 (by kernel_rfl) rfl #[.agg #[.int .i64 ((rd_T46 l0 x17_1).f0), .int .i64 ((rd_T46 l0 x17_1).f1), .string ((rd_T46 l0 x17_1).f2), .int .i64 ((rd_T46 l0 x17_1).f3), .slice A114_4 ((rd_T46 l0 x17_1).f4).length c114_4, .slice A114_5 ((rd_T46 l0 x17_1).f5).length c114_5, .slice A114_6 ((rd_T46 l0 x17_1).f6).length c114_6, .slice A114_7 ((rd_T46 l0 x17_1).f7).length c114_7, .slice A114_8 ((rd_T46 l0 x17_1).f8).length c114_8, .slice A114_9 ((rd_T46 l0 x17_1).f9).length c114_9, .slice A114_10 ((rd_T46 l0 x17_1).f10).length c114_10, .int .u8 ((rd_T46 l0 x17_1).f11), .int .i64 ((rd_T46 l0 x17_1).f12), .int .i64 ((rd_T46 l0 x17_1).f13)], .agg #[.int .i64 ((rd_T46 l1 x17_1).f0), .int .i64 ((rd_T46 l1 x17_1).f1), .string ((rd_T46 l1 x17_1).f2), .int .i64 ((rd_T46 l1 x17_1).f3), .slice A116_4 ((rd_T46 l1 x17_1).f4).length c116_4, .slice A116_5 ((rd_T46 l1 x17_1).f5).length c116_5, .slice A116_6 ((rd_T46 l1 x17_1).f6).length c116_6, .slice A116_7 ((rd_T46 l1 x17_1).f7).length c116_7, .slice A116_8 ((rd_T46 l1 x17_1).f8).length c116_8, .slice A116_9 ((rd_T46 l1 x17_1).f9).length c116_9, .slice A116_10 ((rd_T46 l1 x17_1).f10).length c116_10, .int .u8 ((rd_T46 l1 x17_1).f11), .int .i64 ((rd_T46 l1 x17_1).f12), .int .i64 ((rd_T46 l1 x17_1).f13)]] rfl (by (try simp only [List.map_toArray, List.map_cons, List.map_nil]); first | done | rfl | (simp only [List.length_drop, List.length_take]; rfl)) ?_; (with_reducible refine (hFn ((rd_T46 l0 x17_1).f0) ((rd_T46 l0 x17_1).f1) ((rd_T46 l0 x17_1).f2) ((rd_T46 l0 x17_1).f3) _ _ ((rd_T46 l0 x17_1).f4) _ _ ((rd_T46 l0 x17_1).f5) _ _ ((rd_T46 l0 x17_1).f6) _ _ ((rd_T46 l0 x17_1).f7) _ _ ((rd_T46 l0 x17_1).f8) _ _ ((rd_T46 l0 x17_1).f9) _ _ ((rd_T46 l0 x17_1).f10) ((rd_T46 l0 x17_1).f11) ((rd_T46 l0 x17_1).f12) ((rd_T46 l0 x17_1).f13) ((rd_T46 l1 x17_1).f0) ((rd_T46 l1 x17_1).f1) ((rd_T46 l1 x17_1).f2) ((rd_T46 l1 x17_1).f3) _ _ ((rd_T46 l1 x17_1).f4) _ _ ((rd_T46 l1 x17_1).f5) _ _ ((rd_T46 l1 x17_1).f6) _ _ ((rd_T46 l1 x17_1).f7) _ _ ((rd_T46 l1 x17_1).f8) _ _ ((rd_T46 l1 x17_1).f9) _ _ ((rd_T46 l1 x17_1).f10) ((rd_T46 l1 x17_1).f11) ((rd_T46 l1 x17_1).f12) ((rd_T46 l1 x17_1).f13) _ _ ?side1 ?side2 ?side3 ?side4 ?side5 ?side6 ?side7 ?side8 ?side9 ?side10 ?side11 ?side12 ?side13 ?side14 ?side15 ?side16 ?side17 ?side18 ?side19 ?side20 ?side21 ?side22 ?side23 ?side24 ?side25 ?side26 ?side27 ?side28 (by first | exact A9.out)).mono ?_); (case side1 => exact Kd.C_below HR114_4.out (by repeat (first | (with_reducible first | exact HB.out | apply below_alloc | apply pw_below_drewN | apply below_drew1 | refine below_set ?_ GE115.out | refine below_set ?_ GE117.out) | exact HB.out))); (case side2 => exact HC114_4.out); (case side3 => exact Kd.C_below HR114_5.out (by repeat (first | (with_reducible first | exact HB.out | apply below_alloc | apply pw_below_drewN | apply below_drew1 | refine below_set ?_ GE115.out | refine below_set ?_ GE117.out) | exact HB.out))); (case side4 => exact HC114_5.out); (case side5 => exact Kd.C_below HR114_6.out (by repeat (first | (with_reducible first | exact HB.out | apply below_alloc | apply pw_below_drewN | apply below_drew1 | refine below_set ?_ GE115.out | refine below_set ?_ GE117.out) | exact HB.out))); (case side6 => exact HC114_6.out); (case side7 => exact Kd.C_below HR114_7.out (by repeat (first | (with_reducible first | exact HB.out | apply below_alloc | apply pw_below_drewN | apply below_drew1 | refine below_set ?_ GE115.out | refine below_set ?_ GE117.out) | exact HB.out))); (case side8 => exact HC114_7.out); (case side9 => exact Kd.C_below HR114_8.out (by repeat (first | (with_reducible first | exact HB.out | apply below_alloc | apply pw_below_drewN | apply below_drew1 | refine below_set ?_ GE115.out | refine below_set ?_ GE117.out) | exact HB.out))); (case side10 => exact HC114_8.out); (case side11 => exact Kd.C_below HR114_9.out (by repeat (first | (with_reducible first | exact HB.out | apply below_alloc | apply pw_below_drewN | apply below_drew1 | refine below_set ?_ GE115.out | refine below_set ?_ GE117.out) | exact HB.out))); (case side12 => exact HC114_9.out); (case side13 => exact Kd.C_below HR114_10.out (by repeat (first | (with_reducible first | exact HB.out | apply below_alloc | apply pw_below_drewN | apply below_drew1 | refine below_set ?_ GE115.out | refine below_set ?_ GE117.out) | exact HB.out))); (case side14 => exact HC114_10.out); (case side15 => exact Kd.C_below HR116_4.out (by repeat (first | (with_reducible first | exact HB.out | apply below_alloc | apply pw_below_drewN | apply below_drew1 | refine below_set ?_ GE115.out | refine below_set ?_ GE117.out) | exact HB.out))); (case side16 => exact HC116_4.out); (case side17 => exact Kd.C_below HR116_5.out (by repeat (first | (with_reducible first | exact HB.out | apply below_alloc | apply pw_below_drewN | apply below_drew1 | refine below_set ?_ GE115.out | refine below_set ?_ GE117.out) | exact HB.out))); (case side18 => exact HC116_5.out); (case side19 => exact Kd.C_below HR116_6.out (by repeat (first | (with_reducible first | exact HB.out | apply below_alloc | apply pw_below_drewN | apply below_drew1 | refine below_set ?_ GE115.out | refine below_set ?_ GE117.out) | exact HB.out))); (case side20 => exact HC116_6.out); (case side21 => exact Kd.C_below HR116_7.out (by repeat (first | (with_reducible first | exact HB.out | apply below_alloc | apply pw_below_drewN | apply below_drew1 | refine below_set ?_ GE115.out | refine below_set ?_ GE117.out) | exact HB.out))); (case side22 => exact HC116_7.out); (case side23 => exact Kd.C_below HR116_8.out (by repeat (first | (with_reducible first | exact HB.out | apply below_alloc | apply pw_below_drewN | apply below_drew1 | refine below_set ?_ GE115.out | refine below_set ?_ GE117.out) | exact HB.out))); (case side24 => exact HC116_8.out); (case side25 => exact Kd.C_below HR116_9.out (by repeat (first | (with_reducible first | exact HB.out | apply below_alloc | apply pw_below_drewN | apply below_drew1 | refine below_set ?_ GE115.out | refine below_set ?_ GE117.out) | exact HB.out))); (case side26 => exact HC116_9.out); (case side27 => exact Kd.C_below HR116_10.out (by repeat (first | (with_reducible first | exact HB.out | apply below_alloc | apply pw_below_drewN | apply below_drew1 | refine below_set ?_ GE115.out | refine below_set ?_ GE117.out) | exact HB.out))); (case side28 => exact HC116_10.out); rintro e w17 ⟨rfl, hb⟩; refine ⟨_, rfl, ?_⟩; have n0_ := Aside0.mk (blk_below (g := gb115) (o := .cells #[.int .i64 ((rd_T46 l0 x17_1).f0), .int .i64 ((rd_T46 l0 x17_1).f1), .string ((rd_T46 l0 x17_1).f2), .int .i64 ((rd_T46 l0 x17_1).f3), .slice A114_4 ((rd_T46 l0 x17_1).f4).length c114_4, .slice A114_5 ((rd_T46 l0 x17_1).f5).length c114_5, .slice A114_6 ((rd_T46 l0 x17_1).f6).length c114_6, .slice A114_7 ((rd_T46 l0 x17_1).f7).length c114_7, .slice A114_8 ((rd_T46 l0 x17_1).f8).length c114_8, .slice A114_9 ((rd_T46 l0 x17_1).f9).length c114_9, .slice A114_10 ((rd_T46 l0 x17_1).f10).length c114_10, .int .u8 ((rd_T46 l0 x17_1).f11), .int .i64 ((rd_T46 l0 x17_1).f12), .int .i64 ((rd_T46 l0 x17_1).f13)] 46 (0, 0)) (by (with_reducible repeat (first | refine blk_drewN ?_ _ | refine blk_drew ?_ | refine blk_alloc ?_ _)); refine blk_far ?_ NB115_117.out _; (with_reducible repeat (first | refine blk_drewN ?_ _ | refine blk_drew ?_ | refine blk_alloc ?_ _)); refine blk_far ?_ NB115_117.out _; (with_reducible repeat (first | refine blk_drewN ?_ _ | refine blk_drew ?_ | refine blk_alloc ?_ _)); refine blk_far ?_ NB115_117.out _; (with_reducible repeat (first | refine blk_drewN ?_ _ | refine blk_drew ?_ | refine blk_alloc ?_ _)); refine blk_far ?_ NB115_117.out _; (with_reducible repeat (first | refine blk_drewN ?_ _ | refine blk_drew ?_ | refine blk_alloc ?_ _)); refine blk_far ?_ NB115_117.out _; (with_reducible repeat (first | refine blk_drewN ?_ _ | refine blk_drew ?_ | refine blk_alloc ?_ _)); refine blk_far ?_ NB115_117.out _; (with_reducible repeat (first | refine blk_drewN ?_ _ | refine blk_drew ?_ | refine blk_alloc ?_ _)); refine blk_far ?_ NB115_117.out _; (with_reducible repeat (first | refine blk_drewN ?_ _ | refine blk_drew ?_ | refine blk_alloc ?_ _)); refine blk_far ?_ NB115_117.out _; (with_reducible repeat (first | refine blk_drewN ?_ _ | refine blk_drew ?_ | refine blk_alloc ?_ _)); refine blk_far ?_ NB115_117.out _; (with_reducible repeat (first | refine blk_drewN ?_ _ | refine blk_drew ?_ | refine blk_alloc ?_ _)); refine blk_far ?_ NB115_117.out _; (with_reducible repeat (first | refine blk_drewN ?_ _ | refine blk_drew ?_ | refine blk_alloc ?_ _)); refine blk_far ?_ NB115_117.out _; (with_reducible repeat (first | refine blk_drewN ?_ _ | refine blk_drew ?_ | refine blk_alloc ?_ _)); refine blk_far ?_ NB115_117.out _; (with_reducible repeat (first | refine blk_drewN ?_ _ | refine blk_drew ?_ | refine blk_alloc ?_ _)); refine blk_far ?_ NB115_117.out _; (with_reducible repeat (first | refine blk_drewN ?_ _ | refine blk_drew ?_ | refine blk_alloc ?_ _)); refine blk_far ?_ NB115_117.out _; (with_reducible repeat (first | refine blk_drewN ?_ _ | refine blk_drew ?_ | refine blk_alloc ?_ _)); exact BK115.out) hb); have n1_ := Aside0.mk (blk_below (g := gb117) (o := .cells #[.int .i64 ((rd_T46 l1 x17_1).f0), .int .i64 ((rd_T46 l1 x17_1).f1), .string ((rd_T46 l1 x17_1).f2), .int .i64 ((rd_T46 l1 x17_1).f3), .slice A116_4 ((rd_T46 l1 x17_1).f4).length c116_4, .slice A116_5 ((rd_T46 l1 x17_1).f5).length c116_5, .slice A116_6 ((rd_T46 l1 x17_1).f6).length c116_6, .slice A116_7 ((rd_T46 l1 x17_1).f7).length c116_7, .slice A116_8 ((rd_T46 l1 x17_1).f8).length c116_8, .slice A116_9 ((rd_T46 l1 x17_1).f9).length c116_9, .slice A116_10 ((rd_T46 l1 x17_1).f10).length c116_10, .int .u8 ((rd_T46 l1 x17_1).f11), .int .i64 ((rd_T46 l1 x17_1).f12), .int .i64 ((rd_T46 l1 x17_1).f13)] 46 (0, 0)) (by (with_reducible repeat (first | refine blk_drewN ?_ _ | refine blk_drew ?_ | refine blk_alloc ?_ _)); apply put14; (with_reducible repeat (first | refine blk_drewN ?_ _ | refine blk_drew ?_ | refine blk_alloc ?_ _)); exact BK117.out) hb); have n2_ := Aside0.mk (below_step (by repeat (first | (with_reducible first | exact HB.out | apply below_alloc | apply pw_below_drewN | apply below_drew1 | refine below_set ?_ GE115.out | refine below_set ?_ GE117.out) | exact HB.out)) hb); clear BK115; clear BK117; clear HB; have BK115 := n0_; have BK117 := n1_; have HB := n2_; clear n0_ n1_ n2_; (try clear hb); (try clear hb2); (try clear hk); (try clear hi)) | ((with_reducible refine gate_dst (N := 9) rfl ?_); refine box_event ?hg (N := 9) ?hd (cs := #[.int .i64 0, .int .i64 0, .string (⟨#[]⟩ : ByteArray), .int .i64 0, .slice none 0 0, .slice none 0 0, .slice none 0 0, .slice none 0 0, .slice none 0 0, .slice none 0 0, .slice none 0 0, .int .u8 0, .int .i64 0, .int .i64 0]) (t := 46) ?hr ?_; (case hd => rfl); (case hg => rfl); (case hr => first | (go_simp; done) | (go_simp; rfl)); intro gb117 hg w20 hbox hb; have n0_ := Aside0.mk (blk_below (g := gb115) (o := .cells #[.int .i64 ((rd_T46 l0 x17_1).f0), .int .i64 ((rd_T46 l0 x17_1).f1), .string ((rd_T46 l0 x17_1).f2), .int .i64 ((rd_T46 l0 x17_1).f3), .slice A114_4 ((rd_T46 l0 x17_1).f4).length c114_4, .slice A114_5 ((rd_T46 l0 x17_1).f5).length c114_5, .slice A114_6 ((rd_T46 l0 x17_1).f6).length c114_6, .slice A114_7 ((rd_T46 l0 x17_1).f7).length c114_7, .slice A114_8 ((rd_T46 l0 x17_1).f8).length c114_8, .slice A114_9 ((rd_T46 l0 x17_1).f9).length c114_9, .slice A114_10 ((rd_T46 l0 x17_1).f10).length c114_10, .int .u8 ((rd_T46 l0 x17_1).f11), .int .i64 ((rd_T46 l0 x17_1).f12), .int .i64 ((rd_T46 l0 x17_1).f13)] 46 (0, 0)) (by (with_reducible repeat (first | refine blk_drewN ?_ _ | refine blk_drew ?_ | refine blk_alloc ?_ _)); apply put14; (with_reducible repeat (first | refine blk_drewN ?_ _ | refine blk_drew ?_ | refine blk_alloc ?_ _)); exact BK115.out) hb); have n1_ := Aside0.mk (below_step (by repeat (first | (with_reducible first | exact HB.out | apply below_alloc | apply pw_below_drewN | apply below_drew1 | refine below_set ?_ GE115.out) | exact HB.out)) hb); have n2_ := Aside0.mk (hbox); have n3_ := Aside0.mk ((by rw [hg]; exact (below_size (by repeat (first | (with_reducible first | exact HB.out | apply below_alloc | apply pw_below_drewN | apply below_drew1 | refine below_set ?_ GE115.out) | exact HB.out))) : w.heap.size ≤ gb117)); have n4_ := Aside0.mk ((by rw [hg]; exact (below_size (by repeat (first | (with_reducible first | exact HB.out | apply below_alloc | apply pw_below_drewN | apply below_drew1 | refine below_set ?_ GE115.out) | exact HB.out))) : w.heap.size ≤ gb117)); have n5_ := Aside0.mk ((by rw [hg]; exact Nat.ne_of_lt (blk_lt (g := gb115) (o := .cells #[.int .i64 ((rd_T46 l0 x17_1).f0), .int .i64 ((rd_T46 l0 x17_1).f1), .string ((rd_T46 l0 x17_1).f2), .int .i64 ((rd_T46 l0 x17_1).f3), .slice A114_4 ((rd_T46 l0 x17_1).f4).length c114_4, .slice A114_5 ((rd_T46 l0 x17_1).f5).length c114_5, .slice A114_6 ((rd_T46 l0 x17_1).f6).length c114_6, .slice A114_7 ((rd_T46 l0 x17_1).f7).length c114_7, .slice A114_8 ((rd_T46 l0 x17_1).f8).length c114_8, .slice A114_9 ((rd_T46 l0 x17_1).f9).length c114_9, .slice A114_10 ((rd_T46 l0 x17_1).f10).length c114_10, .int .u8 ((rd_T46 l0 x17_1).f11), .int .i64 ((rd_T46 l0 x17_1).f12), .int .i64 ((rd_T46 l0 x17_1).f13)] 46 (0, 0)) (by (with_reducible repeat (first | refine blk_drewN ?_ _ | refine blk_drew ?_ | refine blk_alloc ?_ _)); apply put14; (with_reducible repeat (first | refine blk_drewN ?_ _ | refine blk_drew ?_ | refine blk_alloc ?_ _)); exact BK115.out)) : gb115 ≠ gb117)); have n6_ := Aside0.mk ((by rw [hg]; exact Nat.ne_of_gt (blk_lt (g := gb115) (o := .cells #[.int .i64 ((rd_T46 l0 x17_1).f0), .int .i64 ((rd_T46 l0 x17_1).f1), .string ((rd_T46 l0 x17_1).f2), .int .i64 ((rd_T46 l0 x17_1).f3), .slice A114_4 ((rd_T46 l0 x17_1).f4).length c114_4, .slice A114_5 ((rd_T46 l0 x17_1).f5).length c114_5, .slice A114_6 ((rd_T46 l0 x17_1).f6).length c114_6, .slice A114_7 ((rd_T46 l0 x17_1).f7).length c114_7, .slice A114_8 ((rd_T46 l0 x17_1).f8).length c114_8, .slice A114_9 ((rd_T46 l0 x17_1).f9).length c114_9, .slice A114_10 ((rd_T46 l0 x17_1).f10).length c114_10, .int .u8 ((rd_T46 l0 x17_1).f11), .int .i64 ((rd_T46 l0 x17_1).f12), .int .i64 ((rd_T46 l0 x17_1).f13)] 46 (0, 0)) (by (with_reducible repeat (first | refine blk_drewN ?_ _ | refine blk_drew ?_ | refine blk_alloc ?_ _)); apply put14; (with_reducible repeat (first | refine blk_drewN ?_ _ | refine blk_drew ?_ | refine blk_alloc ?_ _)); exact BK115.out)) : gb117 ≠ gb115)); clear BK115; clear HB; have BK115 := n0_; have HB := n1_; have BK117 := n2_; have GW117 := n3_; have GE117 := n4_; have NB115_117 := n5_; have NB117_115 := n6_; clear n0_ n1_ n2_ n3_ n4_ n5_ n6_; clear hb hbox hg; have hnb21 := NB117_115.out; have hnc21 := NB115_117.out; obtain ⟨_, _, _, _, _, _, _, _, _, _, _, _, _, _, _, _, _, _, _, _, _, _, _, _, _, _, _, _⟩ := cells14 BK117.out; obtain ⟨_, _, _, _, _, _, _, _, _, _, _, _, _, _, _, _, _, _, _, _, _, _, _, _, _, _, _, _⟩ := cells14 BK115.out))
     all_goals first
      | (go_roundg k1
         case measure => have := HK1.out; omega
         case rel => exact ⟨(wrap64 (x17_1 + 1)), (by first | rfl | (simp; done) | (simp [*]; done) | (simp [*, bne]; done)), H', ⟨by have := HK1.out; omega⟩, ⟨by repeat (first | (with_reducible first | exact HB.out | apply below_alloc | apply pw_below_drewN | apply below_drew1 | refine below_set ?_ GE115.out | refine below_set ?_ GE117.out) | exact HB.out)⟩⟩)
      | (go_ret
         exact ⟨by first | rfl | (simp [errW_none, errW_some] <;> rfl) | (simp [*, errW_none, errW_some] <;> rfl), by repeat (first | (with_reducible first | exact HB.out | apply below_alloc | apply pw_below_drewN | apply below_drew1 | refine below_set ?_ GE115.out | refine below_set ?_ GE117.out) | exact HB.out)⟩)
 · rw [if_neg c4] at H
   have c4b0 : ((l0.length : Int) == (l1.length : Int)) = false := beq_eq_false_iff_ne.mpr c4
   have c4b1 : ((l0.length : Int) != (l1.length : Int)) = true := bne_iff_ne.mpr c4
   have c4b2 : (l0.length == l1.length) = false := by first | simpa using c4 | (simp at c4 ⊢; omega)
   obtain rfl := Option.some.inj H
   go_enter Try.func20, Try.ntmps20
   go_wp2
   go_ret
   exact ⟨by first | rfl | (simp [errW_none, errW_some] <;> rfl) | (simp [*, errW_none, errW_some] <;> rfl), by repeat (first | (with_reducible first | exact HB.out | apply below_alloc | apply pw_below_drewN | apply below_drew1) | exact HB.out)⟩

/-! #### st_Same, over api_Stmt -/
def st_Same.fOf (Fn : List (S46) → List (S46) → Bool → Option (Bool)) (k : Nat) (l0 : List (S46)) (l1 : List (S46)) : Option (Bool) := (Fn l0 l1 true).bind fun t101 => (some t101)

theorem st_Same.monoOf (Fn Fn' : List (S46) → List (S46) → Bool → Option (Bool)) (hle_ : ∀ z0 z1 z2, LeO (Fn z0 z1 z2) (Fn' z0 z1 z2)) : ∀ a0 a1 k, LeO (st_Same.fOf Fn k a0 a1) (st_Same.fOf Fn' (k + 1) a0 a1) := by
 intro a0 a1 k
 unfold st_Same.fOf
 repeat' first
  | (with_reducible exact hle_ _ _ _)
  | (with_reducible exact LeO.refl _)
  | (with_reducible exact LeO.none _)
  | (with_reducible refine LeO.ite ?_ ?_)
  | (with_reducible refine LeO.bind ?_ (fun _ => ?_))
  | exact hle_ _ _ _
  | exact LeO.none _
  | refine LeO.ite ?_ ?_
  | refine LeO.bind ?_ (fun _ => ?_)

set_option maxHeartbeats 8000000 in
set_option maxRecDepth 100000 in
theorem st_Same.callsOf (Fn : List (S46) → List (S46) → Bool → Option (Bool)) (hFn : ∀ (A0 : Option Addr) (c0 : Nat) (l0 : List (S46)) (A1 : Option Addr) (c1 : Nat) (l1 : List (S46)) (a2 : Bool) (r : Bool) (w : World) (hr0 : Kd.C k46 w A0 l0.length l0) (hc0 : l0.length ≤ c0) (hr1 : Kd.C k46 w A1 l1.length l1) (hc1 : l1.length ≤ c1) (h : Fn l0 l1 a2 = some r), Calls Try.prog 20 #[.slice A0 l0.length c0, .slice A1 l1.length c1, .func (.func 21) #[] #[]] w fun e w' => e = .returned (.bool r) ∧ Below w.heap.size w w') (k : Nat) (A0 : Option Addr) (c0 : Nat) (l0 : List (S46)) (A1 : Option Addr) (c1 : Nat) (l1 : List (S46)) (r : Bool) (w : World) (hr0 : Kd.C k46 w A0 l0.length l0) (hc0 : l0.length ≤ c0) (hr1 : Kd.C k46 w A1 l1.length l1) (hc1 : l1.length ≤ c1) (h : st_Same.fOf Fn k l0 l1 = some r) :
 Calls Try.prog 9 #[.slice A0 l0.length c0, .slice A1 l1.length c1] w fun e w' => e = .returned (.bool r) ∧ Below w.heap.size w w' := by
 have HR0 := Aside0.mk hr0
 have HC0 := Aside0.mk hc0
 clear hr0 hc0
 have HR1 := Aside0.mk hr1
 have HC1 := Aside0.mk hc1
 clear hr1 hc1
 have HB := Aside0.mk (Below.refl w.heap.size w)
 have H : ((Fn l0 l1 true).bind fun t101 => (some t101)) = some r := h
 clear h
 replace H := Option.bind_eq_some_iff.mp H
 obtain ⟨t101, A30, H⟩ := H
 replace H : (some t101) = some r := H
 have A3 := Aside0.mk A30
 clear A30
 obtain rfl := Option.some.inj H
 go_enter Try.func9, Try.ntmps9
 go_wp2_with (first | ((with_reducible refine gate_callee (f := 20) rfl ?_); refine goesL_ (some 7) rfl rfl Try.func20 (by kernel_rfl) rfl #[.slice A0 l0.length c0, .slice A1 l1.length c1, .func (.func 21) #[] #[]] rfl (by (try simp only [List.map_toArray, List.map_cons, List.map_nil]); first | done | rfl | (simp only [List.length_drop, List.length_take]; rfl)) ?_; (with_reducible refine (hFn _ _ l0 _ _ l1 true t101 _ ?side1 ?side2 ?side3 ?side4 A3.out).mono ?_); (case side1 => repeat (first | exact HR0.out | (with_reducible refine Kd.C_alloc ?_ _) | (with_reducible refine Kd.C_drewN ?_ _) | (with_reducible refine Kd.C_drew ?_))); (case side2 => exact HC0.out); (case side3 => repeat (first | exact HR1.out | (with_reducible refine Kd.C_alloc ?_ _) | (with_reducible refine Kd.C_drewN ?_ _) | (with_reducible refine Kd.C_drew ?_))); (case side4 => exact HC1.out); rintro e w4 ⟨rfl, hb⟩; refine ⟨_, rfl, ?_⟩; have n0_ := Aside0.mk (below_step (by repeat (first | (with_reducible first | exact HB.out | apply below_alloc | apply pw_below_drewN | apply below_drew1) | exact HB.out)) hb); clear HB; have HB := n0_; clear n0_; (try clear hb); (try clear hb2); (try clear hk); (try clear hi)))
 go_ret
 exact ⟨by first | rfl | (simp [errW_none, errW_some] <;> rfl) | (simp [*, errW_none, errW_some] <;> rfl), by repeat (first | (with_reducible first | exact HB.out | apply below_alloc | apply pw_below_drewN | apply below_drew1) | exact HB.out)⟩

/-! #### All together, by recursion on a number -/
def st_Same.rec : Nat → List (S46) → List (S46) → Option (Bool)
 | 0 => fun _ _ => none
 | n + 1 => st_Same.fOf (api_Stmt.fOf (st_Same_1.fOf (st_Same.rec n) (n + 1)) (n + 1)) (n + 1)
def st_Same.f (k : Nat) (l0 : List (S46)) (l1 : List (S46)) : Option (Bool) := st_Same.rec k l0 l1
theorem st_Same.mono : ∀ z0_0 z0_1 k, LeO (st_Same.f k z0_0 z0_1) (st_Same.f (k + 1) z0_0 z0_1) := by
 intro z0_0 z0_1 k
 induction k generalizing z0_0 z0_1 with
 | zero => exact LeO.none _
 | succ n ih => exact st_Same.monoOf _ _ (fun z1_0 z1_1 z1_2 => api_Stmt.monoOf _ _ (fun z2_0 z2_1 z2_2 z2_3 z2_4 z2_5 z2_6 z2_7 z2_8 z2_9 z2_10 z2_11 z2_12 z2_13 z2_14 z2_15 z2_16 z2_17 z2_18 z2_19 z2_20 z2_21 z2_22 z2_23 z2_24 z2_25 z2_26 z2_27 => st_Same_1.monoOf _ _ ih z2_0 z2_1 z2_2 z2_3 z2_4 z2_5 z2_6 z2_7 z2_8 z2_9 z2_10 z2_11 z2_12 z2_13 z2_14 z2_15 z2_16 z2_17 z2_18 z2_19 z2_20 z2_21 z2_22 z2_23 z2_24 z2_25 z2_26 z2_27 (n + 1)) z1_0 z1_1 z1_2 (n + 1)) z0_0 z0_1 (n + 1)
theorem st_Same.calls (k : Nat) : ∀ (A0 : Option Addr) (c0 : Nat) (l0 : List (S46)) (A1 : Option Addr) (c1 : Nat) (l1 : List (S46)) (r : Bool) (w : World) (hr0 : Kd.C k46 w A0 l0.length l0) (hc0 : l0.length ≤ c0) (hr1 : Kd.C k46 w A1 l1.length l1) (hc1 : l1.length ≤ c1) (h : st_Same.f k l0 l1 = some r),
 Calls Try.prog 9 #[.slice A0 l0.length c0, .slice A1 l1.length c1] w fun e w' => e = .returned (.bool r) ∧ Below w.heap.size w w' := by
 induction k with
 | zero => intro A0 c0 l0 A1 c1 l1 r w hr0 hc0 hr1 hc1 h; cases h
 | succ n ih => exact st_Same.callsOf _ (fun A0 c0 l0 A1 c1 l1 a2 r w hr0 hc0 hr1 hc1 h => api_Stmt.callsOf _ (fun a0_0 a0_1 a0_2 a0_3 A0_4 c0_4 l0_4 A0_5 c0_5 l0_5 A0_6 c0_6 l0_6 A0_7 c0_7 l0_7 A0_8 c0_8 l0_8 A0_9 c0_9 l0_9 A0_10 c0_10 l0_10 a0_11 a0_12 a0_13 a1_0 a1_1 a1_2 a1_3 A1_4 c1_4 l1_4 A1_5 c1_5 l1_5 A1_6 c1_6 l1_6 A1_7 c1_7 l1_7 A1_8 c1_8 l1_8 A1_9 c1_9 l1_9 A1_10 c1_10 l1_10 a1_11 a1_12 a1_13 r w hr0_4 hc0_4 hr0_5 hc0_5 hr0_6 hc0_6 hr0_7 hc0_7 hr0_8 hc0_8 hr0_9 hc0_9 hr0_10 hc0_10 hr1_4 hc1_4 hr1_5 hc1_5 hr1_6 hc1_6 hr1_7 hc1_7 hr1_8 hc1_8 hr1_9 hc1_9 hr1_10 hc1_10 h => st_Same_1.callsOf _ ih (n + 1) a0_0 a0_1 a0_2 a0_3 A0_4 c0_4 l0_4 A0_5 c0_5 l0_5 A0_6 c0_6 l0_6 A0_7 c0_7 l0_7 A0_8 c0_8 l0_8 A0_9 c0_9 l0_9 A0_10 c0_10 l0_10 a0_11 a0_12 a0_13 a1_0 a1_1 a1_2 a1_3 A1_4 c1_4 l1_4 A1_5 c1_5 l1_5 A1_6 c1_6 l1_6 A1_7 c1_7 l1_7 A1_8 c1_8 l1_8 A1_9 c1_9 l1_9 A1_10 c1_10 l1_10 a1_11 a1_12 a1_13 r w hr0_4 hc0_4 hr0_5 hc0_5 hr0_6 hc0_6 hr0_7 hc0_7 hr0_8 hc0_8 hr0_9 hc0_9 hr0_10 hc0_10 hr1_4 hc1_4 hr1_5 hc1_5 hr1_6 hc1_6 hr1_7 hc1_7 hr1_8 hc1_8 hr1_9 hc1_9 hr1_10 hc1_10 h) (n + 1) A0 c0 l0 A1 c1 l1 a2 r w hr0 hc0 hr1 hc1 h) (n + 1)
def st_Same_1.f (k : Nat) (a0_0 : Int) (a0_1 : Int) (a0_2 : ByteArray) (a0_3 : Int) (l0_4 : List (S65)) (l0_5 : List ByteArray) (l0_6 : List (S65)) (l0_7 : List ByteArray) (l0_8 : List (S50)) (l0_9 : List (S46)) (l0_10 : List (S46)) (a0_11 : Int) (a0_12 : Int) (a0_13 : Int) (a1_0 : Int) (a1_1 : Int) (a1_2 : ByteArray) (a1_3 : Int) (l1_4 : List (S65)) (l1_5 : List ByteArray) (l1_6 : List (S65)) (l1_7 : List ByteArray) (l1_8 : List (S50)) (l1_9 : List (S46)) (l1_10 : List (S46)) (a1_11 : Int) (a1_12 : Int) (a1_13 : Int) : Option (Bool) := st_Same_1.fOf (st_Same.rec k) (k + 1) a0_0 a0_1 a0_2 a0_3 l0_4 l0_5 l0_6 l0_7 l0_8 l0_9 l0_10 a0_11 a0_12 a0_13 a1_0 a1_1 a1_2 a1_3 l1_4 l1_5 l1_6 l1_7 l1_8 l1_9 l1_10 a1_11 a1_12 a1_13
theorem st_Same_1.mono : ∀ z2_0 z2_1 z2_2 z2_3 z2_4 z2_5 z2_6 z2_7 z2_8 z2_9 z2_10 z2_11 z2_12 z2_13 z2_14 z2_15 z2_16 z2_17 z2_18 z2_19 z2_20 z2_21 z2_22 z2_23 z2_24 z2_25 z2_26 z2_27 k, LeO (st_Same_1.f k z2_0 z2_1 z2_2 z2_3 z2_4 z2_5 z2_6 z2_7 z2_8 z2_9 z2_10 z2_11 z2_12 z2_13 z2_14 z2_15 z2_16 z2_17 z2_18 z2_19 z2_20 z2_21 z2_22 z2_23 z2_24 z2_25 z2_26 z2_27) (st_Same_1.f (k + 1) z2_0 z2_1 z2_2 z2_3 z2_4 z2_5 z2_6 z2_7 z2_8 z2_9 z2_10 z2_11 z2_12 z2_13 z2_14 z2_15 z2_16 z2_17 z2_18 z2_19 z2_20 z2_21 z2_22 z2_23 z2_24 z2_25 z2_26 z2_27) := fun z2_0 z2_1 z2_2 z2_3 z2_4 z2_5 z2_6 z2_7 z2_8 z2_9 z2_10 z2_11 z2_12 z2_13 z2_14 z2_15 z2_16 z2_17 z2_18 z2_19 z2_20 z2_21 z2_22 z2_23 z2_24 z2_25 z2_26 z2_27 k => st_Same_1.monoOf _ _ (fun z0_0 z0_1 => st_Same.mono z0_0 z0_1 k) z2_0 z2_1 z2_2 z2_3 z2_4 z2_5 z2_6 z2_7 z2_8 z2_9 z2_10 z2_11 z2_12 z2_13 z2_14 z2_15 z2_16 z2_17 z2_18 z2_19 z2_20 z2_21 z2_22 z2_23 z2_24 z2_25 z2_26 z2_27 (k + 1)
theorem st_Same_1.calls (k : Nat) : ∀ (a0_0 : Int) (a0_1 : Int) (a0_2 : ByteArray) (a0_3 : Int) (A0_4 : Option Addr) (c0_4 : Nat) (l0_4 : List (S65)) (A0_5 : Option Addr) (c0_5 : Nat) (l0_5 : List ByteArray) (A0_6 : Option Addr) (c0_6 : Nat) (l0_6 : List (S65)) (A0_7 : Option Addr) (c0_7 : Nat) (l0_7 : List ByteArray) (A0_8 : Option Addr) (c0_8 : Nat) (l0_8 : List (S50)) (A0_9 : Option Addr) (c0_9 : Nat) (l0_9 : List (S46)) (A0_10 : Option Addr) (c0_10 : Nat) (l0_10 : List (S46)) (a0_11 : Int) (a0_12 : Int) (a0_13 : Int) (a1_0 : Int) (a1_1 : Int) (a1_2 : ByteArray) (a1_3 : Int) (A1_4 : Option Addr) (c1_4 : Nat) (l1_4 : List (S65)) (A1_5 : Option Addr) (c1_5 : Nat) (l1_5 : List ByteArray) (A1_6 : Option Addr) (c1_6 : Nat) (l1_6 : List (S65)) (A1_7 : Option Addr) (c1_7 : Nat) (l1_7 : List ByteArray) (A1_8 : Option Addr) (c1_8 : Nat) (l1_8 : List (S50)) (A1_9 : Option Addr) (c1_9 : Nat) (l1_9 : List (S46)) (A1_10 : Option Addr) (c1_10 : Nat) (l1_10 : List (S46)) (a1_11 : Int) (a1_12 : Int) (a1_13 : Int) (r : Bool) (w : World) (hr0_4 : Kd.C k65 w A0_4 l0_4.length l0_4) (hc0_4 : l0_4.length ≤ c0_4) (hr0_5 : Kd.C Kd.string w A0_5 l0_5.length l0_5) (hc0_5 : l0_5.length ≤ c0_5) (hr0_6 : Kd.C k65 w A0_6 l0_6.length l0_6) (hc0_6 : l0_6.length ≤ c0_6) (hr0_7 : Kd.C Kd.string w A0_7 l0_7.length l0_7) (hc0_7 : l0_7.length ≤ c0_7) (hr0_8 : Kd.C k50 w A0_8 l0_8.length l0_8) (hc0_8 : l0_8.length ≤ c0_8) (hr0_9 : Kd.C k46 w A0_9 l0_9.length l0_9) (hc0_9 : l0_9.length ≤ c0_9) (hr0_10 : Kd.C k46 w A0_10 l0_10.length l0_10) (hc0_10 : l0_10.length ≤ c0_10) (hr1_4 : Kd.C k65 w A1_4 l1_4.length l1_4) (hc1_4 : l1_4.length ≤ c1_4) (hr1_5 : Kd.C Kd.string w A1_5 l1_5.length l1_5) (hc1_5 : l1_5.length ≤ c1_5) (hr1_6 : Kd.C k65 w A1_6 l1_6.length l1_6) (hc1_6 : l1_6.length ≤ c1_6) (hr1_7 : Kd.C Kd.string w A1_7 l1_7.length l1_7) (hc1_7 : l1_7.length ≤ c1_7) (hr1_8 : Kd.C k50 w A1_8 l1_8.length l1_8) (hc1_8 : l1_8.length ≤ c1_8) (hr1_9 : Kd.C k46 w A1_9 l1_9.length l1_9) (hc1_9 : l1_9.length ≤ c1_9) (hr1_10 : Kd.C k46 w A1_10 l1_10.length l1_10) (hc1_10 : l1_10.length ≤ c1_10) (h : st_Same_1.f k a0_0 a0_1 a0_2 a0_3 l0_4 l0_5 l0_6 l0_7 l0_8 l0_9 l0_10 a0_11 a0_12 a0_13 a1_0 a1_1 a1_2 a1_3 l1_4 l1_5 l1_6 l1_7 l1_8 l1_9 l1_10 a1_11 a1_12 a1_13 = some r),
 Calls Try.prog 21 #[.agg #[.int .i64 a0_0, .int .i64 a0_1, .string a0_2, .int .i64 a0_3, .slice A0_4 l0_4.length c0_4, .slice A0_5 l0_5.length c0_5, .slice A0_6 l0_6.length c0_6, .slice A0_7 l0_7.length c0_7, .slice A0_8 l0_8.length c0_8, .slice A0_9 l0_9.length c0_9, .slice A0_10 l0_10.length c0_10, .int .u8 a0_11, .int .i64 a0_12, .int .i64 a0_13], .agg #[.int .i64 a1_0, .int .i64 a1_1, .string a1_2, .int .i64 a1_3, .slice A1_4 l1_4.length c1_4, .slice A1_5 l1_5.length c1_5, .slice A1_6 l1_6.length c1_6, .slice A1_7 l1_7.length c1_7, .slice A1_8 l1_8.length c1_8, .slice A1_9 l1_9.length c1_9, .slice A1_10 l1_10.length c1_10, .int .u8 a1_11, .int .i64 a1_12, .int .i64 a1_13]] w fun e w' => e = .returned (.bool r) ∧ Below w.heap.size w w' := fun a0_0 a0_1 a0_2 a0_3 A0_4 c0_4 l0_4 A0_5 c0_5 l0_5 A0_6 c0_6 l0_6 A0_7 c0_7 l0_7 A0_8 c0_8 l0_8 A0_9 c0_9 l0_9 A0_10 c0_10 l0_10 a0_11 a0_12 a0_13 a1_0 a1_1 a1_2 a1_3 A1_4 c1_4 l1_4 A1_5 c1_5 l1_5 A1_6 c1_6 l1_6 A1_7 c1_7 l1_7 A1_8 c1_8 l1_8 A1_9 c1_9 l1_9 A1_10 c1_10 l1_10 a1_11 a1_12 a1_13 r w hr0_4 hc0_4 hr0_5 hc0_5 hr0_6 hc0_6 hr0_7 hc0_7 hr0_8 hc0_8 hr0_9 hc0_9 hr0_10 hc0_10 hr1_4 hc1_4 hr1_5 hc1_5 hr1_6 hc1_6 hr1_7 hc1_7 hr1_8 hc1_8 hr1_9 hc1_9 hr1_10 hc1_10 h => st_Same_1.callsOf _ (st_Same.calls k) (k + 1) a0_0 a0_1 a0_2 a0_3 A0_4 c0_4 l0_4 A0_5 c0_5 l0_5 A0_6 c0_6 l0_6 A0_7 c0_7 l0_7 A0_8 c0_8 l0_8 A0_9 c0_9 l0_9 A0_10 c0_10 l0_10 a0_11 a0_12 a0_13 a1_0 a1_1 a1_2 a1_3 A1_4 c1_4 l1_4 A1_5 c1_5 l1_5 A1_6 c1_6 l1_6 A1_7 c1_7 l1_7 A1_8 c1_8 l1_8 A1_9 c1_9 l1_9 A1_10 c1_10 l1_10 a1_11 a1_12 a1_13 r w hr0_4 hc0_4 hr0_5 hc0_5 hr0_6 hc0_6 hr0_7 hc0_7 hr0_8 hc0_8 hr0_9 hc0_9 hr0_10 hc0_10 hr1_4 hc1_4 hr1_5 hc1_5 hr1_6 hc1_6 hr1_7 hc1_7 hr1_8 hc1_8 hr1_9 hc1_9 hr1_10 hc1_10 h
def api_Stmt.f (k : Nat) (l0 : List (S46)) (l1 : List (S46)) (a2 : Bool) : Option (Bool) := api_Stmt.fOf (st_Same_1.fOf (st_Same.rec k) (k + 1)) (k + 1) l0 l1 a2
theorem api_Stmt.mono : ∀ z1_0 z1_1 z1_2 k, LeO (api_Stmt.f k z1_0 z1_1 z1_2) (api_Stmt.f (k + 1) z1_0 z1_1 z1_2) := fun z1_0 z1_1 z1_2 k => api_Stmt.monoOf _ _ (fun z2_0 z2_1 z2_2 z2_3 z2_4 z2_5 z2_6 z2_7 z2_8 z2_9 z2_10 z2_11 z2_12 z2_13 z2_14 z2_15 z2_16 z2_17 z2_18 z2_19 z2_20 z2_21 z2_22 z2_23 z2_24 z2_25 z2_26 z2_27 => st_Same_1.monoOf _ _ (fun z0_0 z0_1 => st_Same.mono z0_0 z0_1 k) z2_0 z2_1 z2_2 z2_3 z2_4 z2_5 z2_6 z2_7 z2_8 z2_9 z2_10 z2_11 z2_12 z2_13 z2_14 z2_15 z2_16 z2_17 z2_18 z2_19 z2_20 z2_21 z2_22 z2_23 z2_24 z2_25 z2_26 z2_27 (k + 1)) z1_0 z1_1 z1_2 (k + 1)
theorem api_Stmt.calls (k : Nat) : ∀ (A0 : Option Addr) (c0 : Nat) (l0 : List (S46)) (A1 : Option Addr) (c1 : Nat) (l1 : List (S46)) (a2 : Bool) (r : Bool) (w : World) (hr0 : Kd.C k46 w A0 l0.length l0) (hc0 : l0.length ≤ c0) (hr1 : Kd.C k46 w A1 l1.length l1) (hc1 : l1.length ≤ c1) (h : api_Stmt.f k l0 l1 a2 = some r),
 Calls Try.prog 20 #[.slice A0 l0.length c0, .slice A1 l1.length c1, .func (.func 21) #[] #[]] w fun e w' => e = .returned (.bool r) ∧ Below w.heap.size w w' := fun A0 c0 l0 A1 c1 l1 a2 r w hr0 hc0 hr1 hc1 h => api_Stmt.callsOf _ (fun a0_0 a0_1 a0_2 a0_3 A0_4 c0_4 l0_4 A0_5 c0_5 l0_5 A0_6 c0_6 l0_6 A0_7 c0_7 l0_7 A0_8 c0_8 l0_8 A0_9 c0_9 l0_9 A0_10 c0_10 l0_10 a0_11 a0_12 a0_13 a1_0 a1_1 a1_2 a1_3 A1_4 c1_4 l1_4 A1_5 c1_5 l1_5 A1_6 c1_6 l1_6 A1_7 c1_7 l1_7 A1_8 c1_8 l1_8 A1_9 c1_9 l1_9 A1_10 c1_10 l1_10 a1_11 a1_12 a1_13 r w hr0_4 hc0_4 hr0_5 hc0_5 hr0_6 hc0_6 hr0_7 hc0_7 hr0_8 hc0_8 hr0_9 hc0_9 hr0_10 hc0_10 hr1_4 hc1_4 hr1_5 hc1_5 hr1_6 hc1_6 hr1_7 hc1_7 hr1_8 hc1_8 hr1_9 hc1_9 hr1_10 hc1_10 h => st_Same_1.callsOf _ (st_Same.calls k) (k + 1) a0_0 a0_1 a0_2 a0_3 A0_4 c0_4 l0_4 A0_5 c0_5 l0_5 A0_6 c0_6 l0_6 A0_7 c0_7 l0_7 A0_8 c0_8 l0_8 A0_9 c0_9 l0_9 A0_10 c0_10 l0_10 a0_11 a0_12 a0_13 a1_0 a1_1 a1_2 a1_3 A1_4 c1_4 l1_4 A1_5 c1_5 l1_5 A1_6 c1_6 l1_6 A1_7 c1_7 l1_7 A1_8 c1_8 l1_8 A1_9 c1_9 l1_9 A1_10 c1_10 l1_10 a1_11 a1_12 a1_13 r w hr0_4 hc0_4 hr0_5 hc0_5 hr0_6 hc0_6 hr0_7 hc0_7 hr0_8 hc0_8 hr0_9 hc0_9 hr0_10 hc0_10 hr1_4 hc1_4 hr1_5 hc1_5 hr1_6 hc1_6 hr1_7 hc1_7 hr1_8 hc1_8 hr1_9 hc1_9 hr1_10 hc1_10 h) (k + 1) A0 c0 l0 A1 c1 l1 a2 r w hr0 hc0 hr1 hc1 h

end Go.Proofs.Ytmdkbhbconnmmaa.XIl
