-- WRITTEN BY wip/tools/sfc/all.py
import Derived.Test.YtmdkbhbconnmmaaXSfcB
import Derived.Test.YtmdkbhbconnmmaaXSfcx2
import Derived.Test.YtmdkbhbconnmmaaXSfcx8
namespace Go.Proofs.Ytmdkbhbconnmmaa.XSfc
open Go.RowKit Go.Proofs.YtmdkbhbconnmmaaW.PrintWords Go.Proofs.YtmdkbhbconnmmaaW.PrintLast Go.Proofs.YtmdkbhbconnmmaaW.PrintMore
attribute [local go_sem] max2_int min2_int max_two min_two max_three min_three max_four min_four
set_option linter.unusedVariables false
set_option linter.unusedSimpArgs false
theorem info46_ : (Try.prog.info? 46).map (fun i => (i.zero, i.size, i.bytes)) = some (some (.agg #[.int .i64 0, .int .i64 0, .string (⟨#[]⟩ : ByteArray), .int .i64 0, .slice none 0 0, .slice none 0 0, .slice none 0 0, .slice none 0 0, .slice none 0 0, .slice none 0 0, .slice none 0 0, .int .u8 0, .int .i64 0, .int .i64 0]), Kd.sz k46, 232) := by kernel_rfl
def relayplain_Stmts.el (Fn : List S46 → Option (List S46)) (k : Nat) (x : S46) : Option S46 := (relayplain_Exprs.f k x.f4).bind fun a4 => (relayplain_Exprs.f k x.f6).bind fun a6 => (slices_Clone_string_string.f x.f5).bind fun a5 => (slices_Clone_string_string.f x.f7).bind fun a7 => (api_Range_27.f x.f8).bind fun a8 => (Fn x.f9).bind fun a9 => (Fn x.f10).bind fun a10 => some (⟨x.f0, x.f1, x.f2, x.f3, a4, a5, a6, a7, a8, a9, a10, x.f11, x.f12, x.f13⟩ : S46)
def relayplain_Stmts.T5 : Bool × List (List Nat × List Nat) := (true, [([], []), ([0], [0]), ([1], [1]), ([], []), ([3], [3]), ([4, 2], [4]), ([0, 1, 2, 3, 4], []), ([6, 2, 5, 0, 1, 2, 3, 4], [2, 6]), ([0, 1, 2, 3, 4, 5, 6, 7], []), ([8, 5, 7, 0, 1, 2, 3, 4, 5, 6, 7], [5, 8])])
def relayplain_Stmts.B5 : List Nat := [0, 1, 3, 0, 8, 31, 31, 127, 255, 511]
theorem relayplain_Stmts.tab5 : rtab .any (opsOf Try.f10 5) = relayplain_Stmts.T5 := by kernel_rfl
theorem relayplain_Stmts.bits5 : waitsOk relayplain_Stmts.T5.2 relayplain_Stmts.B5 = true := by kernel_rfl
def relayplain_Stmts.T6 : Bool × List (List Nat × List Nat) := (true, [([], []), ([0], [0]), ([1], [1]), ([], []), ([3], [3]), ([4, 2], [4]), ([], []), ([6], [6]), ([7, 5], [7]), ([0, 1, 2, 3, 4, 6, 7], []), ([9, 2, 8, 0, 1, 2, 3, 4, 6, 7], [2, 9]), ([0, 1, 2, 3, 4, 5, 6, 7, 9, 10], []), ([11, 5, 10, 0, 1, 2, 3, 4, 5, 6, 7, 9, 10], [5, 11]), ([0, 1, 2, 3, 4, 5, 6, 7, 8, 9, 10, 11, 12], []), ([13, 8, 12, 0, 1, 2, 3, 4, 5, 6, 7, 8, 9, 10, 11, 12], [8, 13])])
def relayplain_Stmts.B6 : List Nat := [0, 1, 3, 0, 8, 31, 0, 64, 255, 223, 1023, 2047, 4095, 8191, 16383]
theorem relayplain_Stmts.tab6 : rtab .any (opsOf Try.f10 6) = relayplain_Stmts.T6 := by kernel_rfl
theorem relayplain_Stmts.bits6 : waitsOk relayplain_Stmts.T6.2 relayplain_Stmts.B6 = true := by kernel_rfl
def relayplain_Stmts.T7 : Bool × List (List Nat × List Nat) := (true, [([], []), ([0], [0]), ([1], [1]), ([], []), ([3], [3]), ([4, 2], [4]), ([0, 1, 2, 3, 4], []), ([6, 2, 5, 0, 1, 2, 3, 4], [2, 6]), ([0, 1, 2, 3, 4, 5, 6, 7], []), ([8, 5, 7, 0, 1, 2, 3, 4, 5, 6, 7], [5, 8])])
def relayplain_Stmts.B7 : List Nat := [0, 1, 3, 0, 8, 31, 31, 127, 255, 511]
theorem relayplain_Stmts.tab7 : rtab .any (opsOf Try.f10 7) = relayplain_Stmts.T7 := by kernel_rfl
theorem relayplain_Stmts.bits7 : waitsOk relayplain_Stmts.T7.2 relayplain_Stmts.B7 = true := by kernel_rfl
set_option maxHeartbeats 8000000 in
set_option maxRecDepth 100000 in
theorem relayplain_Stmts.callsOf (Fn : List S46 → Option (List S46)) (hF : ∀ (A0 : Option Addr) (c0 : Nat) (l0 : List (S46)) (s0 : List (S46)) (w : World) (hr0 : Kd.C k46 w A0 l0.length l0) (hc0 : l0.length ≤ c0) (h : Fn l0 = some s0), Calls Try.prog 10 #[.slice A0 l0.length c0] w fun e w' => ∃ v0_ : Value, e = .returned (v0_) ∧ Kd.R k46 46 w' w.heap.size (fun _ => True) v0_ s0 ∧ Below w.heap.size w w') (k : Nat) (A0 : Option Addr) (c0 : Nat) (l0 : List (S46)) (s0 : List (S46)) (w : World) (hr0 : Kd.C k46 w A0 l0.length l0) (hc0 : l0.length ≤ c0) (h : (if l0.length * 232 ≤ 140737488355328 then mapGo (relayplain_Stmts.el Fn k) l0 else none) = some s0) : Calls Try.prog 10 #[.slice A0 l0.length c0] w fun e w' => ∃ v0_ : Value, e = .returned (v0_) ∧ Kd.R k46 46 w' w.heap.size (fun _ => True) v0_ s0 ∧ Below w.heap.size w w' := by
 have hu46 := Try.underlying46
 split at h
 case isFalse => cases h
 rename_i hsz
 have HF := Aside0.mk hF
 have HR0 := Aside0.mk hr0
 have HM := Aside0.mk (Kd.C_max hr0)
 have HS := Aside0.mk hsz
 have H := Aside0.mk h
 clear hF hr0 hc0 hsz h
 have I := Aside0.mk (⟨Below.refl _ _, Kd.R_nil _ _ _ _ _, Nat.le_refl _, Nat.le_refl _⟩ : RI k46 46 w w (.slice none 0 0) ([] : List S46) w.heap.size)
 go_enter Try.func10, Try.ntmps10
 go_wp2
 go_loopg [3, 8] (l0.length + 1) (fun kq v3_ v_ w' => ∃ (i : Int) (xs : List S46), v_ = .int .i64 i ∧ Aside0 (0 ≤ i ∧ i ≤ l0.length ∧ (kq : Int) = l0.length + 1 - i) ∧ Aside0 (∃ ys, mapGo (relayplain_Stmts.el Fn k) (l0.drop i.toNat) = some ys ∧ s0 = xs ++ ys) ∧ Aside0 ((xs.length : Int) = i) ∧ Aside0 (RI k46 46 w w' v3_ xs w'.heap.size))
 case atStart => exact ⟨0, [], rfl, ⟨by omega⟩, ⟨_, by simpa using H.out, rfl⟩, ⟨rfl⟩, ⟨I.out⟩⟩
 case round =>
  clear I
  obtain ⟨i, xs, rfl, hi, HX, HN, I⟩ := hrel
  by_cases c2 : i < (l0.length : Int)
  case neg =>
   have c2b0 : decide (i < (l0.length : Int)) = false := decide_eq_false c2
   have hd : l0.drop i.toNat = [] := List.drop_eq_nil_of_le (by have := hi.out; omega)
   obtain ⟨ys, hy, hr⟩ := HX.out
   rw [hd, mapGo] at hy
   obtain rfl := Option.some.inj hy
   rw [List.append_nil] at hr
   subst hr
   go_wp2
   go_ret
   exact ⟨_, rfl, Kd.R_mono I.out.row (fun _ _ => trivial), I.out.below⟩
  have c2b0 : decide (i < (l0.length : Int)) = true := decide_eq_true c2
  have h0 := hi.out.1
  obtain ⟨aad, aA4, ac4, aA5, ac5, aA6, ac6, aA7, ac7, aA8, ac8, aA9, ac9, aA10, ac10, ae, ahr, ahl0, ahc0, ahl1, ahc1, ahl2, ahc2, ahl3, ahc3, ahl4, ahc4, ahl5, ahc5, ahl6, ahc6⟩ := el_T46 HR0.out i h0 c2
  cases ae
  have p0 := eq_true h0
  have p1 := eq_true c2
  have C2 := Aside0.mk c2
  clear h0 c2
  obtain ⟨ys, hy, hr⟩ := HX.out
  rw [drop_rd z46 hi.out.1 C2.out] at hy
  obtain ⟨p, zs, hp, hy2, hz⟩ := mapGo_cons hy
  subst hz
  clear hy
  have hp := (show relayplain_Stmts.el Fn k (rd_T46 l0 i) = some p from hp)
  have HX1 := Aside0.mk (And.intro hy2 hr)
  clear HX hy2 hr
  unfold relayplain_Stmts.el at hp
  obtain ⟨a4, h_, hp⟩ := Option.bind_eq_some_iff.mp hp
  have E4 := Aside0.mk h_
  clear h_
  obtain ⟨a6, h_, hp⟩ := Option.bind_eq_some_iff.mp hp
  have E6 := Aside0.mk h_
  clear h_
  obtain ⟨a5, h_, hp⟩ := Option.bind_eq_some_iff.mp hp
  have E5 := Aside0.mk h_
  clear h_
  obtain ⟨a7, h_, hp⟩ := Option.bind_eq_some_iff.mp hp
  have E7 := Aside0.mk h_
  clear h_
  obtain ⟨a8, h_, hp⟩ := Option.bind_eq_some_iff.mp hp
  have E8 := Aside0.mk h_
  clear h_
  obtain ⟨a9, h_, hp⟩ := Option.bind_eq_some_iff.mp hp
  have E9 := Aside0.mk h_
  clear h_
  obtain ⟨a10, h_, hp⟩ := Option.bind_eq_some_iff.mp hp
  have E10 := Aside0.mk h_
  clear h_
  obtain rfl := Option.some.inj hp
  clear hp
  go_upto_region 5 with (first | ((with_reducible refine gate_dst (N := 11) rfl ?_); refine load_in (N := 11) (t := 46) rfl rfl rfl rfl (spread_below I.out.below ahr) Try.underlying46 rfl rfl (by kernel_rfl) ?_) | ((with_reducible refine gate_dst (N := 5) rfl ?_); refine box_event ?hg (N := 5) ?hd (cs := #[.int .i64 0, .int .i64 0, .string (⟨#[]⟩ : ByteArray), .int .i64 0, .slice none 0 0, .slice none 0 0, .slice none 0 0, .slice none 0 0, .slice none 0 0, .slice none 0 0, .slice none 0 0, .int .u8 0, .int .i64 0, .int .i64 0]) (t := 46) ?hr ?_; (case hd => rfl); (case hg => rfl); (case hr => first | (go_simp; done) | (go_simp; rfl)); intro g5 hg w5 hbox hb; have G := Aside0.mk ((by rw [hg]; exact I.out.mz) : _ ≤ g5); have n0_ := Aside0.mk (I.out.step hb); have B := Aside0.mk hbox; clear I hb hbox hg; have I := n0_; clear n0_) | ((with_reducible refine gate_store (t := 46) (p := 5) rfl ?_); refine store_at (w0 := w) (j := 0) (u := .agg #[.int .i64 (rd_T46 l0 i).f0, .int .i64 (rd_T46 l0 i).f1, .string (rd_T46 l0 i).f2, .int .i64 (rd_T46 l0 i).f3, .slice aA4 (rd_T46 l0 i).f4.length ac4, .slice aA5 (rd_T46 l0 i).f5.length ac5, .slice aA6 (rd_T46 l0 i).f6.length ac6, .slice aA7 (rd_T46 l0 i).f7.length ac7, .slice aA8 (rd_T46 l0 i).f8.length ac8, .slice aA9 (rd_T46 l0 i).f9.length ac9, .slice aA10 (rd_T46 l0 i).f10.length ac10, .int .u8 (rd_T46 l0 i).f11, .int .i64 (rd_T46 l0 i).f12, .int .i64 (rd_T46 l0 i).f13]) (cs' := #[.int .i64 (rd_T46 l0 i).f0, .int .i64 (rd_T46 l0 i).f1, .string (rd_T46 l0 i).f2, .int .i64 (rd_T46 l0 i).f3, .slice aA4 (rd_T46 l0 i).f4.length ac4, .slice aA5 (rd_T46 l0 i).f5.length ac5, .slice aA6 (rd_T46 l0 i).f6.length ac6, .slice aA7 (rd_T46 l0 i).f7.length ac7, .slice aA8 (rd_T46 l0 i).f8.length ac8, .slice aA9 (rd_T46 l0 i).f9.length ac9, .slice aA10 (rd_T46 l0 i).f10.length ac10, .int .u8 (rd_T46 l0 i).f11, .int .i64 (rd_T46 l0 i).f12, .int .i64 (rd_T46 l0 i).f13]) rfl rfl rfl rfl rfl rfl rfl (by kernel_rfl) rfl B.out rfl rfl I.out.below (I.out.gem G.out) ?_; intro W7 b1 hb1 hs1 hk1; have n0_ := Aside0.mk (I.out.store G.out hb1 hs1 hk1); clear I B hb1 hs1 hk1; have I := n0_; have B := Aside0.mk b1; clear n0_ b1))
  clear ahr p0 p1
  obtain ⟨-, -, -, -, z4, -, z6, -, -, -, -, -, -, -, -, -, -, -, -, -, -, -, -, -, -, -, -, -⟩ := cells14 B.out
  have HB := Aside0.mk (Below.refl W7.heap.size W7)
  have n0_ := Aside0.mk (below_drew1 HB.out)
  clear HB
  have HB := n0_
  clear n0_
  refine start_ (n := 10) (S := fun w' => Below W7.heap.size W7 w') (ds := [7, 9]) #[false, false, false, false, false, false, false, false, false, false] (by kernel_rfl) rfl (by kernel_rfl) HB.out (fun _ => ?_)
  refine with_tabW relayplain_Stmts.tab5 relayplain_Stmts.bits5 (fun HT_ HW_ => ?_)
  generalize World.drew _ = W5 at HB ⊢
  have n0_ := Aside0.mk (I.out.step HB.out)
  have n1_ := Aside0.mk (blk_below B.out HB.out)
  clear I B
  have I := n0_
  have B := n1_
  clear n0_ n1_
  refine pure_ (i := 0) (N := some 12) (v := ?_) (a' := ?_) #[true, false, false, false, false, false, false, false, false, false] rfl rfl (any_of HT_.out (by kernel_rfl)) (fun _ _ _ h => h) (Or.inl ⟨by rfl, ?_⟩) ?_ ?_
  rotate_left
  ·
   intro w'
   go_simp
   with_reducible rfl
  rotate_left
  ·
   simp only [Act.put, List.setIfInBounds_toArray, List.set_cons_zero, List.set_cons_succ, i64_w, i32_w]
   rfl
  refine pure_ (i := 3) (N := some 15) (v := ?_) (a' := ?_) #[true, false, false, true, false, false, false, false, false, false] rfl rfl (any_of HT_.out (by kernel_rfl)) (fun _ _ _ h => h) (Or.inl ⟨by rfl, ?_⟩) ?_ ?_
  rotate_left
  ·
   intro w'
   go_simp
   with_reducible rfl
  rotate_left
  ·
   simp only [Act.put, List.setIfInBounds_toArray, List.set_cons_zero, List.set_cons_succ, i64_w, i32_w]
   rfl
  refine take_ (i := 1) (N := some 13) (v := ?_) (a' := ?_) #[true, true, false, true, false, false, false, false, false, false] rfl rfl (take_ofW HT_.out HW_.out (by kernel_rfl)) (fun _ _ _ h => h) (Or.inl ⟨by rfl, ?_⟩) HB.out ?_ ?_
  rotate_left
  ·
   intro w' hS
   have s0 := lift_ hS z4
   go_simp
   with_reducible rfl
  rotate_left
  ·
   simp only [Act.put, List.setIfInBounds_toArray, List.set_cons_zero, List.set_cons_succ, i64_w, i32_w]
   rfl
  refine take_ (i := 4) (N := some 16) (v := ?_) (a' := ?_) #[true, true, false, true, true, false, false, false, false, false] rfl rfl (take_ofW HT_.out HW_.out (by kernel_rfl)) (fun _ _ _ h => h) (Or.inl ⟨by rfl, ?_⟩) HB.out ?_ ?_
  rotate_left
  ·
   intro w' hS
   have s0 := lift_ hS z6
   go_simp
   with_reducible rfl
  rotate_left
  ·
   simp only [Act.put, List.setIfInBounds_toArray, List.set_cons_zero, List.set_cons_succ, i64_w, i32_w]
   rfl
  refine one_ (i := 2) (N := some 14) #[true, true, true, true, true, false, false, false, false, false] rfl rfl (one_of HT_.out (by kernel_rfl)) (by decide) (fun K hK => ?_)
  refine goes_ Try.func25 (by kernel_rfl) rfl #[.slice aA4 (rd_T46 l0 i).f4.length ac4] (by rfl) rfl rfl (by (try simp only [List.map_toArray, List.map_cons, List.map_nil]); first | done | rfl) ?_
  refine (relayplain_Exprs.calls k _ _ _ a4 _ (Kd.C_below ahc0 I.out.below) ahl0 E4.out).mono ?_
  rintro e w' ⟨v3, rfl, ho, hb⟩
  refine ⟨_, rfl, ?_⟩
  obtain ⟨A4, e4, rfl⟩ := Kd.R_slice ho
  have HO4 := Aside0.mk (I.out.made ho (blk_lt B.out))
  clear ho
  have n0_ := Aside0.mk (I.out.step hb)
  have n1_ := Aside0.mk (blk_below B.out hb)
  clear I B
  have I := n0_
  have B := n1_
  clear n0_ n1_
  have n0_ := Aside0.mk (below_step HB.out hb)
  clear HB hb
  have HB := n0_
  clear n0_
  refine hK.out _ _ HB.out (fun _ => ?_)
  clear hK K
  refine norm_ (a' := ?_) ?_ ?_
  rotate_left
  ·
   show Act.put _ (some 14) _ = _
   simp only [Act.put, List.setIfInBounds_toArray, List.set_cons_zero, List.set_cons_succ, i64_w, i32_w]
   rfl
  refine pure_ (i := 6) (N := some 18) (v := ?_) (a' := ?_) #[true, true, true, true, true, false, true, false, false, false] rfl rfl (any_of HT_.out (by kernel_rfl)) (fun _ _ _ h => h) (Or.inl ⟨by rfl, ?_⟩) ?_ ?_
  rotate_left
  ·
   intro w'
   go_simp
   with_reducible rfl
  rotate_left
  ·
   simp only [Act.put, List.setIfInBounds_toArray, List.set_cons_zero, List.set_cons_succ, i64_w, i32_w]
   rfl
  refine one_ (i := 5) (N := some 17) #[true, true, true, true, true, true, true, false, false, false] rfl rfl (one_of HT_.out (by kernel_rfl)) (by decide) (fun K hK => ?_)
  refine goes_ Try.func25 (by kernel_rfl) rfl #[.slice aA6 (rd_T46 l0 i).f6.length ac6] (by rfl) rfl rfl (by (try simp only [List.map_toArray, List.map_cons, List.map_nil]); first | done | rfl) ?_
  refine (relayplain_Exprs.calls k _ _ _ a6 _ (Kd.C_below ahc2 I.out.below) ahl2 E6.out).mono ?_
  rintro e w' ⟨v3, rfl, ho, hb⟩
  refine ⟨_, rfl, ?_⟩
  obtain ⟨A6, e6, rfl⟩ := Kd.R_slice ho
  have HO6 := Aside0.mk (I.out.made ho (blk_lt B.out))
  clear ho
  have n0_ := Aside0.mk (I.out.step hb)
  have n1_ := Aside0.mk (blk_below B.out hb)
  have n2_ := Aside0.mk (Kd.R_below HO4.out hb)
  clear HO4
  have HO4 := n2_
  clear n2_
  clear I B
  have I := n0_
  have B := n1_
  clear n0_ n1_
  have n0_ := Aside0.mk (below_step HB.out hb)
  clear HB hb
  have HB := n0_
  clear n0_
  refine hK.out _ _ HB.out (fun _ => ?_)
  clear hK K
  refine norm_ (a' := ?_) ?_ ?_
  rotate_left
  ·
   show Act.put _ (some 17) _ = _
   simp only [Act.put, List.setIfInBounds_toArray, List.set_cons_zero, List.set_cons_succ, i64_w, i32_w]
   rfl
  refine last_ (i := 7) (N := none) #[true, true, true, true, true, true, true, true, false, false] rfl rfl (one_of HT_.out (by kernel_rfl)) (by decide) (fun K hK => ?_)
  refine store_at_any (w0 := w) (j := 4) (u := .slice A4 a4.length e4) (cs' := #[.int .i64 (rd_T46 l0 i).f0, .int .i64 (rd_T46 l0 i).f1, .string (rd_T46 l0 i).f2, .int .i64 (rd_T46 l0 i).f3, .slice A4 a4.length e4, .slice aA5 (rd_T46 l0 i).f5.length ac5, .slice aA6 (rd_T46 l0 i).f6.length ac6, .slice aA7 (rd_T46 l0 i).f7.length ac7, .slice aA8 (rd_T46 l0 i).f8.length ac8, .slice aA9 (rd_T46 l0 i).f9.length ac9, .slice aA10 (rd_T46 l0 i).f10.length ac10, .int .u8 (rd_T46 l0 i).f11, .int .i64 (rd_T46 l0 i).f12, .int .i64 (rd_T46 l0 i).f13]) rfl rfl rfl rfl rfl rfl rfl (by kernel_rfl) rfl B.out rfl rfl I.out.below (I.out.gem G.out) ?_
  intro W8 b1 hb1 hs1 hk1
  have n0_ := Aside0.mk (I.out.store G.out hb1 hs1 hk1)
  have n2_ := Aside0.mk (ChI.madeS HO4.out hk1)
  clear HO4
  have HO4 := n2_
  clear n2_
  have n2_ := Aside0.mk (ChI.madeS HO6.out hk1)
  clear HO6
  have HO6 := n2_
  clear n2_
  clear I B hb1 hs1 hk1
  have I := n0_
  have B := Aside0.mk b1
  clear n0_ b1
  refine hK.out _ _ ?_
  clear hK K
  refine pure_ (i := 8) (N := some 19) (v := ?_) (a' := ?_) #[true, true, true, true, true, true, true, true, true, false] rfl rfl (any_of HT_.out (by kernel_rfl)) (fun _ _ _ h => h) (Or.inl ⟨by rfl, ?_⟩) ?_ ?_
  rotate_left
  ·
   intro w'
   go_simp
   with_reducible rfl
  rotate_left
  ·
   simp only [Act.put, List.setIfInBounds_toArray, List.set_cons_zero, List.set_cons_succ, i64_w, i32_w]
   rfl
  refine last_ (i := 9) (N := none) #[true, true, true, true, true, true, true, true, true, true] rfl rfl (one_of HT_.out (by kernel_rfl)) (by decide) (fun K hK => ?_)
  refine store_at_any (w0 := w) (j := 6) (u := .slice A6 a6.length e6) (cs' := #[.int .i64 (rd_T46 l0 i).f0, .int .i64 (rd_T46 l0 i).f1, .string (rd_T46 l0 i).f2, .int .i64 (rd_T46 l0 i).f3, .slice A4 a4.length e4, .slice aA5 (rd_T46 l0 i).f5.length ac5, .slice A6 a6.length e6, .slice aA7 (rd_T46 l0 i).f7.length ac7, .slice aA8 (rd_T46 l0 i).f8.length ac8, .slice aA9 (rd_T46 l0 i).f9.length ac9, .slice aA10 (rd_T46 l0 i).f10.length ac10, .int .u8 (rd_T46 l0 i).f11, .int .i64 (rd_T46 l0 i).f12, .int .i64 (rd_T46 l0 i).f13]) rfl rfl rfl rfl rfl rfl rfl (by kernel_rfl) rfl B.out rfl rfl I.out.below (I.out.gem G.out) ?_
  intro W8 b1 hb1 hs1 hk1
  have n0_ := Aside0.mk (I.out.store G.out hb1 hs1 hk1)
  have n2_ := Aside0.mk (ChI.madeS HO4.out hk1)
  clear HO4
  have HO4 := n2_
  clear n2_
  have n2_ := Aside0.mk (ChI.madeS HO6.out hk1)
  clear HO6
  have HO6 := n2_
  clear n2_
  clear I B hb1 hs1 hk1
  have I := n0_
  have B := Aside0.mk b1
  clear n0_ b1
  refine hK.out _ _ ?_
  clear hK K
  refine done_ (done_of HT_.out (by kernel_rfl)) ?_
  clear HB
  go_upto_region 6 with (fail)
  obtain ⟨-, -, -, -, -, z5, -, z7, z8, -, -, -, -, -, -, -, -, -, -, -, -, -, -, -, -, -, -, -⟩ := cells14 B.out
  have HB := Aside0.mk (Below.refl W8.heap.size W8)
  have n0_ := Aside0.mk (below_drew1 HB.out)
  clear HB
  have HB := n0_
  clear n0_
  refine start_ (n := 15) (S := fun w' => Below W8.heap.size W8 w') (ds := [10, 12, 14]) #[false, false, false, false, false, false, false, false, false, false, false, false, false, false, false] (by kernel_rfl) rfl (by kernel_rfl) HB.out (fun _ => ?_)
  refine with_tabW relayplain_Stmts.tab6 relayplain_Stmts.bits6 (fun HT_ HW_ => ?_)
  generalize World.drew _ = W5 at HB ⊢
  have n0_ := Aside0.mk (I.out.step HB.out)
  have n1_ := Aside0.mk (blk_below B.out HB.out)
  have n2_ := Aside0.mk (Kd.R_below HO4.out HB.out)
  clear HO4
  have HO4 := n2_
  clear n2_
  have n2_ := Aside0.mk (Kd.R_below HO6.out HB.out)
  clear HO6
  have HO6 := n2_
  clear n2_
  clear I B
  have I := n0_
  have B := n1_
  clear n0_ n1_
  refine pure_ (i := 0) (N := some 20) (v := ?_) (a' := ?_) #[true, false, false, false, false, false, false, false, false, false, false, false, false, false, false] rfl rfl (any_of HT_.out (by kernel_rfl)) (fun _ _ _ h => h) (Or.inl ⟨by rfl, ?_⟩) ?_ ?_
  rotate_left
  ·
   intro w'
   go_simp
   with_reducible rfl
  rotate_left
  ·
   simp only [Act.put, List.setIfInBounds_toArray, List.set_cons_zero, List.set_cons_succ, i64_w, i32_w]
   rfl
  refine pure_ (i := 3) (N := some 23) (v := ?_) (a' := ?_) #[true, false, false, true, false, false, false, false, false, false, false, false, false, false, false] rfl rfl (any_of HT_.out (by kernel_rfl)) (fun _ _ _ h => h) (Or.inl ⟨by rfl, ?_⟩) ?_ ?_
  rotate_left
  ·
   intro w'
   go_simp
   with_reducible rfl
  rotate_left
  ·
   simp only [Act.put, List.setIfInBounds_toArray, List.set_cons_zero, List.set_cons_succ, i64_w, i32_w]
   rfl
  refine pure_ (i := 6) (N := some 26) (v := ?_) (a' := ?_) #[true, false, false, true, false, false, true, false, false, false, false, false, false, false, false] rfl rfl (any_of HT_.out (by kernel_rfl)) (fun _ _ _ h => h) (Or.inl ⟨by rfl, ?_⟩) ?_ ?_
  rotate_left
  ·
   intro w'
   go_simp
   with_reducible rfl
  rotate_left
  ·
   simp only [Act.put, List.setIfInBounds_toArray, List.set_cons_zero, List.set_cons_succ, i64_w, i32_w]
   rfl
  refine take_ (i := 1) (N := some 21) (v := ?_) (a' := ?_) #[true, true, false, true, false, false, true, false, false, false, false, false, false, false, false] rfl rfl (take_ofW HT_.out HW_.out (by kernel_rfl)) (fun _ _ _ h => h) (Or.inl ⟨by rfl, ?_⟩) HB.out ?_ ?_
  rotate_left
  ·
   intro w' hS
   have s0 := lift_ hS z5
   go_simp
   with_reducible rfl
  rotate_left
  ·
   simp only [Act.put, List.setIfInBounds_toArray, List.set_cons_zero, List.set_cons_succ, i64_w, i32_w]
   rfl
  refine take_ (i := 4) (N := some 24) (v := ?_) (a' := ?_) #[true, true, false, true, true, false, true, false, false, false, false, false, false, false, false] rfl rfl (take_ofW HT_.out HW_.out (by kernel_rfl)) (fun _ _ _ h => h) (Or.inl ⟨by rfl, ?_⟩) HB.out ?_ ?_
  rotate_left
  ·
   intro w' hS
   have s0 := lift_ hS z7
   go_simp
   with_reducible rfl
  rotate_left
  ·
   simp only [Act.put, List.setIfInBounds_toArray, List.set_cons_zero, List.set_cons_succ, i64_w, i32_w]
   rfl
  refine take_ (i := 7) (N := some 27) (v := ?_) (a' := ?_) #[true, true, false, true, true, false, true, true, false, false, false, false, false, false, false] rfl rfl (take_ofW HT_.out HW_.out (by kernel_rfl)) (fun _ _ _ h => h) (Or.inl ⟨by rfl, ?_⟩) HB.out ?_ ?_
  rotate_left
  ·
   intro w' hS
   have s0 := lift_ hS z8
   go_simp
   with_reducible rfl
  rotate_left
  ·
   simp only [Act.put, List.setIfInBounds_toArray, List.set_cons_zero, List.set_cons_succ, i64_w, i32_w]
   rfl
  refine one_ (i := 2) (N := some 22) #[true, true, true, true, true, false, true, true, false, false, false, false, false, false, false] rfl rfl (one_of HT_.out (by kernel_rfl)) (by decide) (fun K hK => ?_)
  refine goes_ Try.func26 (by kernel_rfl) rfl #[.slice aA5 (rd_T46 l0 i).f5.length ac5] (by rfl) rfl rfl (by (try simp only [List.map_toArray, List.map_cons, List.map_nil]); first | done | rfl) ?_
  refine (slices_Clone_string_string.calls _ _ _ a5 _ (Kd.C_below ahc1 I.out.below) ahl1 E5.out).mono ?_
  rintro e w' ⟨v3, rfl, ho, hb⟩
  refine ⟨_, rfl, ?_⟩
  obtain ⟨A5, e5, rfl⟩ := Kd.R_slice ho
  have HO5 := Aside0.mk (I.out.made ho (blk_lt B.out))
  clear ho
  have n0_ := Aside0.mk (I.out.step hb)
  have n1_ := Aside0.mk (blk_below B.out hb)
  have n2_ := Aside0.mk (Kd.R_below HO4.out hb)
  clear HO4
  have HO4 := n2_
  clear n2_
  have n2_ := Aside0.mk (Kd.R_below HO6.out hb)
  clear HO6
  have HO6 := n2_
  clear n2_
  clear I B
  have I := n0_
  have B := n1_
  clear n0_ n1_
  have n0_ := Aside0.mk (below_step HB.out hb)
  clear HB hb
  have HB := n0_
  clear n0_
  refine hK.out _ _ HB.out (fun _ => ?_)
  clear hK K
  refine norm_ (a' := ?_) ?_ ?_
  rotate_left
  ·
   show Act.put _ (some 22) _ = _
   simp only [Act.put, List.setIfInBounds_toArray, List.set_cons_zero, List.set_cons_succ, i64_w, i32_w]
   rfl
  refine pure_ (i := 9) (N := some 29) (v := ?_) (a' := ?_) #[true, true, true, true, true, false, true, true, false, true, false, false, false, false, false] rfl rfl (any_of HT_.out (by kernel_rfl)) (fun _ _ _ h => h) (Or.inl ⟨by rfl, ?_⟩) ?_ ?_
  rotate_left
  ·
   intro w'
   go_simp
   with_reducible rfl
  rotate_left
  ·
   simp only [Act.put, List.setIfInBounds_toArray, List.set_cons_zero, List.set_cons_succ, i64_w, i32_w]
   rfl
  refine one_ (i := 5) (N := some 25) #[true, true, true, true, true, true, true, true, false, true, false, false, false, false, false] rfl rfl (one_of HT_.out (by kernel_rfl)) (by decide) (fun K hK => ?_)
  refine goes_ Try.func26 (by kernel_rfl) rfl #[.slice aA7 (rd_T46 l0 i).f7.length ac7] (by rfl) rfl rfl (by (try simp only [List.map_toArray, List.map_cons, List.map_nil]); first | done | rfl) ?_
  refine (slices_Clone_string_string.calls _ _ _ a7 _ (Kd.C_below ahc3 I.out.below) ahl3 E7.out).mono ?_
  rintro e w' ⟨v3, rfl, ho, hb⟩
  refine ⟨_, rfl, ?_⟩
  obtain ⟨A7, e7, rfl⟩ := Kd.R_slice ho
  have HO7 := Aside0.mk (I.out.made ho (blk_lt B.out))
  clear ho
  have n0_ := Aside0.mk (I.out.step hb)
  have n1_ := Aside0.mk (blk_below B.out hb)
  have n2_ := Aside0.mk (Kd.R_below HO4.out hb)
  clear HO4
  have HO4 := n2_
  clear n2_
  have n2_ := Aside0.mk (Kd.R_below HO6.out hb)
  clear HO6
  have HO6 := n2_
  clear n2_
  have n2_ := Aside0.mk (Kd.R_below HO5.out hb)
  clear HO5
  have HO5 := n2_
  clear n2_
  clear I B
  have I := n0_
  have B := n1_
  clear n0_ n1_
  have n0_ := Aside0.mk (below_step HB.out hb)
  clear HB hb
  have HB := n0_
  clear n0_
  refine hK.out _ _ HB.out (fun _ => ?_)
  clear hK K
  refine norm_ (a' := ?_) ?_ ?_
  rotate_left
  ·
   show Act.put _ (some 25) _ = _
   simp only [Act.put, List.setIfInBounds_toArray, List.set_cons_zero, List.set_cons_succ, i64_w, i32_w]
   rfl
  refine one_ (i := 8) (N := some 28) #[true, true, true, true, true, true, true, true, true, true, false, false, false, false, false] rfl rfl (one_of HT_.out (by kernel_rfl)) (by decide) (fun K hK => ?_)
  refine goes_ Try.func27 (by kernel_rfl) rfl #[.slice aA8 (rd_T46 l0 i).f8.length ac8] (by rfl) rfl rfl (by (try simp only [List.map_toArray, List.map_cons, List.map_nil]); first | done | rfl) ?_
  refine (api_Range_27.calls _ _ _ a8 _ (Kd.C_below ahc4 I.out.below) ahl4 E8.out).mono ?_
  rintro e w' ⟨v3, rfl, ho, hb⟩
  refine ⟨_, rfl, ?_⟩
  obtain ⟨A8, e8, rfl⟩ := Kd.R_slice ho
  have HO8 := Aside0.mk (I.out.made ho (blk_lt B.out))
  clear ho
  have n0_ := Aside0.mk (I.out.step hb)
  have n1_ := Aside0.mk (blk_below B.out hb)
  have n2_ := Aside0.mk (Kd.R_below HO4.out hb)
  clear HO4
  have HO4 := n2_
  clear n2_
  have n2_ := Aside0.mk (Kd.R_below HO6.out hb)
  clear HO6
  have HO6 := n2_
  clear n2_
  have n2_ := Aside0.mk (Kd.R_below HO5.out hb)
  clear HO5
  have HO5 := n2_
  clear n2_
  have n2_ := Aside0.mk (Kd.R_below HO7.out hb)
  clear HO7
  have HO7 := n2_
  clear n2_
  clear I B
  have I := n0_
  have B := n1_
  clear n0_ n1_
  have n0_ := Aside0.mk (below_step HB.out hb)
  clear HB hb
  have HB := n0_
  clear n0_
  refine hK.out _ _ HB.out (fun _ => ?_)
  clear hK K
  refine norm_ (a' := ?_) ?_ ?_
  rotate_left
  ·
   show Act.put _ (some 28) _ = _
   simp only [Act.put, List.setIfInBounds_toArray, List.set_cons_zero, List.set_cons_succ, i64_w, i32_w]
   rfl
  refine last_ (i := 10) (N := none) #[true, true, true, true, true, true, true, true, true, true, true, false, false, false, false] rfl rfl (one_of HT_.out (by kernel_rfl)) (by decide) (fun K hK => ?_)
  refine store_at_any (w0 := w) (j := 5) (u := .slice A5 a5.length e5) (cs' := #[.int .i64 (rd_T46 l0 i).f0, .int .i64 (rd_T46 l0 i).f1, .string (rd_T46 l0 i).f2, .int .i64 (rd_T46 l0 i).f3, .slice A4 a4.length e4, .slice A5 a5.length e5, .slice A6 a6.length e6, .slice aA7 (rd_T46 l0 i).f7.length ac7, .slice aA8 (rd_T46 l0 i).f8.length ac8, .slice aA9 (rd_T46 l0 i).f9.length ac9, .slice aA10 (rd_T46 l0 i).f10.length ac10, .int .u8 (rd_T46 l0 i).f11, .int .i64 (rd_T46 l0 i).f12, .int .i64 (rd_T46 l0 i).f13]) rfl rfl rfl rfl rfl rfl rfl (by kernel_rfl) rfl B.out rfl rfl I.out.below (I.out.gem G.out) ?_
  intro W8 b1 hb1 hs1 hk1
  have n0_ := Aside0.mk (I.out.store G.out hb1 hs1 hk1)
  have n2_ := Aside0.mk (ChI.madeS HO4.out hk1)
  clear HO4
  have HO4 := n2_
  clear n2_
  have n2_ := Aside0.mk (ChI.madeS HO6.out hk1)
  clear HO6
  have HO6 := n2_
  clear n2_
  have n2_ := Aside0.mk (ChI.madeS HO5.out hk1)
  clear HO5
  have HO5 := n2_
  clear n2_
  have n2_ := Aside0.mk (ChI.madeS HO7.out hk1)
  clear HO7
  have HO7 := n2_
  clear n2_
  have n2_ := Aside0.mk (ChI.madeS HO8.out hk1)
  clear HO8
  have HO8 := n2_
  clear n2_
  clear I B hb1 hs1 hk1
  have I := n0_
  have B := Aside0.mk b1
  clear n0_ b1
  refine hK.out _ _ ?_
  clear hK K
  refine pure_ (i := 11) (N := some 30) (v := ?_) (a' := ?_) #[true, true, true, true, true, true, true, true, true, true, true, true, false, false, false] rfl rfl (any_of HT_.out (by kernel_rfl)) (fun _ _ _ h => h) (Or.inl ⟨by rfl, ?_⟩) ?_ ?_
  rotate_left
  ·
   intro w'
   go_simp
   with_reducible rfl
  rotate_left
  ·
   simp only [Act.put, List.setIfInBounds_toArray, List.set_cons_zero, List.set_cons_succ, i64_w, i32_w]
   rfl
  refine last_ (i := 12) (N := none) #[true, true, true, true, true, true, true, true, true, true, true, true, true, false, false] rfl rfl (one_of HT_.out (by kernel_rfl)) (by decide) (fun K hK => ?_)
  refine store_at_any (w0 := w) (j := 7) (u := .slice A7 a7.length e7) (cs' := #[.int .i64 (rd_T46 l0 i).f0, .int .i64 (rd_T46 l0 i).f1, .string (rd_T46 l0 i).f2, .int .i64 (rd_T46 l0 i).f3, .slice A4 a4.length e4, .slice A5 a5.length e5, .slice A6 a6.length e6, .slice A7 a7.length e7, .slice aA8 (rd_T46 l0 i).f8.length ac8, .slice aA9 (rd_T46 l0 i).f9.length ac9, .slice aA10 (rd_T46 l0 i).f10.length ac10, .int .u8 (rd_T46 l0 i).f11, .int .i64 (rd_T46 l0 i).f12, .int .i64 (rd_T46 l0 i).f13]) rfl rfl rfl rfl rfl rfl rfl (by kernel_rfl) rfl B.out rfl rfl I.out.below (I.out.gem G.out) ?_
  intro W8 b1 hb1 hs1 hk1
  have n0_ := Aside0.mk (I.out.store G.out hb1 hs1 hk1)
  have n2_ := Aside0.mk (ChI.madeS HO4.out hk1)
  clear HO4
  have HO4 := n2_
  clear n2_
  have n2_ := Aside0.mk (ChI.madeS HO6.out hk1)
  clear HO6
  have HO6 := n2_
  clear n2_
  have n2_ := Aside0.mk (ChI.madeS HO5.out hk1)
  clear HO5
  have HO5 := n2_
  clear n2_
  have n2_ := Aside0.mk (ChI.madeS HO7.out hk1)
  clear HO7
  have HO7 := n2_
  clear n2_
  have n2_ := Aside0.mk (ChI.madeS HO8.out hk1)
  clear HO8
  have HO8 := n2_
  clear n2_
  clear I B hb1 hs1 hk1
  have I := n0_
  have B := Aside0.mk b1
  clear n0_ b1
  refine hK.out _ _ ?_
  clear hK K
  refine pure_ (i := 13) (N := some 31) (v := ?_) (a' := ?_) #[true, true, true, true, true, true, true, true, true, true, true, true, true, true, false] rfl rfl (any_of HT_.out (by kernel_rfl)) (fun _ _ _ h => h) (Or.inl ⟨by rfl, ?_⟩) ?_ ?_
  rotate_left
  ·
   intro w'
   go_simp
   with_reducible rfl
  rotate_left
  ·
   simp only [Act.put, List.setIfInBounds_toArray, List.set_cons_zero, List.set_cons_succ, i64_w, i32_w]
   rfl
  refine last_ (i := 14) (N := none) #[true, true, true, true, true, true, true, true, true, true, true, true, true, true, true] rfl rfl (one_of HT_.out (by kernel_rfl)) (by decide) (fun K hK => ?_)
  refine store_at_any (w0 := w) (j := 8) (u := .slice A8 a8.length e8) (cs' := #[.int .i64 (rd_T46 l0 i).f0, .int .i64 (rd_T46 l0 i).f1, .string (rd_T46 l0 i).f2, .int .i64 (rd_T46 l0 i).f3, .slice A4 a4.length e4, .slice A5 a5.length e5, .slice A6 a6.length e6, .slice A7 a7.length e7, .slice A8 a8.length e8, .slice aA9 (rd_T46 l0 i).f9.length ac9, .slice aA10 (rd_T46 l0 i).f10.length ac10, .int .u8 (rd_T46 l0 i).f11, .int .i64 (rd_T46 l0 i).f12, .int .i64 (rd_T46 l0 i).f13]) rfl rfl rfl rfl rfl rfl rfl (by kernel_rfl) rfl B.out rfl rfl I.out.below (I.out.gem G.out) ?_
  intro W8 b1 hb1 hs1 hk1
  have n0_ := Aside0.mk (I.out.store G.out hb1 hs1 hk1)
  have n2_ := Aside0.mk (ChI.madeS HO4.out hk1)
  clear HO4
  have HO4 := n2_
  clear n2_
  have n2_ := Aside0.mk (ChI.madeS HO6.out hk1)
  clear HO6
  have HO6 := n2_
  clear n2_
  have n2_ := Aside0.mk (ChI.madeS HO5.out hk1)
  clear HO5
  have HO5 := n2_
  clear n2_
  have n2_ := Aside0.mk (ChI.madeS HO7.out hk1)
  clear HO7
  have HO7 := n2_
  clear n2_
  have n2_ := Aside0.mk (ChI.madeS HO8.out hk1)
  clear HO8
  have HO8 := n2_
  clear n2_
  clear I B hb1 hs1 hk1
  have I := n0_
  have B := Aside0.mk b1
  clear n0_ b1
  refine hK.out _ _ ?_
  clear hK K
  refine done_ (done_of HT_.out (by kernel_rfl)) ?_
  clear HB
  go_upto_region 7 with (fail)
  obtain ⟨-, -, -, -, -, -, -, -, -, z9, z10, -, -, -, -, -, -, -, -, -, -, -, -, -, -, -, -, -⟩ := cells14 B.out
  have HB := Aside0.mk (Below.refl W8.heap.size W8)
  have n0_ := Aside0.mk (below_drew1 HB.out)
  clear HB
  have HB := n0_
  clear n0_
  refine start_ (n := 10) (S := fun w' => Below W8.heap.size W8 w') (ds := [7, 9]) #[false, false, false, false, false, false, false, false, false, false] (by kernel_rfl) rfl (by kernel_rfl) HB.out (fun _ => ?_)
  refine with_tabW relayplain_Stmts.tab7 relayplain_Stmts.bits7 (fun HT_ HW_ => ?_)
  generalize World.drew _ = W5 at HB ⊢
  have n0_ := Aside0.mk (I.out.step HB.out)
  have n1_ := Aside0.mk (blk_below B.out HB.out)
  have n2_ := Aside0.mk (Kd.R_below HO4.out HB.out)
  clear HO4
  have HO4 := n2_
  clear n2_
  have n2_ := Aside0.mk (Kd.R_below HO6.out HB.out)
  clear HO6
  have HO6 := n2_
  clear n2_
  have n2_ := Aside0.mk (Kd.R_below HO5.out HB.out)
  clear HO5
  have HO5 := n2_
  clear n2_
  have n2_ := Aside0.mk (Kd.R_below HO7.out HB.out)
  clear HO7
  have HO7 := n2_
  clear n2_
  have n2_ := Aside0.mk (Kd.R_below HO8.out HB.out)
  clear HO8
  have HO8 := n2_
  clear n2_
  clear I B
  have I := n0_
  have B := n1_
  clear n0_ n1_
  refine pure_ (i := 0) (N := some 32) (v := ?_) (a' := ?_) #[true, false, false, false, false, false, false, false, false, false] rfl rfl (any_of HT_.out (by kernel_rfl)) (fun _ _ _ h => h) (Or.inl ⟨by rfl, ?_⟩) ?_ ?_
  rotate_left
  ·
   intro w'
   go_simp
   with_reducible rfl
  rotate_left
  ·
   simp only [Act.put, List.setIfInBounds_toArray, List.set_cons_zero, List.set_cons_succ, i64_w, i32_w]
   rfl
  refine pure_ (i := 3) (N := some 35) (v := ?_) (a' := ?_) #[true, false, false, true, false, false, false, false, false, false] rfl rfl (any_of HT_.out (by kernel_rfl)) (fun _ _ _ h => h) (Or.inl ⟨by rfl, ?_⟩) ?_ ?_
  rotate_left
  ·
   intro w'
   go_simp
   with_reducible rfl
  rotate_left
  ·
   simp only [Act.put, List.setIfInBounds_toArray, List.set_cons_zero, List.set_cons_succ, i64_w, i32_w]
   rfl
  refine take_ (i := 1) (N := some 33) (v := ?_) (a' := ?_) #[true, true, false, true, false, false, false, false, false, false] rfl rfl (take_ofW HT_.out HW_.out (by kernel_rfl)) (fun _ _ _ h => h) (Or.inl ⟨by rfl, ?_⟩) HB.out ?_ ?_
  rotate_left
  ·
   intro w' hS
   have s0 := lift_ hS z9
   go_simp
   with_reducible rfl
  rotate_left
  ·
   simp only [Act.put, List.setIfInBounds_toArray, List.set_cons_zero, List.set_cons_succ, i64_w, i32_w]
   rfl
  refine take_ (i := 4) (N := some 36) (v := ?_) (a' := ?_) #[true, true, false, true, true, false, false, false, false, false] rfl rfl (take_ofW HT_.out HW_.out (by kernel_rfl)) (fun _ _ _ h => h) (Or.inl ⟨by rfl, ?_⟩) HB.out ?_ ?_
  rotate_left
  ·
   intro w' hS
   have s0 := lift_ hS z10
   go_simp
   with_reducible rfl
  rotate_left
  ·
   simp only [Act.put, List.setIfInBounds_toArray, List.set_cons_zero, List.set_cons_succ, i64_w, i32_w]
   rfl
  refine one_ (i := 2) (N := some 34) #[true, true, true, true, true, false, false, false, false, false] rfl rfl (one_of HT_.out (by kernel_rfl)) (by decide) (fun K hK => ?_)
  refine goes_ Try.func10 (by kernel_rfl) rfl #[.slice aA9 (rd_T46 l0 i).f9.length ac9] (by rfl) rfl rfl (by (try simp only [List.map_toArray, List.map_cons, List.map_nil]); first | done | rfl) ?_
  refine (HF.out _ _ _ a9 _ (Kd.C_below ahc5 I.out.below) ahl5 E9.out).mono ?_
  rintro e w' ⟨v3, rfl, ho, hb⟩
  refine ⟨_, rfl, ?_⟩
  obtain ⟨A9, e9, rfl⟩ := Kd.R_slice ho
  have HO9 := Aside0.mk (I.out.made ho (blk_lt B.out))
  clear ho
  have n0_ := Aside0.mk (I.out.step hb)
  have n1_ := Aside0.mk (blk_below B.out hb)
  have n2_ := Aside0.mk (Kd.R_below HO4.out hb)
  clear HO4
  have HO4 := n2_
  clear n2_
  have n2_ := Aside0.mk (Kd.R_below HO6.out hb)
  clear HO6
  have HO6 := n2_
  clear n2_
  have n2_ := Aside0.mk (Kd.R_below HO5.out hb)
  clear HO5
  have HO5 := n2_
  clear n2_
  have n2_ := Aside0.mk (Kd.R_below HO7.out hb)
  clear HO7
  have HO7 := n2_
  clear n2_
  have n2_ := Aside0.mk (Kd.R_below HO8.out hb)
  clear HO8
  have HO8 := n2_
  clear n2_
  clear I B
  have I := n0_
  have B := n1_
  clear n0_ n1_
  have n0_ := Aside0.mk (below_step HB.out hb)
  clear HB hb
  have HB := n0_
  clear n0_
  refine hK.out _ _ HB.out (fun _ => ?_)
  clear hK K
  refine norm_ (a' := ?_) ?_ ?_
  rotate_left
  ·
   show Act.put _ (some 34) _ = _
   simp only [Act.put, List.setIfInBounds_toArray, List.set_cons_zero, List.set_cons_succ, i64_w, i32_w]
   rfl
  refine pure_ (i := 6) (N := some 38) (v := ?_) (a' := ?_) #[true, true, true, true, true, false, true, false, false, false] rfl rfl (any_of HT_.out (by kernel_rfl)) (fun _ _ _ h => h) (Or.inl ⟨by rfl, ?_⟩) ?_ ?_
  rotate_left
  ·
   intro w'
   go_simp
   with_reducible rfl
  rotate_left
  ·
   simp only [Act.put, List.setIfInBounds_toArray, List.set_cons_zero, List.set_cons_succ, i64_w, i32_w]
   rfl
  refine one_ (i := 5) (N := some 37) #[true, true, true, true, true, true, true, false, false, false] rfl rfl (one_of HT_.out (by kernel_rfl)) (by decide) (fun K hK => ?_)
  refine goes_ Try.func10 (by kernel_rfl) rfl #[.slice aA10 (rd_T46 l0 i).f10.length ac10] (by rfl) rfl rfl (by (try simp only [List.map_toArray, List.map_cons, List.map_nil]); first | done | rfl) ?_
  refine (HF.out _ _ _ a10 _ (Kd.C_below ahc6 I.out.below) ahl6 E10.out).mono ?_
  rintro e w' ⟨v3, rfl, ho, hb⟩
  refine ⟨_, rfl, ?_⟩
  obtain ⟨A10, e10, rfl⟩ := Kd.R_slice ho
  have HO10 := Aside0.mk (I.out.made ho (blk_lt B.out))
  clear ho
  have n0_ := Aside0.mk (I.out.step hb)
  have n1_ := Aside0.mk (blk_below B.out hb)
  have n2_ := Aside0.mk (Kd.R_below HO4.out hb)
  clear HO4
  have HO4 := n2_
  clear n2_
  have n2_ := Aside0.mk (Kd.R_below HO6.out hb)
  clear HO6
  have HO6 := n2_
  clear n2_
  have n2_ := Aside0.mk (Kd.R_below HO5.out hb)
  clear HO5
  have HO5 := n2_
  clear n2_
  have n2_ := Aside0.mk (Kd.R_below HO7.out hb)
  clear HO7
  have HO7 := n2_
  clear n2_
  have n2_ := Aside0.mk (Kd.R_below HO8.out hb)
  clear HO8
  have HO8 := n2_
  clear n2_
  have n2_ := Aside0.mk (Kd.R_below HO9.out hb)
  clear HO9
  have HO9 := n2_
  clear n2_
  clear I B
  have I := n0_
  have B := n1_
  clear n0_ n1_
  have n0_ := Aside0.mk (below_step HB.out hb)
  clear HB hb
  have HB := n0_
  clear n0_
  refine hK.out _ _ HB.out (fun _ => ?_)
  clear hK K
  refine norm_ (a' := ?_) ?_ ?_
  rotate_left
  ·
   show Act.put _ (some 37) _ = _
   simp only [Act.put, List.setIfInBounds_toArray, List.set_cons_zero, List.set_cons_succ, i64_w, i32_w]
   rfl
  refine last_ (i := 7) (N := none) #[true, true, true, true, true, true, true, true, false, false] rfl rfl (one_of HT_.out (by kernel_rfl)) (by decide) (fun K hK => ?_)
  refine store_at_any (w0 := w) (j := 9) (u := .slice A9 a9.length e9) (cs' := #[.int .i64 (rd_T46 l0 i).f0, .int .i64 (rd_T46 l0 i).f1, .string (rd_T46 l0 i).f2, .int .i64 (rd_T46 l0 i).f3, .slice A4 a4.length e4, .slice A5 a5.length e5, .slice A6 a6.length e6, .slice A7 a7.length e7, .slice A8 a8.length e8, .slice A9 a9.length e9, .slice aA10 (rd_T46 l0 i).f10.length ac10, .int .u8 (rd_T46 l0 i).f11, .int .i64 (rd_T46 l0 i).f12, .int .i64 (rd_T46 l0 i).f13]) rfl rfl rfl rfl rfl rfl rfl (by kernel_rfl) rfl B.out rfl rfl I.out.below (I.out.gem G.out) ?_
  intro W8 b1 hb1 hs1 hk1
  have n0_ := Aside0.mk (I.out.store G.out hb1 hs1 hk1)
  have n2_ := Aside0.mk (ChI.madeS HO4.out hk1)
  clear HO4
  have HO4 := n2_
  clear n2_
  have n2_ := Aside0.mk (ChI.madeS HO6.out hk1)
  clear HO6
  have HO6 := n2_
  clear n2_
  have n2_ := Aside0.mk (ChI.madeS HO5.out hk1)
  clear HO5
  have HO5 := n2_
  clear n2_
  have n2_ := Aside0.mk (ChI.madeS HO7.out hk1)
  clear HO7
  have HO7 := n2_
  clear n2_
  have n2_ := Aside0.mk (ChI.madeS HO8.out hk1)
  clear HO8
  have HO8 := n2_
  clear n2_
  have n2_ := Aside0.mk (ChI.madeS HO9.out hk1)
  clear HO9
  have HO9 := n2_
  clear n2_
  have n2_ := Aside0.mk (ChI.madeS HO10.out hk1)
  clear HO10
  have HO10 := n2_
  clear n2_
  clear I B hb1 hs1 hk1
  have I := n0_
  have B := Aside0.mk b1
  clear n0_ b1
  refine hK.out _ _ ?_
  clear hK K
  refine pure_ (i := 8) (N := some 39) (v := ?_) (a' := ?_) #[true, true, true, true, true, true, true, true, true, false] rfl rfl (any_of HT_.out (by kernel_rfl)) (fun _ _ _ h => h) (Or.inl ⟨by rfl, ?_⟩) ?_ ?_
  rotate_left
  ·
   intro w'
   go_simp
   with_reducible rfl
  rotate_left
  ·
   simp only [Act.put, List.setIfInBounds_toArray, List.set_cons_zero, List.set_cons_succ, i64_w, i32_w]
   rfl
  refine last_ (i := 9) (N := none) #[true, true, true, true, true, true, true, true, true, true] rfl rfl (one_of HT_.out (by kernel_rfl)) (by decide) (fun K hK => ?_)
  refine store_at_any (w0 := w) (j := 10) (u := .slice A10 a10.length e10) (cs' := #[.int .i64 (rd_T46 l0 i).f0, .int .i64 (rd_T46 l0 i).f1, .string (rd_T46 l0 i).f2, .int .i64 (rd_T46 l0 i).f3, .slice A4 a4.length e4, .slice A5 a5.length e5, .slice A6 a6.length e6, .slice A7 a7.length e7, .slice A8 a8.length e8, .slice A9 a9.length e9, .slice A10 a10.length e10, .int .u8 (rd_T46 l0 i).f11, .int .i64 (rd_T46 l0 i).f12, .int .i64 (rd_T46 l0 i).f13]) rfl rfl rfl rfl rfl rfl rfl (by kernel_rfl) rfl B.out rfl rfl I.out.below (I.out.gem G.out) ?_
  intro W8 b1 hb1 hs1 hk1
  have n0_ := Aside0.mk (I.out.store G.out hb1 hs1 hk1)
  have n2_ := Aside0.mk (ChI.madeS HO4.out hk1)
  clear HO4
  have HO4 := n2_
  clear n2_
  have n2_ := Aside0.mk (ChI.madeS HO6.out hk1)
  clear HO6
  have HO6 := n2_
  clear n2_
  have n2_ := Aside0.mk (ChI.madeS HO5.out hk1)
  clear HO5
  have HO5 := n2_
  clear n2_
  have n2_ := Aside0.mk (ChI.madeS HO7.out hk1)
  clear HO7
  have HO7 := n2_
  clear n2_
  have n2_ := Aside0.mk (ChI.madeS HO8.out hk1)
  clear HO8
  have HO8 := n2_
  clear n2_
  have n2_ := Aside0.mk (ChI.madeS HO9.out hk1)
  clear HO9
  have HO9 := n2_
  clear n2_
  have n2_ := Aside0.mk (ChI.madeS HO10.out hk1)
  clear HO10
  have HO10 := n2_
  clear n2_
  clear I B hb1 hs1 hk1
  have I := n0_
  have B := Aside0.mk b1
  clear n0_ b1
  refine hK.out _ _ ?_
  clear hK K
  refine done_ (done_of HT_.out (by kernel_rfl)) ?_
  clear HB
  go_upto_region 8 with (fail)
  go_wp2_with (first | ((with_reducible refine gate_dst (N := 41) rfl ?_); refine load_in (N := 41) (t := 46) (cs := [.int .i64 (rd_T46 l0 i).f0, .int .i64 (rd_T46 l0 i).f1, .string (rd_T46 l0 i).f2, .int .i64 (rd_T46 l0 i).f3, .slice A4 a4.length e4, .slice A5 a5.length e5, .slice A6 a6.length e6, .slice A7 a7.length e7, .slice A8 a8.length e8, .slice A9 a9.length e9, .slice A10 a10.length e10, .int .u8 (rd_T46 l0 i).f11, .int .i64 (rd_T46 l0 i).f12, .int .i64 (rd_T46 l0 i).f13]) rfl rfl rfl rfl (spread_blk B.out) Try.underlying46 rfl rfl (by kernel_rfl) ?_) | ((with_reducible refine gate_builtin (b := .append) (xs := #[.tmp 40, .tmp 42]) rfl ?_); at_builtin; refine RI.append rfl (.tmp 40) (.tmp 42) 27 46 (.agg #[.int .i64 0, .int .i64 0, .string (⟨#[]⟩ : ByteArray), .int .i64 0, .slice none 0 0, .slice none 0 0, .slice none 0 0, .slice none 0 0, .slice none 0 0, .slice none 0 0, .slice none 0 0, .int .u8 0, .int .i64 0, .int .i64 0]) 232 rfl Try.underlying27 info46_ rfl (by decide) (by omega) _ (⟨(rd_T46 l0 i).f0, (rd_T46 l0 i).f1, (rd_T46 l0 i).f2, (rd_T46 l0 i).f3, a4, a5, a6, a7, a8, a9, a10, (rd_T46 l0 i).f11, (rd_T46 l0 i).f12, (rd_T46 l0 i).f13⟩ : S46) [.int .i64 (rd_T46 l0 i).f0, .int .i64 (rd_T46 l0 i).f1, .string (rd_T46 l0 i).f2, .int .i64 (rd_T46 l0 i).f3, .slice A4 a4.length e4, .slice A5 a5.length e5, .slice A6 a6.length e6, .slice A7 a7.length e7, .slice A8 a8.length e8, .slice A9 a9.length e9, .slice A10 a10.length e10, .int .u8 (rd_T46 l0 i).f11, .int .i64 (rd_T46 l0 i).f12, .int .i64 (rd_T46 l0 i).f13] rfl rfl I.out (k46_mkM _ _ _ (⟨(rd_T46 l0 i).f0, (rd_T46 l0 i).f1, (rd_T46 l0 i).f2, (rd_T46 l0 i).f3, a4, a5, a6, a7, a8, a9, a10, (rd_T46 l0 i).f11, (rd_T46 l0 i).f12, (rd_T46 l0 i).f13⟩ : S46) (Kd.R_mono HO4.out (fun _ h => h.1)) (Kd.R_mono HO5.out (fun _ h => h.1)) (Kd.R_mono HO6.out (fun _ h => h.1)) (Kd.R_mono HO7.out (fun _ h => h.1)) (Kd.R_mono HO8.out (fun _ h => h.1)) (Kd.R_mono HO9.out (fun _ h => h.1)) (Kd.R_mono HO10.out (fun _ h => h.1))) (by have := HS.out; have := HN.out; have := C2.out; omega) ?_; intro v9 w9 I9; clear I; have I := Aside0.mk I9; clear I9))
  have hw : wrap64 (i + 1) = i + 1 := by
   have := HM.out
   have := hi.out
   have := C2.out
   unfold wrap64
   omega
  have h1 := hi.out
  have h2 := C2.out
  have h3 := HN.out
  go_roundg (gk - 1)
  case measure => omega
  case rel => exact ⟨i + 1, xs ++ [(⟨(rd_T46 l0 i).f0, (rd_T46 l0 i).f1, (rd_T46 l0 i).f2, (rd_T46 l0 i).f3, a4, a5, a6, a7, a8, a9, a10, (rd_T46 l0 i).f11, (rd_T46 l0 i).f12, (rd_T46 l0 i).f13⟩ : S46)], by rw [hw], ⟨by omega⟩, ⟨_, HX1.out.1, by rw [HX1.out.2]; simp⟩, ⟨by rw [List.length_append, List.length_singleton]; omega⟩, ⟨I.out⟩⟩
def relayplain_Stmts.f : Nat → List S46 → Option (List S46)
 | 0, _ => none
 | k + 1, l0 => if l0.length * 232 ≤ 140737488355328 then mapGo (relayplain_Stmts.el (relayplain_Stmts.f k) k) l0 else none
theorem relayplain_Stmts.mono : ∀ a k, LeO (relayplain_Stmts.f k a) (relayplain_Stmts.f (k + 1) a) := by
 intro a k
 induction k generalizing a with
 | zero => exact LeO.none _
 | succ k ih =>
  refine LeO.ite (mapGo_le (fun x => ?_) a) (LeO.refl _)
  unfold relayplain_Stmts.el
  repeat' first
   | exact ih _
   | exact relayplain_Exprs.mono _ _
   | exact LeO.refl _
   | refine LeO.bind ?_ (fun _ => ?_)
theorem relayplain_Stmts.calls (k : Nat) : ∀ (A0 : Option Addr) (c0 : Nat) (l0 : List (S46)) (s0 : List (S46)) (w : World) (hr0 : Kd.C k46 w A0 l0.length l0) (hc0 : l0.length ≤ c0) (h : relayplain_Stmts.f k l0 = some s0), Calls Try.prog 10 #[.slice A0 l0.length c0] w fun e w' => ∃ v0_ : Value, e = .returned (v0_) ∧ Kd.R k46 46 w' w.heap.size (fun _ => True) v0_ s0 ∧ Below w.heap.size w w' := by
 induction k with
 | zero => intro A0 c0 l0 s0 w hr0 hc0 h; cases h
 | succ k ih => exact relayplain_Stmts.callsOf _ ih k
end Go.Proofs.Ytmdkbhbconnmmaa.XSfc
