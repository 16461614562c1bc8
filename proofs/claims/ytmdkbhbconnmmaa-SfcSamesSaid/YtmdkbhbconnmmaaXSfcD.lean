-- WRITTEN BY wip/tools/sfc/all.py
import Derived.Test.YtmdkbhbconnmmaaXSfcB
import Derived.Test.YtmdkbhbconnmmaaXSfcx10
import Derived.Test.YtmdkbhbconnmmaaXSfcx11
import Derived.Test.YtmdkbhbconnmmaaXSfcx12
namespace Go.Proofs.Ytmdkbhbconnmmaa.XSfc
open Go.RowKit Go.Proofs.YtmdkbhbconnmmaaW.PrintWords Go.Proofs.YtmdkbhbconnmmaaW.PrintLast Go.Proofs.YtmdkbhbconnmmaaW.PrintMore
attribute [local go_sem] max2_int min2_int max_two min_two max_three min_three max_four min_four
set_option linter.unusedVariables false
set_option linter.unusedSimpArgs false
def relayref05_Same.T6 : Bool × List (List Nat × List Nat) := (true, [([], []), ([], []), ([0, 1], [0, 1]), ([2], [2]), ([], []), ([], []), ([4, 5], [4, 5]), ([6], [6]), ([], []), ([], []), ([8, 3, 0, 1, 2, 3, 8, 9], [3, 8]), ([9, 7, 10, 0, 1, 2, 3, 4, 5, 6, 7, 8, 9, 10], [7, 9])])
def relayref05_Same.B6 : List Nat := [0, 0, 3, 7, 0, 0, 48, 112, 0, 0, 783, 2047]
theorem relayref05_Same.tab6 : rtab .any (opsOf Try.f11 6) = relayref05_Same.T6 := by kernel_rfl
theorem relayref05_Same.bits6 : waitsOk relayref05_Same.T6.2 relayref05_Same.B6 = true := by kernel_rfl
def relayref05_Same.el (F : List S46 → List S46 → Option Bool) (k : Nat) (x y : S46) : Option Bool := if x.f0 = y.f0 then (if x.f2.toList = y.f2.toList then (if x.f0 = 5 ∨ x.f3 = y.f3 then ((relayref05_sameExprs.f k x.f4 y.f4).bind fun u3 => if u3 = true then ((relayref05_sameTexts.f k x.f5 y.f5).bind fun u4 => if u4 = true then ((relayref05_sameExprs.f k x.f6 y.f6).bind fun u5 => if u5 = true then ((relayref05_sameTexts.f k x.f7 y.f7).bind fun u6 => if u6 = true then ((relayref05_sameRanges.f k x.f8 y.f8).bind fun u7 => if u7 = true then ((F x.f9 y.f9).bind fun u8 => if u8 = true then ((F x.f10 y.f10).bind fun u9 => if u9 = true then (some true) else some false) else some false) else some false) else some false) else some false) else some false) else some false) else some false) else some false) else some false
set_option maxHeartbeats 16000000 in
set_option maxRecDepth 100000 in
theorem relayref05_Same.callsOf (F : List S46 → List S46 → Option Bool) (hF : ∀ (A0 : Option Addr) (c0 : Nat) (l0 : List (S46)) (A1 : Option Addr) (c1 : Nat) (l1 : List (S46)) (r : Bool) (w : World) (hr0 : Kd.C k46 w A0 l0.length l0) (hc0 : l0.length ≤ c0) (hr1 : Kd.C k46 w A1 l1.length l1) (hc1 : l1.length ≤ c1) (h : F l0 l1 = some r), Calls Try.prog 11 #[.slice A0 l0.length c0, .slice A1 l1.length c1] w fun e w' => e = .returned (.bool r) ∧ Below w.heap.size w w') (k : Nat) (A0 : Option Addr) (c0 : Nat) (l0 : List (S46)) (A1 : Option Addr) (c1 : Nat) (l1 : List (S46)) (r : Bool) (w : World) (hr0 : Kd.C k46 w A0 l0.length l0) (hc0 : l0.length ≤ c0) (hr1 : Kd.C k46 w A1 l1.length l1) (hc1 : l1.length ≤ c1) (h : (if l0.length = l1.length then eqGo (relayref05_Same.el F k) l0 l1 else some false) = some r) :
  Calls Try.prog 11 #[.slice A0 l0.length c0, .slice A1 l1.length c1] w fun e w' => e = .returned (.bool r) ∧ Below w.heap.size w w' := by
 have hu := Try.underlying46
 have HF := Aside0.mk hF
 have HR0 := Aside0.mk hr0
 have HR1 := Aside0.mk hr1
 have HM0 := Aside0.mk (Kd.C_max hr0)
 clear hr0 hr1 hc0 hc1 hF
 have HB := Aside0.mk (Below.refl w.heap.size w)
 by_cases hl : l0.length = l1.length
 case neg =>
  rw [if_neg hl] at h
  obtain rfl := Option.some.inj h
  have hn : ¬ ((l0.length : Int) = (l1.length : Int)) := fun e => hl (by omega)
  have b0 : ((l0.length : Int) == (l1.length : Int)) = false := beq_eq_false_iff_ne.mpr hn
  have b1 : ((l0.length : Int) != (l1.length : Int)) = true := bne_iff_ne.mpr hn
  clear hn
  go_enter Try.func11, Try.ntmps11
  go_wp2
  go_ret
  exact ⟨rfl, (by repeat (first | (with_reducible first | exact HB.out | apply below_alloc | apply pw_below_drewN | apply below_drew1) | exact HB.out))⟩
 rw [if_pos hl] at h
 obtain ⟨u0, h⟩ : ∃ u0, u0 = r ∧ eqGo (relayref05_Same.el F k) l0 l1 = some u0 := ⟨r, rfl, h⟩
 obtain ⟨hu0, h⟩ := h
 have HH := Aside0.mk h
 have HL0 := Aside0.mk hl
 have b0 : ((l0.length : Int) == (l1.length : Int)) = true := by rw [hl]; exact beq_self_eq_true _
 have b1 : ((l0.length : Int) != (l1.length : Int)) = false := by rw [hl]; exact bne_self_eq_false _
 clear h hl
 subst hu0
 go_enter Try.func11, Try.ntmps11
 go_wp2
 clear b0 b1
 go_loopg [15] (l0.length + 1) (fun kq v_ w' => ∃ i : Int, v_ = .int .i64 i ∧ Aside0 (0 ≤ i ∧ i ≤ l0.length ∧ (kq : Int) = l0.length + 1 - i) ∧ Aside0 (eqGo (relayref05_Same.el F k) (l0.drop i.toNat) (l1.drop i.toNat) = some u0) ∧ Aside0 (Below w.heap.size w w'))
 case atStart => exact ⟨0, rfl, ⟨by omega⟩, ⟨by simpa using HH.out⟩, ⟨HB.out⟩⟩
 case round =>
  clear HH HB
  obtain ⟨i, rfl, hi, HH, HB⟩ := hrel
  by_cases c2 : i < (l0.length : Int)
  case neg =>
   have c2b0 : decide (i < (l0.length : Int)) = false := decide_eq_false c2
   have hd : l0.drop i.toNat = [] := List.drop_eq_nil_of_le (by have := hi.out; omega)
   have hr := HH.out
   rw [hd, eqGo] at hr
   obtain rfl := Option.some.inj hr
   clear hr hd HH hi c2
   go_wp2
   go_ret
   exact ⟨rfl, HB.out⟩
  have c2b0 : decide (i < (l0.length : Int)) = true := decide_eq_true c2
  have h0 := hi.out.1
  have c3 : i < (l1.length : Int) := by have := HL0.out; omega
  obtain ⟨aad, aA4, ac4, aA5, ac5, aA6, ac6, aA7, ac7, aA8, ac8, aA9, ac9, aA10, ac10, ae, ahr, ahl0, ahc0, ahl1, ahc1, ahl2, ahc2, ahl3, ahc3, ahl4, ahc4, ahl5, ahc5, ahl6, ahc6⟩ := el_T46 HR0.out i h0 c2
  cases ae
  obtain ⟨bad, bA4, bc4, bA5, bc5, bA6, bc6, bA7, bc7, bA8, bc8, bA9, bc9, bA10, bc10, be, bhr, bhl0, bhc0, bhl1, bhc1, bhl2, bhc2, bhl3, bhc3, bhl4, bhc4, bhl5, bhc5, bhl6, bhc6⟩ := el_T46 HR1.out i h0 c3
  cases be
  have p0 := eq_true h0
  have p1 := eq_true c2
  have q1 := eq_true c3
  have C2 := Aside0.mk c2
  have C3 := Aside0.mk c3
  clear h0 c2 c3
  go_upto_region 6 with (fail)
  have n0_ := Aside0.mk (below_drew1 HB.out)
  clear HB
  have HB := n0_
  clear n0_
  refine start_ (n := 12) (S := fun w' => Below w.heap.size w w') (ds := []) #[false, false, false, false, false, false, false, false, false, false, false, false] (by kernel_rfl) rfl (by kernel_rfl) HB.out (fun _ => ?_)
  refine with_tabW relayref05_Same.tab6 relayref05_Same.bits6 (fun HT_ HW_ => ?_)
  generalize World.drew _ = W5 at HB ⊢
  refine pure_ (i := 0) (N := some 18) (v := ?_) (a' := ?_) #[true, false, false, false, false, false, false, false, false, false, false, false] rfl rfl (any_of HT_.out (by kernel_rfl)) (fun _ _ _ h => h) (Or.inl ⟨by rfl, ?_⟩) ?_ ?_
  rotate_left
  ·
   intro w'
   go_simp
   with_reducible rfl
  rotate_left
  ·
   simp only [Act.put, List.setIfInBounds_toArray, List.set_cons_zero, List.set_cons_succ, i64_w, i32_w]
   rfl
  refine pure_ (i := 1) (N := some 19) (v := ?_) (a' := ?_) #[true, true, false, false, false, false, false, false, false, false, false, false] rfl rfl (any_of HT_.out (by kernel_rfl)) (fun _ _ _ h => h) (Or.inl ⟨by rfl, ?_⟩) ?_ ?_
  rotate_left
  ·
   intro w'
   go_simp
   with_reducible rfl
  rotate_left
  ·
   simp only [Act.put, List.setIfInBounds_toArray, List.set_cons_zero, List.set_cons_succ, i64_w, i32_w]
   rfl
  refine pure_ (i := 2) (N := some 20) (v := ?_) (a' := ?_) #[true, true, true, false, false, false, false, false, false, false, false, false] rfl rfl (any_of HT_.out (by kernel_rfl)) (fun _ _ _ h => h) (Or.inl ⟨by rfl, ?_⟩) ?_ ?_
  rotate_left
  ·
   intro w'
   go_simp
   with_reducible rfl
  rotate_left
  ·
   simp only [Act.put, List.setIfInBounds_toArray, List.set_cons_zero, List.set_cons_succ, i64_w, i32_w]
   rfl
  refine pure_ (i := 4) (N := some 22) (v := ?_) (a' := ?_) #[true, true, true, false, true, false, false, false, false, false, false, false] rfl rfl (any_of HT_.out (by kernel_rfl)) (fun _ _ _ h => h) (Or.inl ⟨by rfl, ?_⟩) ?_ ?_
  rotate_left
  ·
   intro w'
   go_simp
   with_reducible rfl
  rotate_left
  ·
   simp only [Act.put, List.setIfInBounds_toArray, List.set_cons_zero, List.set_cons_succ, i64_w, i32_w]
   rfl
  refine pure_ (i := 5) (N := some 23) (v := ?_) (a' := ?_) #[true, true, true, false, true, true, false, false, false, false, false, false] rfl rfl (any_of HT_.out (by kernel_rfl)) (fun _ _ _ h => h) (Or.inl ⟨by rfl, ?_⟩) ?_ ?_
  rotate_left
  ·
   intro w'
   go_simp
   with_reducible rfl
  rotate_left
  ·
   simp only [Act.put, List.setIfInBounds_toArray, List.set_cons_zero, List.set_cons_succ, i64_w, i32_w]
   rfl
  refine pure_ (i := 6) (N := some 24) (v := ?_) (a' := ?_) #[true, true, true, false, true, true, true, false, false, false, false, false] rfl rfl (any_of HT_.out (by kernel_rfl)) (fun _ _ _ h => h) (Or.inl ⟨by rfl, ?_⟩) ?_ ?_
  rotate_left
  ·
   intro w'
   go_simp
   with_reducible rfl
  rotate_left
  ·
   simp only [Act.put, List.setIfInBounds_toArray, List.set_cons_zero, List.set_cons_succ, i64_w, i32_w]
   rfl
  refine take_ (i := 3) (N := some 21) (v := .agg #[.int .i64 (rd_T46 l0 i).f0, .int .i64 (rd_T46 l0 i).f1, .string (rd_T46 l0 i).f2, .int .i64 (rd_T46 l0 i).f3, .slice aA4 (rd_T46 l0 i).f4.length ac4, .slice aA5 (rd_T46 l0 i).f5.length ac5, .slice aA6 (rd_T46 l0 i).f6.length ac6, .slice aA7 (rd_T46 l0 i).f7.length ac7, .slice aA8 (rd_T46 l0 i).f8.length ac8, .slice aA9 (rd_T46 l0 i).f9.length ac9, .slice aA10 (rd_T46 l0 i).f10.length ac10, .int .u8 (rd_T46 l0 i).f11, .int .i64 (rd_T46 l0 i).f12, .int .i64 (rd_T46 l0 i).f13]) (a' := ?_) #[true, true, true, true, true, true, true, false, false, false, false, false] rfl rfl (take_ofW HT_.out HW_.out (by kernel_rfl)) (fun _ _ _ h => h) (Or.inl ⟨by rfl, fun w' hS => load_run rfl rfl (spread_below hS ahr) Try.underlying46 rfl rfl (by kernel_rfl)⟩) HB.out ?_ ?_
  rotate_left
  ·
   simp only [Act.put, List.setIfInBounds_toArray, List.set_cons_zero, List.set_cons_succ, i64_w, i32_w]
   rfl
  refine take_ (i := 7) (N := some 25) (v := .agg #[.int .i64 (rd_T46 l1 i).f0, .int .i64 (rd_T46 l1 i).f1, .string (rd_T46 l1 i).f2, .int .i64 (rd_T46 l1 i).f3, .slice bA4 (rd_T46 l1 i).f4.length bc4, .slice bA5 (rd_T46 l1 i).f5.length bc5, .slice bA6 (rd_T46 l1 i).f6.length bc6, .slice bA7 (rd_T46 l1 i).f7.length bc7, .slice bA8 (rd_T46 l1 i).f8.length bc8, .slice bA9 (rd_T46 l1 i).f9.length bc9, .slice bA10 (rd_T46 l1 i).f10.length bc10, .int .u8 (rd_T46 l1 i).f11, .int .i64 (rd_T46 l1 i).f12, .int .i64 (rd_T46 l1 i).f13]) (a' := ?_) #[true, true, true, true, true, true, true, true, false, false, false, false] rfl rfl (take_ofW HT_.out HW_.out (by kernel_rfl)) (fun _ _ _ h => h) (Or.inl ⟨by rfl, fun w' hS => load_run rfl rfl (spread_below hS bhr) Try.underlying46 rfl rfl (by kernel_rfl)⟩) HB.out ?_ ?_
  rotate_left
  ·
   simp only [Act.put, List.setIfInBounds_toArray, List.set_cons_zero, List.set_cons_succ, i64_w, i32_w]
   rfl
  refine join_ (σ := Nat × Nat) 2 #[true, true, true, true, true, true, true, true, true, true, false, false] (fun s_ => [(6, .pointer (some ⟨s_.1, 0, none⟩)), (7, .pointer (some ⟨s_.2, 0, none⟩))]) (fun s_ w' => w'.heap[s_.1]? = some (.cells #[.int .i64 0, .int .i64 0, .string (⟨#[]⟩ : ByteArray), .int .i64 0, .slice none 0 0, .slice none 0 0, .slice none 0 0, .slice none 0 0, .slice none 0 0, .slice none 0 0, .slice none 0 0, .int .u8 0, .int .i64 0, .int .i64 0] 46 (0, 0)) ∧ w'.heap[s_.2]? = some (.cells #[.int .i64 0, .int .i64 0, .string (⟨#[]⟩ : ByteArray), .int .i64 0, .slice none 0 0, .slice none 0 0, .slice none 0 0, .slice none 0 0, .slice none 0 0, .slice none 0 0, .slice none 0 0, .int .u8 0, .int .i64 0, .int .i64 0] 46 (0, 0)) ∧ w.heap.size ≤ s_.1 ∧ w.heap.size ≤ s_.2 ∧ s_.1 ≠ s_.2 ∧ Below w.heap.size w w') ?_ ?_
  rotate_left
  ·
   intro hCont
   refine two_ (i := 8) (j := 9) (Ni := some 6) (Nj := some 7) #[true, true, true, true, true, true, true, true, true, false, false, false] #[true, true, true, true, true, true, true, true, false, true, false, false] rfl rfl rfl rfl (two_of HT_.out (by kernel_rfl)) (by decide) (by decide) (fun K hK => ?_) (fun K hK => ?_)
   ·
    skip
    refine box_step ?hg (N := 6) ?hd (cs := #[.int .i64 0, .int .i64 0, .string (⟨#[]⟩ : ByteArray), .int .i64 0, .slice none 0 0, .slice none 0 0, .slice none 0 0, .slice none 0 0, .slice none 0 0, .slice none 0 0, .slice none 0 0, .int .u8 0, .int .i64 0, .int .i64 0]) (t := 46) ?hr ?_; (case hd => rfl); (case hg => rfl); (case hr => first | (go_simp; done) | (go_simp; rfl))
    intro g6 hg W' hbox hb
    have G6 := Aside0.mk ((by rw [hg]; exact below_size HB.out) : w.heap.size ≤ g6)
    have n0_ := Aside0.mk (below_step HB.out hb)
    have B6 := Aside0.mk hbox
    clear HB
    have HB := n0_
    clear n0_ hb hbox hg
    refine hK.out _ _ HB.out (fun _ => ?_)
    clear hK K
    refine norm_ (a' := ?_) ?_ ?_
    rotate_left
    ·
     show Act.put _ (some 6) _ = _
     simp only [Act.put, List.setIfInBounds_toArray, List.set_cons_zero, List.set_cons_succ, i64_w, i32_w]
     rfl
    refine one_ (i := 9) (N := some 7) #[true, true, true, true, true, true, true, true, true, true, false, false] rfl rfl (one_of HT_.out (by kernel_rfl)) (by decide) (fun K hK => ?_)
    refine box_step ?hg (N := 7) ?hd (cs := #[.int .i64 0, .int .i64 0, .string (⟨#[]⟩ : ByteArray), .int .i64 0, .slice none 0 0, .slice none 0 0, .slice none 0 0, .slice none 0 0, .slice none 0 0, .slice none 0 0, .slice none 0 0, .int .u8 0, .int .i64 0, .int .i64 0]) (t := 46) ?hr ?_; (case hd => rfl); (case hg => rfl); (case hr => first | (go_simp; done) | (go_simp; rfl))
    intro g7 hg W' hbox hb
    have NE := Aside0.mk ((by rw [hg]; exact Nat.ne_of_lt (blk_lt B6.out)) : g6 ≠ g7)
    have n1_ := Aside0.mk (blk_below B6.out hb)
    have G7 := Aside0.mk ((by rw [hg]; exact below_size HB.out) : w.heap.size ≤ g7)
    have n0_ := Aside0.mk (below_step HB.out hb)
    have B7 := Aside0.mk hbox
    clear HB B6
    have HB := n0_
    have B6 := n1_
    clear n1_
    clear n0_ hb hbox hg
    refine hK.out _ _ HB.out (fun _ => ?_)
    clear hK K
    refine norm_ (a' := ?_) ?_ ?_
    rotate_left
    ·
     show Act.put _ (some 7) _ = _
     simp only [Act.put, List.setIfInBounds_toArray, List.set_cons_zero, List.set_cons_succ, i64_w, i32_w]
     rfl
    exact norm_ (by simp only [putAll, Act.put, List.setIfInBounds_toArray, List.set_cons_zero, List.set_cons_succ]) (hCont (g6, g7) _ ⟨B6.out, B7.out, G6.out, G7.out, NE.out, HB.out⟩)
   ·
    skip
    refine box_step ?hg (N := 7) ?hd (cs := #[.int .i64 0, .int .i64 0, .string (⟨#[]⟩ : ByteArray), .int .i64 0, .slice none 0 0, .slice none 0 0, .slice none 0 0, .slice none 0 0, .slice none 0 0, .slice none 0 0, .slice none 0 0, .int .u8 0, .int .i64 0, .int .i64 0]) (t := 46) ?hr ?_; (case hd => rfl); (case hg => rfl); (case hr => first | (go_simp; done) | (go_simp; rfl))
    intro g7 hg W' hbox hb
    have G7 := Aside0.mk ((by rw [hg]; exact below_size HB.out) : w.heap.size ≤ g7)
    have n0_ := Aside0.mk (below_step HB.out hb)
    have B7 := Aside0.mk hbox
    clear HB
    have HB := n0_
    clear n0_ hb hbox hg
    refine hK.out _ _ HB.out (fun _ => ?_)
    clear hK K
    refine norm_ (a' := ?_) ?_ ?_
    rotate_left
    ·
     show Act.put _ (some 7) _ = _
     simp only [Act.put, List.setIfInBounds_toArray, List.set_cons_zero, List.set_cons_succ, i64_w, i32_w]
     rfl
    refine one_ (i := 8) (N := some 6) #[true, true, true, true, true, true, true, true, true, true, false, false] rfl rfl (one_of HT_.out (by kernel_rfl)) (by decide) (fun K hK => ?_)
    refine box_step ?hg (N := 6) ?hd (cs := #[.int .i64 0, .int .i64 0, .string (⟨#[]⟩ : ByteArray), .int .i64 0, .slice none 0 0, .slice none 0 0, .slice none 0 0, .slice none 0 0, .slice none 0 0, .slice none 0 0, .slice none 0 0, .int .u8 0, .int .i64 0, .int .i64 0]) (t := 46) ?hr ?_; (case hd => rfl); (case hg => rfl); (case hr => first | (go_simp; done) | (go_simp; rfl))
    intro g6 hg W' hbox hb
    have NE := Aside0.mk ((by rw [hg]; exact Nat.ne_of_lt (blk_lt B7.out)) : g7 ≠ g6)
    have n1_ := Aside0.mk (blk_below B7.out hb)
    have G6 := Aside0.mk ((by rw [hg]; exact below_size HB.out) : w.heap.size ≤ g6)
    have n0_ := Aside0.mk (below_step HB.out hb)
    have B6 := Aside0.mk hbox
    clear HB B7
    have HB := n0_
    have B7 := n1_
    clear n1_
    clear n0_ hb hbox hg
    refine hK.out _ _ HB.out (fun _ => ?_)
    clear hK K
    refine norm_ (a' := ?_) ?_ ?_
    rotate_left
    ·
     show Act.put _ (some 6) _ = _
     simp only [Act.put, List.setIfInBounds_toArray, List.set_cons_zero, List.set_cons_succ, i64_w, i32_w]
     rfl
    exact norm_ (by simp only [putAll, Act.put, List.setIfInBounds_toArray, List.set_cons_zero, List.set_cons_succ]) (hCont (g6, g7) _ ⟨B6.out, B7.out, G6.out, G7.out, NE.out.symm, HB.out⟩)
  rintro ⟨g6, g7⟩ W6 ⟨h1, h2, h3, h4, h5, h6⟩
  have B6 := Aside0.mk h1
  have B7 := Aside0.mk h2
  have G6 := Aside0.mk h3
  have G7 := Aside0.mk h4
  have NE := Aside0.mk h5
  clear HB
  have HB := Aside0.mk h6
  clear h1 h2 h3 h4 h5 h6
  refine norm_ (a' := ?_) ?_ ?_
  rotate_left
  ·
   simp only [putAll, Act.put, List.setIfInBounds_toArray, List.set_cons_zero, List.set_cons_succ]
   rfl
  refine one_ (i := 10) (N := none) #[true, true, true, true, true, true, true, true, true, true, true, false] rfl rfl (one_of HT_.out (by kernel_rfl)) (by decide) (fun K hK => ?_)
  refine store_any (w0 := w) (u := .agg #[.int .i64 (rd_T46 l0 i).f0, .int .i64 (rd_T46 l0 i).f1, .string (rd_T46 l0 i).f2, .int .i64 (rd_T46 l0 i).f3, .slice aA4 (rd_T46 l0 i).f4.length ac4, .slice aA5 (rd_T46 l0 i).f5.length ac5, .slice aA6 (rd_T46 l0 i).f6.length ac6, .slice aA7 (rd_T46 l0 i).f7.length ac7, .slice aA8 (rd_T46 l0 i).f8.length ac8, .slice aA9 (rd_T46 l0 i).f9.length ac9, .slice aA10 (rd_T46 l0 i).f10.length ac10, .int .u8 (rd_T46 l0 i).f11, .int .i64 (rd_T46 l0 i).f12, .int .i64 (rd_T46 l0 i).f13]) rfl rfl rfl rfl rfl rfl rfl (by kernel_rfl) rfl B6.out rfl HB.out G6.out ?_
  intro W6 b1 hb1 hk1
  have b2 := hk1 _ _ _ B7.out NE.out.symm
  clear B6 B7 HB hk1
  have B6 := Aside0.mk b1
  have B7 := Aside0.mk b2
  have HB := Aside0.mk hb1
  clear b1 b2 hb1
  refine hK.out _ _ HB.out (fun _ => ?_)
  clear hK K
  refine one_ (i := 11) (N := none) #[true, true, true, true, true, true, true, true, true, true, true, true] rfl rfl (one_of HT_.out (by kernel_rfl)) (by decide) (fun K hK => ?_)
  refine store_any (w0 := w) (u := .agg #[.int .i64 (rd_T46 l1 i).f0, .int .i64 (rd_T46 l1 i).f1, .string (rd_T46 l1 i).f2, .int .i64 (rd_T46 l1 i).f3, .slice bA4 (rd_T46 l1 i).f4.length bc4, .slice bA5 (rd_T46 l1 i).f5.length bc5, .slice bA6 (rd_T46 l1 i).f6.length bc6, .slice bA7 (rd_T46 l1 i).f7.length bc7, .slice bA8 (rd_T46 l1 i).f8.length bc8, .slice bA9 (rd_T46 l1 i).f9.length bc9, .slice bA10 (rd_T46 l1 i).f10.length bc10, .int .u8 (rd_T46 l1 i).f11, .int .i64 (rd_T46 l1 i).f12, .int .i64 (rd_T46 l1 i).f13]) rfl rfl rfl rfl rfl rfl rfl (by kernel_rfl) rfl B7.out rfl HB.out G7.out ?_
  intro W7 b1 hb1 hk1
  have b2 := hk1 _ _ _ B6.out NE.out
  clear B6 B7 HB hk1
  have B7 := Aside0.mk b1
  have B6 := Aside0.mk b2
  have HB := Aside0.mk hb1
  clear b1 b2 hb1
  refine hK.out _ _ HB.out (fun _ => ?_)
  clear hK K
  refine done_ (done_of HT_.out (by kernel_rfl)) ?_
  clear ahr bhr
  go_upto_region 7 with (fail)
  have n0_ := Aside0.mk (And.intro B6.out B7.out)
  clear B6 B7
  have BB := n0_
  clear n0_
  have hr := HH.out
  rw [drop_rd z46 hi.out.1 C2.out, drop_rd z46 hi.out.1 C3.out, eqGo] at hr
  have HH0 := Aside0.mk hr
  clear hr HH
  obtain ⟨u, hu_, hr1⟩ := Option.bind_eq_some_iff.mp HH0.out
  have HH1 := Aside0.mk hr1
  clear hr1 HH0
  have HE := Aside0.mk (show relayref05_Same.el F k (rd_T46 l0 i) (rd_T46 l1 i) = some u from hu_)
  clear hu_
  have hr := HE.out
  unfold relayref05_Same.el at hr
  clear HE
  have HE := Aside0.mk hr
  clear hr
  obtain ⟨z0, -, z2, z3, z4, z5, -, -, -, -, -, -, -, -, -, -, -, -, -, -, -, -, -, -, -, -, -, -⟩ := cells14 BB.out.1
  obtain ⟨y0, -, y2, y3, y4, y5, -, -, -, -, -, -, -, -, -, -, -, -, -, -, -, -, -, -, -, -, -, -⟩ := cells14 BB.out.2
  by_cases c0 : (rd_T46 l0 i).f0 = (rd_T46 l1 i).f0
  case neg =>
   have d0_0 : ((rd_T46 l0 i).f0 == (rd_T46 l1 i).f0) = false := beq_eq_false_iff_ne.mpr c0
   have d0_1 : ((rd_T46 l0 i).f0 != (rd_T46 l1 i).f0) = true := bne_iff_ne.mpr c0
   have hr := HE.out
   rw [if_neg c0] at hr
   clear HE c0
   have HE := Aside0.mk hr
   clear hr
   obtain rfl := Option.some.inj HE.out
   have hr := HH1.out
   rw [if_neg Bool.false_ne_true] at hr
   obtain rfl := Option.some.inj hr
   clear hr HE HH1
   go_wp2
   go_ret
   exact ⟨rfl, (by repeat (first | (with_reducible first | exact HB.out | apply below_alloc | apply pw_below_drewN | apply below_drew1) | exact HB.out))⟩
  have d0_0 : ((rd_T46 l0 i).f0 == (rd_T46 l1 i).f0) = true := beq_iff_eq.mpr c0
  have d0_1 : ((rd_T46 l0 i).f0 != (rd_T46 l1 i).f0) = false := bne_eq_false_iff_eq.mpr c0
  have hr := HE.out
  rw [if_pos c0] at hr
  clear HE c0
  have HE := Aside0.mk hr
  clear hr
  by_cases c1 : (rd_T46 l0 i).f2.toList = (rd_T46 l1 i).f2.toList
  case neg =>
   have d1_0 : ((rd_T46 l0 i).f2.toList == (rd_T46 l1 i).f2.toList) = false := beq_eq_false_iff_ne.mpr c1
   have d1_1 : ((rd_T46 l0 i).f2.toList != (rd_T46 l1 i).f2.toList) = true := bne_iff_ne.mpr c1
   have hr := HE.out
   rw [if_neg c1] at hr
   clear HE c1
   have HE := Aside0.mk hr
   clear hr
   obtain rfl := Option.some.inj HE.out
   have hr := HH1.out
   rw [if_neg Bool.false_ne_true] at hr
   obtain rfl := Option.some.inj hr
   clear hr HE HH1
   go_wp2
   go_ret
   exact ⟨rfl, (by repeat (first | (with_reducible first | exact HB.out | apply below_alloc | apply pw_below_drewN | apply below_drew1) | exact HB.out))⟩
  have d1_0 : ((rd_T46 l0 i).f2.toList == (rd_T46 l1 i).f2.toList) = true := beq_iff_eq.mpr c1
  have d1_1 : ((rd_T46 l0 i).f2.toList != (rd_T46 l1 i).f2.toList) = false := bne_eq_false_iff_eq.mpr c1
  have hr := HE.out
  rw [if_pos c1] at hr
  clear HE c1
  have HE := Aside0.mk hr
  clear hr
  refine (Classical.em ((rd_T46 l0 i).f0 = 5)).elim (fun c2 => ?p2_) (fun c2 => ?n2_)
  case' p2_ =>
   have d2_0 : ((rd_T46 l0 i).f0 == 5) = true := beq_iff_eq.mpr c2
   have d2_1 : ((rd_T46 l0 i).f0 != 5) = false := bne_eq_false_iff_eq.mpr c2
   have hr := HE.out
   rw [if_pos (Or.inl c2)] at hr
   clear HE c2
   have HE := Aside0.mk hr
   clear hr
  case' n2_ =>
   have d2_0 : ((rd_T46 l0 i).f0 == 5) = false := beq_eq_false_iff_ne.mpr c2
   have d2_1 : ((rd_T46 l0 i).f0 != 5) = true := bne_iff_ne.mpr c2
   by_cases e2 : (rd_T46 l0 i).f3 = (rd_T46 l1 i).f3
   case neg =>
    have f2_0 : ((rd_T46 l0 i).f3 == (rd_T46 l1 i).f3) = false := beq_eq_false_iff_ne.mpr e2
    have f2_1 : ((rd_T46 l0 i).f3 != (rd_T46 l1 i).f3) = true := bne_iff_ne.mpr e2
    have hr := HE.out
    rw [if_neg (fun h => h.elim c2 e2)] at hr
    clear HE c2 e2
    have HE := Aside0.mk hr
    clear hr
    obtain rfl := Option.some.inj HE.out
    have hr := HH1.out
    rw [if_neg Bool.false_ne_true] at hr
    obtain rfl := Option.some.inj hr
    clear hr HE HH1
    go_wp2
    go_ret
    exact ⟨rfl, (by repeat (first | (with_reducible first | exact HB.out | apply below_alloc | apply pw_below_drewN | apply below_drew1) | exact HB.out))⟩
   have f2_0 : ((rd_T46 l0 i).f3 == (rd_T46 l1 i).f3) = true := beq_iff_eq.mpr e2
   have f2_1 : ((rd_T46 l0 i).f3 != (rd_T46 l1 i).f3) = false := bne_eq_false_iff_eq.mpr e2
   have hr := HE.out
   rw [if_pos (Or.inr e2)] at hr
   clear HE c2 e2
   have HE := Aside0.mk hr
   clear hr
  all_goals
   obtain ⟨u3, hu3, hr⟩ := Option.bind_eq_some_iff.mp HE.out
   have A3 := Aside0.mk hu3
   clear HE hu3
   have HE := Aside0.mk hr
   clear hr
   cases u3
   case false =>
    have hr := HE.out
    rw [if_neg Bool.false_ne_true] at hr
    clear HE
    have HE := Aside0.mk hr
    clear hr
    obtain rfl := Option.some.inj HE.out
    have hr := HH1.out
    rw [if_neg Bool.false_ne_true] at hr
    obtain rfl := Option.some.inj hr
    clear hr HE HH1
    go_wp2_with (first | (go_at_call 28; (with_reducible refine (relayref05_sameExprs.calls k _ _ (rd_T46 l0 i).f4 _ _ (rd_T46 l1 i).f4 _ _ ?side0 ?side1 ?side2 ?side3 A3.out).mono ?_); (case side0 => exact Kd.C_below ahc0 (by repeat (first | (with_reducible first | exact HB.out | apply below_alloc | apply pw_below_drewN | apply below_drew1) | exact HB.out))); (case side1 => exact ahl0); (case side2 => exact Kd.C_below bhc0 (by repeat (first | (with_reducible first | exact HB.out | apply below_alloc | apply pw_below_drewN | apply below_drew1) | exact HB.out))); (case side3 => exact bhl0); rintro e w' ⟨rfl, hb⟩; have n0_ := Aside0.mk (below_step (by repeat (first | (with_reducible first | exact HB.out | apply below_alloc | apply pw_below_drewN | apply below_drew1) | exact HB.out)) hb); have n1_ := Aside0.mk (And.intro (blk_below BB.out.1 hb) (blk_below BB.out.2 hb)); clear HB BB hb z0 z2 z3 z4 z5 y0 y2 y3 y4 y5; have HB := n0_; have BB := n1_; clear n0_ n1_; obtain ⟨z0, -, z2, z3, z4, z5, -, -, -, -, -, -, -, -, -, -, -, -, -, -, -, -, -, -, -, -, -, -⟩ := cells14 BB.out.1; obtain ⟨y0, -, y2, y3, y4, y5, -, -, -, -, -, -, -, -, -, -, -, -, -, -, -, -, -, -, -, -, -, -⟩ := cells14 BB.out.2))
    go_ret
    exact ⟨rfl, (by repeat (first | (with_reducible first | exact HB.out | apply below_alloc | apply pw_below_drewN | apply below_drew1) | exact HB.out))⟩
   have hr := HE.out
   rw [if_pos rfl] at hr
   clear HE
   have HE := Aside0.mk hr
   clear hr
   obtain ⟨u4, hu4, hr⟩ := Option.bind_eq_some_iff.mp HE.out
   have A4 := Aside0.mk hu4
   clear HE hu4
   have HE := Aside0.mk hr
   clear hr
   cases u4
   case false =>
    have hr := HE.out
    rw [if_neg Bool.false_ne_true] at hr
    clear HE
    have HE := Aside0.mk hr
    clear hr
    obtain rfl := Option.some.inj HE.out
    have hr := HH1.out
    rw [if_neg Bool.false_ne_true] at hr
    obtain rfl := Option.some.inj hr
    clear hr HE HH1
    go_wp2_with (first | (go_at_call 28; (with_reducible refine (relayref05_sameExprs.calls k _ _ (rd_T46 l0 i).f4 _ _ (rd_T46 l1 i).f4 _ _ ?side0 ?side1 ?side2 ?side3 A3.out).mono ?_); (case side0 => exact Kd.C_below ahc0 (by repeat (first | (with_reducible first | exact HB.out | apply below_alloc | apply pw_below_drewN | apply below_drew1) | exact HB.out))); (case side1 => exact ahl0); (case side2 => exact Kd.C_below bhc0 (by repeat (first | (with_reducible first | exact HB.out | apply below_alloc | apply pw_below_drewN | apply below_drew1) | exact HB.out))); (case side3 => exact bhl0); rintro e w' ⟨rfl, hb⟩; have n0_ := Aside0.mk (below_step (by repeat (first | (with_reducible first | exact HB.out | apply below_alloc | apply pw_below_drewN | apply below_drew1) | exact HB.out)) hb); have n1_ := Aside0.mk (And.intro (blk_below BB.out.1 hb) (blk_below BB.out.2 hb)); clear HB BB hb z0 z2 z3 z4 z5 y0 y2 y3 y4 y5; have HB := n0_; have BB := n1_; clear n0_ n1_; obtain ⟨z0, -, z2, z3, z4, z5, -, -, -, -, -, -, -, -, -, -, -, -, -, -, -, -, -, -, -, -, -, -⟩ := cells14 BB.out.1; obtain ⟨y0, -, y2, y3, y4, y5, -, -, -, -, -, -, -, -, -, -, -, -, -, -, -, -, -, -, -, -, -, -⟩ := cells14 BB.out.2) | (go_at_call 29; (with_reducible refine (relayref05_sameTexts.calls k _ _ (rd_T46 l0 i).f5 _ _ (rd_T46 l1 i).f5 _ _ ?side0 ?side1 ?side2 ?side3 A4.out).mono ?_); (case side0 => exact Kd.C_below ahc1 (by repeat (first | (with_reducible first | exact HB.out | apply below_alloc | apply pw_below_drewN | apply below_drew1) | exact HB.out))); (case side1 => exact ahl1); (case side2 => exact Kd.C_below bhc1 (by repeat (first | (with_reducible first | exact HB.out | apply below_alloc | apply pw_below_drewN | apply below_drew1) | exact HB.out))); (case side3 => exact bhl1); rintro e w' ⟨rfl, hb⟩; replace hb := Drawn0.below hb; have n0_ := Aside0.mk (below_step (by repeat (first | (with_reducible first | exact HB.out | apply below_alloc | apply pw_below_drewN | apply below_drew1) | exact HB.out)) hb); have n1_ := Aside0.mk (And.intro (blk_below BB.out.1 hb) (blk_below BB.out.2 hb)); clear HB BB hb z0 z2 z3 z4 z5 y0 y2 y3 y4 y5; have HB := n0_; have BB := n1_; clear n0_ n1_; obtain ⟨z0, -, z2, z3, z4, z5, -, -, -, -, -, -, -, -, -, -, -, -, -, -, -, -, -, -, -, -, -, -⟩ := cells14 BB.out.1; obtain ⟨y0, -, y2, y3, y4, y5, -, -, -, -, -, -, -, -, -, -, -, -, -, -, -, -, -, -, -, -, -, -⟩ := cells14 BB.out.2))
    go_ret
    exact ⟨rfl, (by repeat (first | (with_reducible first | exact HB.out | apply below_alloc | apply pw_below_drewN | apply below_drew1) | exact HB.out))⟩
   have hr := HE.out
   rw [if_pos rfl] at hr
   clear HE
   have HE := Aside0.mk hr
   clear hr
   go_upto_region 9 with (first | (go_at_call 28; (with_reducible refine (relayref05_sameExprs.calls k _ _ (rd_T46 l0 i).f4 _ _ (rd_T46 l1 i).f4 _ _ ?side0 ?side1 ?side2 ?side3 A3.out).mono ?_); (case side0 => exact Kd.C_below ahc0 (by repeat (first | (with_reducible first | exact HB.out | apply below_alloc | apply pw_below_drewN | apply below_drew1) | exact HB.out))); (case side1 => exact ahl0); (case side2 => exact Kd.C_below bhc0 (by repeat (first | (with_reducible first | exact HB.out | apply below_alloc | apply pw_below_drewN | apply below_drew1) | exact HB.out))); (case side3 => exact bhl0); rintro e w' ⟨rfl, hb⟩; have n0_ := Aside0.mk (below_step (by repeat (first | (with_reducible first | exact HB.out | apply below_alloc | apply pw_below_drewN | apply below_drew1) | exact HB.out)) hb); have n1_ := Aside0.mk (And.intro (blk_below BB.out.1 hb) (blk_below BB.out.2 hb)); clear HB BB hb z0 z2 z3 z4 z5 y0 y2 y3 y4 y5; have HB := n0_; have BB := n1_; clear n0_ n1_; obtain ⟨z0, -, z2, z3, z4, z5, -, -, -, -, -, -, -, -, -, -, -, -, -, -, -, -, -, -, -, -, -, -⟩ := cells14 BB.out.1; obtain ⟨y0, -, y2, y3, y4, y5, -, -, -, -, -, -, -, -, -, -, -, -, -, -, -, -, -, -, -, -, -, -⟩ := cells14 BB.out.2) | (go_at_call 29; (with_reducible refine (relayref05_sameTexts.calls k _ _ (rd_T46 l0 i).f5 _ _ (rd_T46 l1 i).f5 _ _ ?side0 ?side1 ?side2 ?side3 A4.out).mono ?_); (case side0 => exact Kd.C_below ahc1 (by repeat (first | (with_reducible first | exact HB.out | apply below_alloc | apply pw_below_drewN | apply below_drew1) | exact HB.out))); (case side1 => exact ahl1); (case side2 => exact Kd.C_below bhc1 (by repeat (first | (with_reducible first | exact HB.out | apply below_alloc | apply pw_below_drewN | apply below_drew1) | exact HB.out))); (case side3 => exact bhl1); rintro e w' ⟨rfl, hb⟩; replace hb := Drawn0.below hb; have n0_ := Aside0.mk (below_step (by repeat (first | (with_reducible first | exact HB.out | apply below_alloc | apply pw_below_drewN | apply below_drew1) | exact HB.out)) hb); have n1_ := Aside0.mk (And.intro (blk_below BB.out.1 hb) (blk_below BB.out.2 hb)); clear HB BB hb z0 z2 z3 z4 z5 y0 y2 y3 y4 y5; have HB := n0_; have BB := n1_; clear n0_ n1_; obtain ⟨z0, -, z2, z3, z4, z5, -, -, -, -, -, -, -, -, -, -, -, -, -, -, -, -, -, -, -, -, -, -⟩ := cells14 BB.out.1; obtain ⟨y0, -, y2, y3, y4, y5, -, -, -, -, -, -, -, -, -, -, -, -, -, -, -, -, -, -, -, -, -, -⟩ := cells14 BB.out.2))
   (try simp only [Act.put, List.setIfInBounds_toArray, List.set_cons_zero, List.set_cons_succ])
   (try clear d0_0 d0_1)
   (try clear d1_0 d1_1)
   (try clear d2_0 d2_1)
   (try clear f2_0 f2_1)
   clear z0 z2 z3 z4 z5 y0 y2 y3 y4 y5
   obtain ⟨-, -, -, -, -, -, z6, z7, z8, z9, z10, -, -, -, -, -, -, -, -, -, -, -, -, -, -, -, -, -⟩ := cells14 BB.out.1
   obtain ⟨-, -, -, -, -, -, y6, y7, y8, y9, y10, -, -, -, -, -, -, -, -, -, -, -, -, -, -, -, -, -⟩ := cells14 BB.out.2
   obtain ⟨u5, hu5, hr⟩ := Option.bind_eq_some_iff.mp HE.out
   have A5 := Aside0.mk hu5
   clear HE hu5
   have HE := Aside0.mk hr
   clear hr
   cases u5
   case false =>
    have hr := HE.out
    rw [if_neg Bool.false_ne_true] at hr
    clear HE
    have HE := Aside0.mk hr
    clear hr
    obtain rfl := Option.some.inj HE.out
    have hr := HH1.out
    rw [if_neg Bool.false_ne_true] at hr
    obtain rfl := Option.some.inj hr
    clear hr HE HH1
    go_wp2_with (first | (go_at_call 28; (with_reducible refine (relayref05_sameExprs.calls k _ _ (rd_T46 l0 i).f6 _ _ (rd_T46 l1 i).f6 _ _ ?side0 ?side1 ?side2 ?side3 A5.out).mono ?_); (case side0 => exact Kd.C_below ahc2 (by repeat (first | (with_reducible first | exact HB.out | apply below_alloc | apply pw_below_drewN | apply below_drew1) | exact HB.out))); (case side1 => exact ahl2); (case side2 => exact Kd.C_below bhc2 (by repeat (first | (with_reducible first | exact HB.out | apply below_alloc | apply pw_below_drewN | apply below_drew1) | exact HB.out))); (case side3 => exact bhl2); rintro e w' ⟨rfl, hb⟩; have n0_ := Aside0.mk (below_step (by repeat (first | (with_reducible first | exact HB.out | apply below_alloc | apply pw_below_drewN | apply below_drew1) | exact HB.out)) hb); have n1_ := Aside0.mk (And.intro (blk_below BB.out.1 hb) (blk_below BB.out.2 hb)); clear HB BB hb z6 z7 z8 z9 z10 y6 y7 y8 y9 y10; have HB := n0_; have BB := n1_; clear n0_ n1_; obtain ⟨-, -, -, -, -, -, z6, z7, z8, z9, z10, -, -, -, -, -, -, -, -, -, -, -, -, -, -, -, -, -⟩ := cells14 BB.out.1; obtain ⟨-, -, -, -, -, -, y6, y7, y8, y9, y10, -, -, -, -, -, -, -, -, -, -, -, -, -, -, -, -, -⟩ := cells14 BB.out.2))
    go_ret
    exact ⟨rfl, (by repeat (first | (with_reducible first | exact HB.out | apply below_alloc | apply pw_below_drewN | apply below_drew1) | exact HB.out))⟩
   have hr := HE.out
   rw [if_pos rfl] at hr
   clear HE
   have HE := Aside0.mk hr
   clear hr
   obtain ⟨u6, hu6, hr⟩ := Option.bind_eq_some_iff.mp HE.out
   have A6 := Aside0.mk hu6
   clear HE hu6
   have HE := Aside0.mk hr
   clear hr
   cases u6
   case false =>
    have hr := HE.out
    rw [if_neg Bool.false_ne_true] at hr
    clear HE
    have HE := Aside0.mk hr
    clear hr
    obtain rfl := Option.some.inj HE.out
    have hr := HH1.out
    rw [if_neg Bool.false_ne_true] at hr
    obtain rfl := Option.some.inj hr
    clear hr HE HH1
    go_wp2_with (first | (go_at_call 28; (with_reducible refine (relayref05_sameExprs.calls k _ _ (rd_T46 l0 i).f6 _ _ (rd_T46 l1 i).f6 _ _ ?side0 ?side1 ?side2 ?side3 A5.out).mono ?_); (case side0 => exact Kd.C_below ahc2 (by repeat (first | (with_reducible first | exact HB.out | apply below_alloc | apply pw_below_drewN | apply below_drew1) | exact HB.out))); (case side1 => exact ahl2); (case side2 => exact Kd.C_below bhc2 (by repeat (first | (with_reducible first | exact HB.out | apply below_alloc | apply pw_below_drewN | apply below_drew1) | exact HB.out))); (case side3 => exact bhl2); rintro e w' ⟨rfl, hb⟩; have n0_ := Aside0.mk (below_step (by repeat (first | (with_reducible first | exact HB.out | apply below_alloc | apply pw_below_drewN | apply below_drew1) | exact HB.out)) hb); have n1_ := Aside0.mk (And.intro (blk_below BB.out.1 hb) (blk_below BB.out.2 hb)); clear HB BB hb z6 z7 z8 z9 z10 y6 y7 y8 y9 y10; have HB := n0_; have BB := n1_; clear n0_ n1_; obtain ⟨-, -, -, -, -, -, z6, z7, z8, z9, z10, -, -, -, -, -, -, -, -, -, -, -, -, -, -, -, -, -⟩ := cells14 BB.out.1; obtain ⟨-, -, -, -, -, -, y6, y7, y8, y9, y10, -, -, -, -, -, -, -, -, -, -, -, -, -, -, -, -, -⟩ := cells14 BB.out.2) | (go_at_call 29; (with_reducible refine (relayref05_sameTexts.calls k _ _ (rd_T46 l0 i).f7 _ _ (rd_T46 l1 i).f7 _ _ ?side0 ?side1 ?side2 ?side3 A6.out).mono ?_); (case side0 => exact Kd.C_below ahc3 (by repeat (first | (with_reducible first | exact HB.out | apply below_alloc | apply pw_below_drewN | apply below_drew1) | exact HB.out))); (case side1 => exact ahl3); (case side2 => exact Kd.C_below bhc3 (by repeat (first | (with_reducible first | exact HB.out | apply below_alloc | apply pw_below_drewN | apply below_drew1) | exact HB.out))); (case side3 => exact bhl3); rintro e w' ⟨rfl, hb⟩; replace hb := Drawn0.below hb; have n0_ := Aside0.mk (below_step (by repeat (first | (with_reducible first | exact HB.out | apply below_alloc | apply pw_below_drewN | apply below_drew1) | exact HB.out)) hb); have n1_ := Aside0.mk (And.intro (blk_below BB.out.1 hb) (blk_below BB.out.2 hb)); clear HB BB hb z6 z7 z8 z9 z10 y6 y7 y8 y9 y10; have HB := n0_; have BB := n1_; clear n0_ n1_; obtain ⟨-, -, -, -, -, -, z6, z7, z8, z9, z10, -, -, -, -, -, -, -, -, -, -, -, -, -, -, -, -, -⟩ := cells14 BB.out.1; obtain ⟨-, -, -, -, -, -, y6, y7, y8, y9, y10, -, -, -, -, -, -, -, -, -, -, -, -, -, -, -, -, -⟩ := cells14 BB.out.2))
    go_ret
    exact ⟨rfl, (by repeat (first | (with_reducible first | exact HB.out | apply below_alloc | apply pw_below_drewN | apply below_drew1) | exact HB.out))⟩
   have hr := HE.out
   rw [if_pos rfl] at hr
   clear HE
   have HE := Aside0.mk hr
   clear hr
   obtain ⟨u7, hu7, hr⟩ := Option.bind_eq_some_iff.mp HE.out
   have A7 := Aside0.mk hu7
   clear HE hu7
   have HE := Aside0.mk hr
   clear hr
   cases u7
   case false =>
    have hr := HE.out
    rw [if_neg Bool.false_ne_true] at hr
    clear HE
    have HE := Aside0.mk hr
    clear hr
    obtain rfl := Option.some.inj HE.out
    have hr := HH1.out
    rw [if_neg Bool.false_ne_true] at hr
    obtain rfl := Option.some.inj hr
    clear hr HE HH1
    go_wp2_with (first | (go_at_call 28; (with_reducible refine (relayref05_sameExprs.calls k _ _ (rd_T46 l0 i).f6 _ _ (rd_T46 l1 i).f6 _ _ ?side0 ?side1 ?side2 ?side3 A5.out).mono ?_); (case side0 => exact Kd.C_below ahc2 (by repeat (first | (with_reducible first | exact HB.out | apply below_alloc | apply pw_below_drewN | apply below_drew1) | exact HB.out))); (case side1 => exact ahl2); (case side2 => exact Kd.C_below bhc2 (by repeat (first | (with_reducible first | exact HB.out | apply below_alloc | apply pw_below_drewN | apply below_drew1) | exact HB.out))); (case side3 => exact bhl2); rintro e w' ⟨rfl, hb⟩; have n0_ := Aside0.mk (below_step (by repeat (first | (with_reducible first | exact HB.out | apply below_alloc | apply pw_below_drewN | apply below_drew1) | exact HB.out)) hb); have n1_ := Aside0.mk (And.intro (blk_below BB.out.1 hb) (blk_below BB.out.2 hb)); clear HB BB hb z6 z7 z8 z9 z10 y6 y7 y8 y9 y10; have HB := n0_; have BB := n1_; clear n0_ n1_; obtain ⟨-, -, -, -, -, -, z6, z7, z8, z9, z10, -, -, -, -, -, -, -, -, -, -, -, -, -, -, -, -, -⟩ := cells14 BB.out.1; obtain ⟨-, -, -, -, -, -, y6, y7, y8, y9, y10, -, -, -, -, -, -, -, -, -, -, -, -, -, -, -, -, -⟩ := cells14 BB.out.2) | (go_at_call 29; (with_reducible refine (relayref05_sameTexts.calls k _ _ (rd_T46 l0 i).f7 _ _ (rd_T46 l1 i).f7 _ _ ?side0 ?side1 ?side2 ?side3 A6.out).mono ?_); (case side0 => exact Kd.C_below ahc3 (by repeat (first | (with_reducible first | exact HB.out | apply below_alloc | apply pw_below_drewN | apply below_drew1) | exact HB.out))); (case side1 => exact ahl3); (case side2 => exact Kd.C_below bhc3 (by repeat (first | (with_reducible first | exact HB.out | apply below_alloc | apply pw_below_drewN | apply below_drew1) | exact HB.out))); (case side3 => exact bhl3); rintro e w' ⟨rfl, hb⟩; replace hb := Drawn0.below hb; have n0_ := Aside0.mk (below_step (by repeat (first | (with_reducible first | exact HB.out | apply below_alloc | apply pw_below_drewN | apply below_drew1) | exact HB.out)) hb); have n1_ := Aside0.mk (And.intro (blk_below BB.out.1 hb) (blk_below BB.out.2 hb)); clear HB BB hb z6 z7 z8 z9 z10 y6 y7 y8 y9 y10; have HB := n0_; have BB := n1_; clear n0_ n1_; obtain ⟨-, -, -, -, -, -, z6, z7, z8, z9, z10, -, -, -, -, -, -, -, -, -, -, -, -, -, -, -, -, -⟩ := cells14 BB.out.1; obtain ⟨-, -, -, -, -, -, y6, y7, y8, y9, y10, -, -, -, -, -, -, -, -, -, -, -, -, -, -, -, -, -⟩ := cells14 BB.out.2) | (go_at_call 30; (with_reducible refine (relayref05_sameRanges.calls k _ _ (rd_T46 l0 i).f8 _ _ (rd_T46 l1 i).f8 _ _ ?side0 ?side1 ?side2 ?side3 A7.out).mono ?_); (case side0 => exact Kd.C_below ahc4 (by repeat (first | (with_reducible first | exact HB.out | apply below_alloc | apply pw_below_drewN | apply below_drew1) | exact HB.out))); (case side1 => exact ahl4); (case side2 => exact Kd.C_below bhc4 (by repeat (first | (with_reducible first | exact HB.out | apply below_alloc | apply pw_below_drewN | apply below_drew1) | exact HB.out))); (case side3 => exact bhl4); rintro e w' ⟨rfl, hb⟩; replace hb := Drawn0.below hb; have n0_ := Aside0.mk (below_step (by repeat (first | (with_reducible first | exact HB.out | apply below_alloc | apply pw_below_drewN | apply below_drew1) | exact HB.out)) hb); have n1_ := Aside0.mk (And.intro (blk_below BB.out.1 hb) (blk_below BB.out.2 hb)); clear HB BB hb z6 z7 z8 z9 z10 y6 y7 y8 y9 y10; have HB := n0_; have BB := n1_; clear n0_ n1_; obtain ⟨-, -, -, -, -, -, z6, z7, z8, z9, z10, -, -, -, -, -, -, -, -, -, -, -, -, -, -, -, -, -⟩ := cells14 BB.out.1; obtain ⟨-, -, -, -, -, -, y6, y7, y8, y9, y10, -, -, -, -, -, -, -, -, -, -, -, -, -, -, -, -, -⟩ := cells14 BB.out.2))
    go_ret
    exact ⟨rfl, (by repeat (first | (with_reducible first | exact HB.out | apply below_alloc | apply pw_below_drewN | apply below_drew1) | exact HB.out))⟩
   have hr := HE.out
   rw [if_pos rfl] at hr
   clear HE
   have HE := Aside0.mk hr
   clear hr
   obtain ⟨u8, hu8, hr⟩ := Option.bind_eq_some_iff.mp HE.out
   have A8 := Aside0.mk hu8
   clear HE hu8
   have HE := Aside0.mk hr
   clear hr
   cases u8
   case false =>
    have hr := HE.out
    rw [if_neg Bool.false_ne_true] at hr
    clear HE
    have HE := Aside0.mk hr
    clear hr
    obtain rfl := Option.some.inj HE.out
    have hr := HH1.out
    rw [if_neg Bool.false_ne_true] at hr
    obtain rfl := Option.some.inj hr
    clear hr HE HH1
    go_wp2_with (first | (go_at_call 28; (with_reducible refine (relayref05_sameExprs.calls k _ _ (rd_T46 l0 i).f6 _ _ (rd_T46 l1 i).f6 _ _ ?side0 ?side1 ?side2 ?side3 A5.out).mono ?_); (case side0 => exact Kd.C_below ahc2 (by repeat (first | (with_reducible first | exact HB.out | apply below_alloc | apply pw_below_drewN | apply below_drew1) | exact HB.out))); (case side1 => exact ahl2); (case side2 => exact Kd.C_below bhc2 (by repeat (first | (with_reducible first | exact HB.out | apply below_alloc | apply pw_below_drewN | apply below_drew1) | exact HB.out))); (case side3 => exact bhl2); rintro e w' ⟨rfl, hb⟩; have n0_ := Aside0.mk (below_step (by repeat (first | (with_reducible first | exact HB.out | apply below_alloc | apply pw_below_drewN | apply below_drew1) | exact HB.out)) hb); have n1_ := Aside0.mk (And.intro (blk_below BB.out.1 hb) (blk_below BB.out.2 hb)); clear HB BB hb z6 z7 z8 z9 z10 y6 y7 y8 y9 y10; have HB := n0_; have BB := n1_; clear n0_ n1_; obtain ⟨-, -, -, -, -, -, z6, z7, z8, z9, z10, -, -, -, -, -, -, -, -, -, -, -, -, -, -, -, -, -⟩ := cells14 BB.out.1; obtain ⟨-, -, -, -, -, -, y6, y7, y8, y9, y10, -, -, -, -, -, -, -, -, -, -, -, -, -, -, -, -, -⟩ := cells14 BB.out.2) | (go_at_call 29; (with_reducible refine (relayref05_sameTexts.calls k _ _ (rd_T46 l0 i).f7 _ _ (rd_T46 l1 i).f7 _ _ ?side0 ?side1 ?side2 ?side3 A6.out).mono ?_); (case side0 => exact Kd.C_below ahc3 (by repeat (first | (with_reducible first | exact HB.out | apply below_alloc | apply pw_below_drewN | apply below_drew1) | exact HB.out))); (case side1 => exact ahl3); (case side2 => exact Kd.C_below bhc3 (by repeat (first | (with_reducible first | exact HB.out | apply below_alloc | apply pw_below_drewN | apply below_drew1) | exact HB.out))); (case side3 => exact bhl3); rintro e w' ⟨rfl, hb⟩; replace hb := Drawn0.below hb; have n0_ := Aside0.mk (below_step (by repeat (first | (with_reducible first | exact HB.out | apply below_alloc | apply pw_below_drewN | apply below_drew1) | exact HB.out)) hb); have n1_ := Aside0.mk (And.intro (blk_below BB.out.1 hb) (blk_below BB.out.2 hb)); clear HB BB hb z6 z7 z8 z9 z10 y6 y7 y8 y9 y10; have HB := n0_; have BB := n1_; clear n0_ n1_; obtain ⟨-, -, -, -, -, -, z6, z7, z8, z9, z10, -, -, -, -, -, -, -, -, -, -, -, -, -, -, -, -, -⟩ := cells14 BB.out.1; obtain ⟨-, -, -, -, -, -, y6, y7, y8, y9, y10, -, -, -, -, -, -, -, -, -, -, -, -, -, -, -, -, -⟩ := cells14 BB.out.2) | (go_at_call 30; (with_reducible refine (relayref05_sameRanges.calls k _ _ (rd_T46 l0 i).f8 _ _ (rd_T46 l1 i).f8 _ _ ?side0 ?side1 ?side2 ?side3 A7.out).mono ?_); (case side0 => exact Kd.C_below ahc4 (by repeat (first | (with_reducible first | exact HB.out | apply below_alloc | apply pw_below_drewN | apply below_drew1) | exact HB.out))); (case side1 => exact ahl4); (case side2 => exact Kd.C_below bhc4 (by repeat (first | (with_reducible first | exact HB.out | apply below_alloc | apply pw_below_drewN | apply below_drew1) | exact HB.out))); (case side3 => exact bhl4); rintro e w' ⟨rfl, hb⟩; replace hb := Drawn0.below hb; have n0_ := Aside0.mk (below_step (by repeat (first | (with_reducible first | exact HB.out | apply below_alloc | apply pw_below_drewN | apply below_drew1) | exact HB.out)) hb); have n1_ := Aside0.mk (And.intro (blk_below BB.out.1 hb) (blk_below BB.out.2 hb)); clear HB BB hb z6 z7 z8 z9 z10 y6 y7 y8 y9 y10; have HB := n0_; have BB := n1_; clear n0_ n1_; obtain ⟨-, -, -, -, -, -, z6, z7, z8, z9, z10, -, -, -, -, -, -, -, -, -, -, -, -, -, -, -, -, -⟩ := cells14 BB.out.1; obtain ⟨-, -, -, -, -, -, y6, y7, y8, y9, y10, -, -, -, -, -, -, -, -, -, -, -, -, -, -, -, -, -⟩ := cells14 BB.out.2) | (go_at_call 11; (with_reducible refine (HF.out _ _ (rd_T46 l0 i).f9 _ _ (rd_T46 l1 i).f9 _ _ ?side0 ?side1 ?side2 ?side3 A8.out).mono ?_); (case side0 => exact Kd.C_below ahc5 (by repeat (first | (with_reducible first | exact HB.out | apply below_alloc | apply pw_below_drewN | apply below_drew1) | exact HB.out))); (case side1 => exact ahl5); (case side2 => exact Kd.C_below bhc5 (by repeat (first | (with_reducible first | exact HB.out | apply below_alloc | apply pw_below_drewN | apply below_drew1) | exact HB.out))); (case side3 => exact bhl5); rintro e w' ⟨rfl, hb⟩; have n0_ := Aside0.mk (below_step (by repeat (first | (with_reducible first | exact HB.out | apply below_alloc | apply pw_below_drewN | apply below_drew1) | exact HB.out)) hb); have n1_ := Aside0.mk (And.intro (blk_below BB.out.1 hb) (blk_below BB.out.2 hb)); clear HB BB hb z6 z7 z8 z9 z10 y6 y7 y8 y9 y10; have HB := n0_; have BB := n1_; clear n0_ n1_; obtain ⟨-, -, -, -, -, -, z6, z7, z8, z9, z10, -, -, -, -, -, -, -, -, -, -, -, -, -, -, -, -, -⟩ := cells14 BB.out.1; obtain ⟨-, -, -, -, -, -, y6, y7, y8, y9, y10, -, -, -, -, -, -, -, -, -, -, -, -, -, -, -, -, -⟩ := cells14 BB.out.2))
    go_ret
    exact ⟨rfl, (by repeat (first | (with_reducible first | exact HB.out | apply below_alloc | apply pw_below_drewN | apply below_drew1) | exact HB.out))⟩
   have hr := HE.out
   rw [if_pos rfl] at hr
   clear HE
   have HE := Aside0.mk hr
   clear hr
   obtain ⟨u9, hu9, hr⟩ := Option.bind_eq_some_iff.mp HE.out
   have A9 := Aside0.mk hu9
   clear HE hu9
   have HE := Aside0.mk hr
   clear hr
   cases u9
   case false =>
    have hr := HE.out
    rw [if_neg Bool.false_ne_true] at hr
    clear HE
    have HE := Aside0.mk hr
    clear hr
    obtain rfl := Option.some.inj HE.out
    have hr := HH1.out
    rw [if_neg Bool.false_ne_true] at hr
    obtain rfl := Option.some.inj hr
    clear hr HE HH1
    go_wp2_with (first | (go_at_call 28; (with_reducible refine (relayref05_sameExprs.calls k _ _ (rd_T46 l0 i).f6 _ _ (rd_T46 l1 i).f6 _ _ ?side0 ?side1 ?side2 ?side3 A5.out).mono ?_); (case side0 => exact Kd.C_below ahc2 (by repeat (first | (with_reducible first | exact HB.out | apply below_alloc | apply pw_below_drewN | apply below_drew1) | exact HB.out))); (case side1 => exact ahl2); (case side2 => exact Kd.C_below bhc2 (by repeat (first | (with_reducible first | exact HB.out | apply below_alloc | apply pw_below_drewN | apply below_drew1) | exact HB.out))); (case side3 => exact bhl2); rintro e w' ⟨rfl, hb⟩; have n0_ := Aside0.mk (below_step (by repeat (first | (with_reducible first | exact HB.out | apply below_alloc | apply pw_below_drewN | apply below_drew1) | exact HB.out)) hb); have n1_ := Aside0.mk (And.intro (blk_below BB.out.1 hb) (blk_below BB.out.2 hb)); clear HB BB hb z6 z7 z8 z9 z10 y6 y7 y8 y9 y10; have HB := n0_; have BB := n1_; clear n0_ n1_; obtain ⟨-, -, -, -, -, -, z6, z7, z8, z9, z10, -, -, -, -, -, -, -, -, -, -, -, -, -, -, -, -, -⟩ := cells14 BB.out.1; obtain ⟨-, -, -, -, -, -, y6, y7, y8, y9, y10, -, -, -, -, -, -, -, -, -, -, -, -, -, -, -, -, -⟩ := cells14 BB.out.2) | (go_at_call 29; (with_reducible refine (relayref05_sameTexts.calls k _ _ (rd_T46 l0 i).f7 _ _ (rd_T46 l1 i).f7 _ _ ?side0 ?side1 ?side2 ?side3 A6.out).mono ?_); (case side0 => exact Kd.C_below ahc3 (by repeat (first | (with_reducible first | exact HB.out | apply below_alloc | apply pw_below_drewN | apply below_drew1) | exact HB.out))); (case side1 => exact ahl3); (case side2 => exact Kd.C_below bhc3 (by repeat (first | (with_reducible first | exact HB.out | apply below_alloc | apply pw_below_drewN | apply below_drew1) | exact HB.out))); (case side3 => exact bhl3); rintro e w' ⟨rfl, hb⟩; replace hb := Drawn0.below hb; have n0_ := Aside0.mk (below_step (by repeat (first | (with_reducible first | exact HB.out | apply below_alloc | apply pw_below_drewN | apply below_drew1) | exact HB.out)) hb); have n1_ := Aside0.mk (And.intro (blk_below BB.out.1 hb) (blk_below BB.out.2 hb)); clear HB BB hb z6 z7 z8 z9 z10 y6 y7 y8 y9 y10; have HB := n0_; have BB := n1_; clear n0_ n1_; obtain ⟨-, -, -, -, -, -, z6, z7, z8, z9, z10, -, -, -, -, -, -, -, -, -, -, -, -, -, -, -, -, -⟩ := cells14 BB.out.1; obtain ⟨-, -, -, -, -, -, y6, y7, y8, y9, y10, -, -, -, -, -, -, -, -, -, -, -, -, -, -, -, -, -⟩ := cells14 BB.out.2) | (go_at_call 30; (with_reducible refine (relayref05_sameRanges.calls k _ _ (rd_T46 l0 i).f8 _ _ (rd_T46 l1 i).f8 _ _ ?side0 ?side1 ?side2 ?side3 A7.out).mono ?_); (case side0 => exact Kd.C_below ahc4 (by repeat (first | (with_reducible first | exact HB.out | apply below_alloc | apply pw_below_drewN | apply below_drew1) | exact HB.out))); (case side1 => exact ahl4); (case side2 => exact Kd.C_below bhc4 (by repeat (first | (with_reducible first | exact HB.out | apply below_alloc | apply pw_below_drewN | apply below_drew1) | exact HB.out))); (case side3 => exact bhl4); rintro e w' ⟨rfl, hb⟩; replace hb := Drawn0.below hb; have n0_ := Aside0.mk (below_step (by repeat (first | (with_reducible first | exact HB.out | apply below_alloc | apply pw_below_drewN | apply below_drew1) | exact HB.out)) hb); have n1_ := Aside0.mk (And.intro (blk_below BB.out.1 hb) (blk_below BB.out.2 hb)); clear HB BB hb z6 z7 z8 z9 z10 y6 y7 y8 y9 y10; have HB := n0_; have BB := n1_; clear n0_ n1_; obtain ⟨-, -, -, -, -, -, z6, z7, z8, z9, z10, -, -, -, -, -, -, -, -, -, -, -, -, -, -, -, -, -⟩ := cells14 BB.out.1; obtain ⟨-, -, -, -, -, -, y6, y7, y8, y9, y10, -, -, -, -, -, -, -, -, -, -, -, -, -, -, -, -, -⟩ := cells14 BB.out.2) | (go_at_call 11; (with_reducible refine (HF.out _ _ (rd_T46 l0 i).f9 _ _ (rd_T46 l1 i).f9 _ _ ?side0 ?side1 ?side2 ?side3 A8.out).mono ?_); (case side0 => exact Kd.C_below ahc5 (by repeat (first | (with_reducible first | exact HB.out | apply below_alloc | apply pw_below_drewN | apply below_drew1) | exact HB.out))); (case side1 => exact ahl5); (case side2 => exact Kd.C_below bhc5 (by repeat (first | (with_reducible first | exact HB.out | apply below_alloc | apply pw_below_drewN | apply below_drew1) | exact HB.out))); (case side3 => exact bhl5); rintro e w' ⟨rfl, hb⟩; have n0_ := Aside0.mk (below_step (by repeat (first | (with_reducible first | exact HB.out | apply below_alloc | apply pw_below_drewN | apply below_drew1) | exact HB.out)) hb); have n1_ := Aside0.mk (And.intro (blk_below BB.out.1 hb) (blk_below BB.out.2 hb)); clear HB BB hb z6 z7 z8 z9 z10 y6 y7 y8 y9 y10; have HB := n0_; have BB := n1_; clear n0_ n1_; obtain ⟨-, -, -, -, -, -, z6, z7, z8, z9, z10, -, -, -, -, -, -, -, -, -, -, -, -, -, -, -, -, -⟩ := cells14 BB.out.1; obtain ⟨-, -, -, -, -, -, y6, y7, y8, y9, y10, -, -, -, -, -, -, -, -, -, -, -, -, -, -, -, -, -⟩ := cells14 BB.out.2) | (go_at_call 11; (with_reducible refine (HF.out _ _ (rd_T46 l0 i).f10 _ _ (rd_T46 l1 i).f10 _ _ ?side0 ?side1 ?side2 ?side3 A9.out).mono ?_); (case side0 => exact Kd.C_below ahc6 (by repeat (first | (with_reducible first | exact HB.out | apply below_alloc | apply pw_below_drewN | apply below_drew1) | exact HB.out))); (case side1 => exact ahl6); (case side2 => exact Kd.C_below bhc6 (by repeat (first | (with_reducible first | exact HB.out | apply below_alloc | apply pw_below_drewN | apply below_drew1) | exact HB.out))); (case side3 => exact bhl6); rintro e w' ⟨rfl, hb⟩; have n0_ := Aside0.mk (below_step (by repeat (first | (with_reducible first | exact HB.out | apply below_alloc | apply pw_below_drewN | apply below_drew1) | exact HB.out)) hb); have n1_ := Aside0.mk (And.intro (blk_below BB.out.1 hb) (blk_below BB.out.2 hb)); clear HB BB hb z6 z7 z8 z9 z10 y6 y7 y8 y9 y10; have HB := n0_; have BB := n1_; clear n0_ n1_; obtain ⟨-, -, -, -, -, -, z6, z7, z8, z9, z10, -, -, -, -, -, -, -, -, -, -, -, -, -, -, -, -, -⟩ := cells14 BB.out.1; obtain ⟨-, -, -, -, -, -, y6, y7, y8, y9, y10, -, -, -, -, -, -, -, -, -, -, -, -, -, -, -, -, -⟩ := cells14 BB.out.2))
    go_ret
    exact ⟨rfl, (by repeat (first | (with_reducible first | exact HB.out | apply below_alloc | apply pw_below_drewN | apply below_drew1) | exact HB.out))⟩
   have hr := HE.out
   rw [if_pos rfl] at hr
   clear HE
   have HE := Aside0.mk hr
   clear hr
   obtain rfl := Option.some.inj HE.out
   have hr := HH1.out
   rw [if_pos rfl] at hr
   have HH := Aside0.mk hr
   clear hr HE HH1
   go_wp2_with (first | (go_at_call 28; (with_reducible refine (relayref05_sameExprs.calls k _ _ (rd_T46 l0 i).f6 _ _ (rd_T46 l1 i).f6 _ _ ?side0 ?side1 ?side2 ?side3 A5.out).mono ?_); (case side0 => exact Kd.C_below ahc2 (by repeat (first | (with_reducible first | exact HB.out | apply below_alloc | apply pw_below_drewN | apply below_drew1) | exact HB.out))); (case side1 => exact ahl2); (case side2 => exact Kd.C_below bhc2 (by repeat (first | (with_reducible first | exact HB.out | apply below_alloc | apply pw_below_drewN | apply below_drew1) | exact HB.out))); (case side3 => exact bhl2); rintro e w' ⟨rfl, hb⟩; have n0_ := Aside0.mk (below_step (by repeat (first | (with_reducible first | exact HB.out | apply below_alloc | apply pw_below_drewN | apply below_drew1) | exact HB.out)) hb); have n1_ := Aside0.mk (And.intro (blk_below BB.out.1 hb) (blk_below BB.out.2 hb)); clear HB BB hb z6 z7 z8 z9 z10 y6 y7 y8 y9 y10; have HB := n0_; have BB := n1_; clear n0_ n1_; obtain ⟨-, -, -, -, -, -, z6, z7, z8, z9, z10, -, -, -, -, -, -, -, -, -, -, -, -, -, -, -, -, -⟩ := cells14 BB.out.1; obtain ⟨-, -, -, -, -, -, y6, y7, y8, y9, y10, -, -, -, -, -, -, -, -, -, -, -, -, -, -, -, -, -⟩ := cells14 BB.out.2) | (go_at_call 29; (with_reducible refine (relayref05_sameTexts.calls k _ _ (rd_T46 l0 i).f7 _ _ (rd_T46 l1 i).f7 _ _ ?side0 ?side1 ?side2 ?side3 A6.out).mono ?_); (case side0 => exact Kd.C_below ahc3 (by repeat (first | (with_reducible first | exact HB.out | apply below_alloc | apply pw_below_drewN | apply below_drew1) | exact HB.out))); (case side1 => exact ahl3); (case side2 => exact Kd.C_below bhc3 (by repeat (first | (with_reducible first | exact HB.out | apply below_alloc | apply pw_below_drewN | apply below_drew1) | exact HB.out))); (case side3 => exact bhl3); rintro e w' ⟨rfl, hb⟩; replace hb := Drawn0.below hb; have n0_ := Aside0.mk (below_step (by repeat (first | (with_reducible first | exact HB.out | apply below_alloc | apply pw_below_drewN | apply below_drew1) | exact HB.out)) hb); have n1_ := Aside0.mk (And.intro (blk_below BB.out.1 hb) (blk_below BB.out.2 hb)); clear HB BB hb z6 z7 z8 z9 z10 y6 y7 y8 y9 y10; have HB := n0_; have BB := n1_; clear n0_ n1_; obtain ⟨-, -, -, -, -, -, z6, z7, z8, z9, z10, -, -, -, -, -, -, -, -, -, -, -, -, -, -, -, -, -⟩ := cells14 BB.out.1; obtain ⟨-, -, -, -, -, -, y6, y7, y8, y9, y10, -, -, -, -, -, -, -, -, -, -, -, -, -, -, -, -, -⟩ := cells14 BB.out.2) | (go_at_call 30; (with_reducible refine (relayref05_sameRanges.calls k _ _ (rd_T46 l0 i).f8 _ _ (rd_T46 l1 i).f8 _ _ ?side0 ?side1 ?side2 ?side3 A7.out).mono ?_); (case side0 => exact Kd.C_below ahc4 (by repeat (first | (with_reducible first | exact HB.out | apply below_alloc | apply pw_below_drewN | apply below_drew1) | exact HB.out))); (case side1 => exact ahl4); (case side2 => exact Kd.C_below bhc4 (by repeat (first | (with_reducible first | exact HB.out | apply below_alloc | apply pw_below_drewN | apply below_drew1) | exact HB.out))); (case side3 => exact bhl4); rintro e w' ⟨rfl, hb⟩; replace hb := Drawn0.below hb; have n0_ := Aside0.mk (below_step (by repeat (first | (with_reducible first | exact HB.out | apply below_alloc | apply pw_below_drewN | apply below_drew1) | exact HB.out)) hb); have n1_ := Aside0.mk (And.intro (blk_below BB.out.1 hb) (blk_below BB.out.2 hb)); clear HB BB hb z6 z7 z8 z9 z10 y6 y7 y8 y9 y10; have HB := n0_; have BB := n1_; clear n0_ n1_; obtain ⟨-, -, -, -, -, -, z6, z7, z8, z9, z10, -, -, -, -, -, -, -, -, -, -, -, -, -, -, -, -, -⟩ := cells14 BB.out.1; obtain ⟨-, -, -, -, -, -, y6, y7, y8, y9, y10, -, -, -, -, -, -, -, -, -, -, -, -, -, -, -, -, -⟩ := cells14 BB.out.2) | (go_at_call 11; (with_reducible refine (HF.out _ _ (rd_T46 l0 i).f9 _ _ (rd_T46 l1 i).f9 _ _ ?side0 ?side1 ?side2 ?side3 A8.out).mono ?_); (case side0 => exact Kd.C_below ahc5 (by repeat (first | (with_reducible first | exact HB.out | apply below_alloc | apply pw_below_drewN | apply below_drew1) | exact HB.out))); (case side1 => exact ahl5); (case side2 => exact Kd.C_below bhc5 (by repeat (first | (with_reducible first | exact HB.out | apply below_alloc | apply pw_below_drewN | apply below_drew1) | exact HB.out))); (case side3 => exact bhl5); rintro e w' ⟨rfl, hb⟩; have n0_ := Aside0.mk (below_step (by repeat (first | (with_reducible first | exact HB.out | apply below_alloc | apply pw_below_drewN | apply below_drew1) | exact HB.out)) hb); have n1_ := Aside0.mk (And.intro (blk_below BB.out.1 hb) (blk_below BB.out.2 hb)); clear HB BB hb z6 z7 z8 z9 z10 y6 y7 y8 y9 y10; have HB := n0_; have BB := n1_; clear n0_ n1_; obtain ⟨-, -, -, -, -, -, z6, z7, z8, z9, z10, -, -, -, -, -, -, -, -, -, -, -, -, -, -, -, -, -⟩ := cells14 BB.out.1; obtain ⟨-, -, -, -, -, -, y6, y7, y8, y9, y10, -, -, -, -, -, -, -, -, -, -, -, -, -, -, -, -, -⟩ := cells14 BB.out.2) | (go_at_call 11; (with_reducible refine (HF.out _ _ (rd_T46 l0 i).f10 _ _ (rd_T46 l1 i).f10 _ _ ?side0 ?side1 ?side2 ?side3 A9.out).mono ?_); (case side0 => exact Kd.C_below ahc6 (by repeat (first | (with_reducible first | exact HB.out | apply below_alloc | apply pw_below_drewN | apply below_drew1) | exact HB.out))); (case side1 => exact ahl6); (case side2 => exact Kd.C_below bhc6 (by repeat (first | (with_reducible first | exact HB.out | apply below_alloc | apply pw_below_drewN | apply below_drew1) | exact HB.out))); (case side3 => exact bhl6); rintro e w' ⟨rfl, hb⟩; have n0_ := Aside0.mk (below_step (by repeat (first | (with_reducible first | exact HB.out | apply below_alloc | apply pw_below_drewN | apply below_drew1) | exact HB.out)) hb); have n1_ := Aside0.mk (And.intro (blk_below BB.out.1 hb) (blk_below BB.out.2 hb)); clear HB BB hb z6 z7 z8 z9 z10 y6 y7 y8 y9 y10; have HB := n0_; have BB := n1_; clear n0_ n1_; obtain ⟨-, -, -, -, -, -, z6, z7, z8, z9, z10, -, -, -, -, -, -, -, -, -, -, -, -, -, -, -, -, -⟩ := cells14 BB.out.1; obtain ⟨-, -, -, -, -, -, y6, y7, y8, y9, y10, -, -, -, -, -, -, -, -, -, -, -, -, -, -, -, -, -⟩ := cells14 BB.out.2))
   have hw : wrap64 (i + 1) = i + 1 := by
    have := HM0.out
    have := hi.out
    have := C2.out
    unfold wrap64
    omega
   have h1 := hi.out
   have h2 := C2.out
   go_roundg (gk - 1)
   case measure => omega
   case rel => exact ⟨i + 1, by rw [hw], ⟨by omega⟩, ⟨HH.out⟩, ⟨(by repeat (first | (with_reducible first | exact HB.out | apply below_alloc | apply pw_below_drewN | apply below_drew1) | exact HB.out))⟩⟩
def relayref05_Same.f : Nat → List S46 → List S46 → Option Bool
 | 0, _, _ => none
 | k + 1, l0, l1 => if l0.length = l1.length then eqGo (relayref05_Same.el (relayref05_Same.f k) k) l0 l1 else some false
theorem relayref05_Same.mono : ∀ a b k, LeO (relayref05_Same.f k a b) (relayref05_Same.f (k + 1) a b) := by
 intro a b k
 induction k generalizing a b with
 | zero => exact LeO.none _
 | succ k ih =>
  refine LeO.ite (eqGo_le (fun x y => ?_) a b) (LeO.refl _)
  unfold relayref05_Same.el
  repeat' first
   | exact ih _ _
   | exact relayref05_sameExprs.mono _ _ _
   | exact relayref05_sameRanges.mono _ _ _
   | exact relayref05_sameTexts.mono _ _ _
   | exact LeO.refl _
   | refine LeO.ite ?_ ?_
   | refine LeO.bind ?_ (fun _ => ?_)
theorem relayref05_Same.calls (k : Nat) : ∀ (A0 : Option Addr) (c0 : Nat) (l0 : List (S46)) (A1 : Option Addr) (c1 : Nat) (l1 : List (S46)) (r : Bool) (w : World) (hr0 : Kd.C k46 w A0 l0.length l0) (hc0 : l0.length ≤ c0) (hr1 : Kd.C k46 w A1 l1.length l1) (hc1 : l1.length ≤ c1) (h : relayref05_Same.f k l0 l1 = some r),
  Calls Try.prog 11 #[.slice A0 l0.length c0, .slice A1 l1.length c1] w fun e w' => e = .returned (.bool r) ∧ Below w.heap.size w w' := by
 induction k with
 | zero => intro A0 c0 l0 A1 c1 l1 r w hr0 hc0 hr1 hc1 h; cases h
 | succ k ih => exact relayref05_Same.callsOf _ ih k
end Go.Proofs.Ytmdkbhbconnmmaa.XSfc
