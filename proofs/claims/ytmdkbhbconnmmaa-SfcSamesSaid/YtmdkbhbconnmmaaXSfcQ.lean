-- WRITTEN BY wip/tools/sfc/all.py
import Derived.Test.YtmdkbhbconnmmaaXSfcB
import Derived.Test.YtmdkbhbconnmmaaXSfcM
import Derived.Test.YtmdkbhbconnmmaaXSfcH
import Derived.Test.YtmdkbhbconnmmaaXSfcx7
namespace Go.Proofs.Ytmdkbhbconnmmaa.XSfc
open Go.RowKit Go.Proofs.YtmdkbhbconnmmaaW.PrintWords Go.Proofs.YtmdkbhbconnmmaaW.PrintLast Go.Proofs.YtmdkbhbconnmmaaW.PrintMore
attribute [local go_sem] max2_int min2_int max_two min_two max_three min_three max_four min_four
set_option linter.unusedVariables false
set_option linter.unusedSimpArgs false
def api_Link.f (k : Nat) (l0 l1 : List S61) : Option Bool := if l0.length = l1.length then eqGo (linkEq.f k) l0 l1 else some false
theorem api_Link.mono : ∀ a b k, LeO (api_Link.f k a b) (api_Link.f (k + 1) a b) := fun a b k => LeO.ite (eqGo_le (fun x y => linkEq.mono x y k) a b) (LeO.refl _)
set_option maxHeartbeats 4000000 in
set_option maxRecDepth 100000 in
theorem api_Link.calls  (k : Nat) (A0 : Option Addr) (c0 : Nat) (l0 : List (S61)) (A1 : Option Addr) (c1 : Nat) (l1 : List (S61)) (r : Bool) (w : World) (hr0 : Kd.C k61 w A0 l0.length l0) (hc0 : l0.length ≤ c0) (hr1 : Kd.C k61 w A1 l1.length l1) (hc1 : l1.length ≤ c1) (h : api_Link.f k l0 l1 = some r) :
  Calls Try.prog 53 #[.slice A0 l0.length c0, .slice A1 l1.length c1, .func (.func 54) #[] #[]] w fun e w' => e = .returned (.bool r) ∧ Below w.heap.size w w' := by
 have hu := Try.underlying61
 have HR0 := Aside0.mk hr0
 have HR1 := Aside0.mk hr1
 have HM := Aside0.mk (Kd.C_max hr0)
 clear hr0 hr1 hc0 hc1
 have HB := Aside0.mk (Below.refl w.heap.size w)
 unfold api_Link.f at h
 by_cases hl : l0.length = l1.length
 case neg =>
  rw [if_neg hl] at h
  obtain rfl := Option.some.inj h
  have hn : ¬ ((l0.length : Int) = (l1.length : Int)) := fun e => hl (by omega)
  have b0 : ((l0.length : Int) == (l1.length : Int)) = false := beq_eq_false_iff_ne.mpr hn
  have b1 : ((l0.length : Int) != (l1.length : Int)) = true := bne_iff_ne.mpr hn
  clear hn
  go_enter Try.func53, Try.ntmps53
  go_wp2
  go_ret
  exact ⟨rfl, HB.out⟩
 rw [if_pos hl] at h
 have HH := Aside0.mk h
 have HL := Aside0.mk hl
 have b0 : ((l0.length : Int) == (l1.length : Int)) = true := by rw [hl]; exact beq_self_eq_true _
 have b1 : ((l0.length : Int) != (l1.length : Int)) = false := by rw [hl]; exact bne_self_eq_false _
 clear h hl
 go_enter Try.func53, Try.ntmps53
 go_wp2
 clear b0 b1
 go_loopg [17] (l0.length + 1) (fun kq v17 w' => ∃ i : Int, v17 = .int .i64 i ∧ Aside0 (0 ≤ i ∧ i ≤ l0.length ∧ (kq : Int) = l0.length + 1 - i) ∧ Aside0 (eqGo (linkEq.f k) (l0.drop i.toNat) (l1.drop i.toNat) = some r) ∧ Aside0 (Below w.heap.size w w'))
 case atStart => exact ⟨0, rfl, ⟨by omega⟩, ⟨by simpa using HH.out⟩, ⟨HB.out⟩⟩
 case round =>
  clear HH HB
  obtain ⟨i, rfl, hi, HH, HB⟩ := hrel
  by_cases c2 : i < (l0.length : Int)
  case neg =>
   have c2b0 : decide (i < (l0.length : Int)) = false := decide_eq_false c2
   have hd : l0.drop i.toNat = [] := List.drop_eq_nil_of_le (by have := hi.out; omega)
   have hr := HH.out
   rw [hd, eqGo] at hr
   obtain rfl := Option.some.inj hr
   go_wp2
   go_ret
   exact ⟨rfl, HB.out⟩
  have c2b0 : decide (i < (l0.length : Int)) = true := decide_eq_true c2
  have h0 := hi.out.1
  have c3 : i < (l1.length : Int) := by have := HL.out; omega
  obtain ⟨aad, ae, ahr⟩ := el_T61 HR0.out i h0 c2
  cases ae
  obtain ⟨bad, be, bhr⟩ := el_T61 HR1.out i h0 c3
  cases be
  have p0 := eq_true h0
  have p1 := eq_true c2
  have q1 := eq_true c3
  have C2 := Aside0.mk c2
  have C3 := Aside0.mk c3
  clear h0 c2 c3
  go_upto_region 6 with (first | ((with_reducible refine gate_dst (N := 21) rfl ?_); refine load_in (N := 21) (t := 61) rfl rfl rfl rfl (spread_below HB.out ahr) Try.underlying61 rfl rfl (by kernel_rfl) ?_) | ((with_reducible refine gate_dst (N := 8) rfl ?_); refine box_event ?hg (N := 8) ?hd (cs := #[.int .i64 0, .string (⟨#[]⟩ : ByteArray), .int .i64 0, .string (⟨#[]⟩ : ByteArray)]) (t := 61) ?hr ?_; (case hd => rfl); (case hg => rfl); (case hr => first | (go_simp; done) | (go_simp; rfl)); intro g8 hg w8 hbox hb; have n0_ := Aside0.mk (below_step (by repeat (first | (with_reducible first | exact HB.out | apply below_alloc | apply pw_below_drewN | apply below_drew1) | exact HB.out)) hb); have G8 := Aside0.mk ((by rw [hg]; exact below_size (by repeat (first | (with_reducible first | exact HB.out | apply below_alloc | apply pw_below_drewN | apply below_drew1) | exact HB.out))) : w.heap.size ≤ g8); have B8 := Aside0.mk hbox; clear HB; have HB := n0_; clear n0_ hb hbox hg) | ((with_reducible refine gate_store (t := 61) (p := 8) rfl ?_); refine store_in (w0 := w) (u := .agg #[.int .i64 (rd_T61 l0 i).f0, .string (rd_T61 l0 i).f1, .int .i64 (rd_T61 l0 i).f2, .string (rd_T61 l0 i).f3]) rfl rfl rfl rfl rfl rfl rfl (by kernel_rfl) rfl B8.out rfl HB.out G8.out ?_; intro W8 b1 hb1 hk1; clear B8 HB hk1; have B8 := Aside0.mk b1; have HB := Aside0.mk hb1; clear b1 hb1))
  go_upto_region 7 with (first | ((with_reducible refine gate_dst (N := 25) rfl ?_); refine load_in (N := 25) (t := 61) rfl rfl rfl rfl (spread_below HB.out bhr) Try.underlying61 rfl rfl (by kernel_rfl) ?_) | ((with_reducible refine gate_dst (N := 9) rfl ?_); refine box_event ?hg (N := 9) ?hd (cs := #[.int .i64 0, .string (⟨#[]⟩ : ByteArray), .int .i64 0, .string (⟨#[]⟩ : ByteArray)]) (t := 61) ?hr ?_; (case hd => rfl); (case hg => rfl); (case hr => first | (go_simp; done) | (go_simp; rfl)); intro g9 hg w9 hbox hb; have n0_ := Aside0.mk (below_step (by repeat (first | (with_reducible first | exact HB.out | apply below_alloc | apply pw_below_drewN | apply below_drew1) | exact HB.out)) hb); have n1_ := Aside0.mk (blk_below B8.out hb); have NE8_9 := Aside0.mk ((by rw [hg]; exact Nat.ne_of_lt (blk_lt B8.out)) : g8 ≠ g9); clear B8; have B8 := n1_; clear n1_; have G9 := Aside0.mk ((by rw [hg]; exact below_size (by repeat (first | (with_reducible first | exact HB.out | apply below_alloc | apply pw_below_drewN | apply below_drew1) | exact HB.out))) : w.heap.size ≤ g9); have B9 := Aside0.mk hbox; clear HB; have HB := n0_; clear n0_ hb hbox hg) | ((with_reducible refine gate_store (t := 61) (p := 9) rfl ?_); refine store_in (w0 := w) (u := .agg #[.int .i64 (rd_T61 l1 i).f0, .string (rd_T61 l1 i).f1, .int .i64 (rd_T61 l1 i).f2, .string (rd_T61 l1 i).f3]) rfl rfl rfl rfl rfl rfl rfl (by kernel_rfl) rfl B9.out rfl HB.out G9.out ?_; intro W9 b1 hb1 hk1; have n1_ := Aside0.mk (hk1 _ _ _ B8.out NE8_9.out); clear B8; have B8 := n1_; clear n1_; clear B9 HB hk1; have B9 := Aside0.mk b1; have HB := Aside0.mk hb1; clear b1 hb1))
  clear ahr bhr p0 p1 q1
  have hr := HH.out
  rw [drop_rd z61 hi.out.1 C2.out, drop_rd z61 hi.out.1 C3.out, eqGo] at hr
  obtain ⟨u, hu_, hr⟩ := Option.bind_eq_some_iff.mp hr
  have AU := Aside0.mk (show linkEq.f k (rd_T61 l0 i) (rd_T61 l1 i) = some u from hu_)
  clear HH hu_
  have HH := Aside0.mk hr
  clear hr
  have hr := HH.out
  cases u with
  | false =>
   rw [if_neg Bool.false_ne_true] at hr
   obtain rfl := Option.some.inj hr
   clear hr HH
   go_wp2_with (first | ((with_reducible refine gate_dst (N := 27) rfl ?_); refine load_in (N := 27) (t := 61) (cs := [.int .i64 (rd_T61 l0 i).f0, .string (rd_T61 l0 i).f1, .int .i64 (rd_T61 l0 i).f2, .string (rd_T61 l0 i).f3]) rfl rfl rfl rfl (spread_blk B8.out) Try.underlying61 rfl rfl (by kernel_rfl) ?_) | ((with_reducible refine gate_dst (N := 28) rfl ?_); refine load_in (N := 28) (t := 61) (cs := [.int .i64 (rd_T61 l1 i).f0, .string (rd_T61 l1 i).f1, .int .i64 (rd_T61 l1 i).f2, .string (rd_T61 l1 i).f3]) rfl rfl rfl rfl (spread_blk B9.out) Try.underlying61 rfl rfl (by kernel_rfl) ?_) | ((with_reducible refine gate_valued (N := 26) rfl ?_); refine goesV_ (x := .tmp 26) (by first | rfl | (simp [Act.eval]; done)) (some 29) rfl rfl Try.func54 (by kernel_rfl) rfl #[.agg #[.int .i64 (rd_T61 l0 i).f0, .string (rd_T61 l0 i).f1, .int .i64 (rd_T61 l0 i).f2, .string (rd_T61 l0 i).f3], .agg #[.int .i64 (rd_T61 l1 i).f0, .string (rd_T61 l1 i).f1, .int .i64 (rd_T61 l1 i).f2, .string (rd_T61 l1 i).f3]] rfl (by (try simp only [List.map_toArray, List.map_cons, List.map_nil]); first | done | rfl) ?_; refine (linkEq.calls k (rd_T61 l0 i) (rd_T61 l1 i)  _ _  AU.out).mono ?_; rintro e w' ⟨rfl, hb⟩; refine ⟨_, rfl, ?_⟩; have n0_ := Aside0.mk (below_step HB.out hb); clear HB hb; have HB := n0_; clear n0_))
   go_ret
   exact ⟨rfl, HB.out⟩
  | true =>
   rw [if_pos rfl] at hr
   clear HH
   have HH := Aside0.mk hr
   clear hr
   go_wp2_with (first | ((with_reducible refine gate_dst (N := 27) rfl ?_); refine load_in (N := 27) (t := 61) (cs := [.int .i64 (rd_T61 l0 i).f0, .string (rd_T61 l0 i).f1, .int .i64 (rd_T61 l0 i).f2, .string (rd_T61 l0 i).f3]) rfl rfl rfl rfl (spread_blk B8.out) Try.underlying61 rfl rfl (by kernel_rfl) ?_) | ((with_reducible refine gate_dst (N := 28) rfl ?_); refine load_in (N := 28) (t := 61) (cs := [.int .i64 (rd_T61 l1 i).f0, .string (rd_T61 l1 i).f1, .int .i64 (rd_T61 l1 i).f2, .string (rd_T61 l1 i).f3]) rfl rfl rfl rfl (spread_blk B9.out) Try.underlying61 rfl rfl (by kernel_rfl) ?_) | ((with_reducible refine gate_valued (N := 26) rfl ?_); refine goesV_ (x := .tmp 26) (by first | rfl | (simp [Act.eval]; done)) (some 29) rfl rfl Try.func54 (by kernel_rfl) rfl #[.agg #[.int .i64 (rd_T61 l0 i).f0, .string (rd_T61 l0 i).f1, .int .i64 (rd_T61 l0 i).f2, .string (rd_T61 l0 i).f3], .agg #[.int .i64 (rd_T61 l1 i).f0, .string (rd_T61 l1 i).f1, .int .i64 (rd_T61 l1 i).f2, .string (rd_T61 l1 i).f3]] rfl (by (try simp only [List.map_toArray, List.map_cons, List.map_nil]); first | done | rfl) ?_; refine (linkEq.calls k (rd_T61 l0 i) (rd_T61 l1 i)  _ _  AU.out).mono ?_; rintro e w' ⟨rfl, hb⟩; refine ⟨_, rfl, ?_⟩; have n0_ := Aside0.mk (below_step HB.out hb); clear HB hb; have HB := n0_; clear n0_))
   have hw : wrap64 (i + 1) = i + 1 := by
    have := HM.out
    have := hi.out
    have := C2.out
    unfold wrap64
    omega
   have h1 := hi.out
   have h2 := C2.out
   go_roundg (gk - 1)
   case measure => omega
   case rel => exact ⟨i + 1, by rw [hw], ⟨by omega⟩, ⟨HH.out⟩, ⟨HB.out⟩⟩
def sfc_sameStep.f (k : Nat) (x y : S58) : Option Bool := if x.f1.toList = y.f1.toList then (if x.f2 = y.f2 then ((api_Link.f k x.f3 y.f3).bind fun u2 => if u2 = true then (some true) else some false) else some false) else some false
set_option maxHeartbeats 4000000 in
set_option maxRecDepth 100000 in
theorem sfc_sameStep.calls (k : Nat) (x y : S58) (aA3 : Option Addr) (ac3 : Nat) (bA3 : Option Addr) (bc3 : Nat) (r : Bool) (w : World) (ahc0 : Kd.C k61 w aA3 x.f3.length x.f3) (ahl0 : x.f3.length ≤ ac3) (bhc0 : Kd.C k61 w bA3 y.f3.length y.f3) (bhl0 : y.f3.length ≤ bc3) (h : sfc_sameStep.f k x y = some r) :
  Calls Try.prog 34 #[.agg #[.int .i64 x.f0, .string x.f1, .bool x.f2, .slice aA3 x.f3.length ac3], .agg #[.int .i64 y.f0, .string y.f1, .bool y.f2, .slice bA3 y.f3.length bc3]] w fun e w' => e = .returned (.bool r) ∧ Below w.heap.size w w' := by
 have hu := Try.underlying58
 have HB := Aside0.mk (Below.refl w.heap.size w)
 unfold sfc_sameStep.f at h
 have HH := Aside0.mk h
 clear h
 go_enter Try.func34, Try.ntmps34
 go_upto_region 1 with (first | ((with_reducible refine gate_dst (N := 2) rfl ?_); refine box_event ?hg (N := 2) ?hd (cs := #[.int .i64 x.f0, .string x.f1, .bool x.f2, .slice aA3 x.f3.length ac3]) (t := 58) ?hr ?_; (case hd => rfl); (case hg => rfl); (case hr => first | (go_simp; done) | (go_simp; rfl)); intro g1 hg w1 hbox hb; have n0_ := Aside0.mk (below_step (by repeat (first | (with_reducible first | exact HB.out | apply below_alloc | apply pw_below_drewN | apply below_drew1) | exact HB.out)) hb); have G1 := Aside0.mk ((by rw [hg]; exact below_size (by repeat (first | (with_reducible first | exact HB.out | apply below_alloc | apply pw_below_drewN | apply below_drew1) | exact HB.out))) : w.heap.size ≤ g1); have B1 := Aside0.mk hbox; clear HB; have HB := n0_; clear n0_ hb hbox hg) | ((with_reducible refine gate_dst (N := 3) rfl ?_); refine box_event ?hg (N := 3) ?hd (cs := #[.int .i64 y.f0, .string y.f1, .bool y.f2, .slice bA3 y.f3.length bc3]) (t := 58) ?hr ?_; (case hd => rfl); (case hg => rfl); (case hr => first | (go_simp; done) | (go_simp; rfl)); intro g2 hg w2 hbox hb; have n0_ := Aside0.mk (below_step (by repeat (first | (with_reducible first | exact HB.out | apply below_alloc | apply pw_below_drewN | apply below_drew1) | exact HB.out)) hb); have n1_ := Aside0.mk (blk_below B1.out hb); have NE1_2 := Aside0.mk ((by rw [hg]; exact Nat.ne_of_lt (blk_lt B1.out)) : g1 ≠ g2); clear B1; have B1 := n1_; clear n1_; have G2 := Aside0.mk ((by rw [hg]; exact below_size (by repeat (first | (with_reducible first | exact HB.out | apply below_alloc | apply pw_below_drewN | apply below_drew1) | exact HB.out))) : w.heap.size ≤ g2); have B2 := Aside0.mk hbox; clear HB; have HB := n0_; clear n0_ hb hbox hg))
 obtain ⟨_, _, _, _, _, _, _, _⟩ := cells4 B1.out
 obtain ⟨_, _, _, _, _, _, _, _⟩ := cells4 B2.out
 clear B1 B2
 by_cases c0 : x.f1.toList = y.f1.toList
 case neg =>
  have d0_0 : (x.f1.toList == y.f1.toList) = false := beq_eq_false_iff_ne.mpr c0
  have d0_1 : (x.f1.toList != y.f1.toList) = true := bne_iff_ne.mpr c0
  have hr := HH.out
  rw [if_neg c0] at hr
  obtain rfl := Option.some.inj hr
  clear hr HH c0
  go_wp2
  go_ret
  exact ⟨rfl, (by repeat (first | (with_reducible first | exact HB.out | apply below_alloc | apply pw_below_drewN | apply below_drew1) | exact HB.out))⟩
 have d0_0 : (x.f1.toList == y.f1.toList) = true := beq_iff_eq.mpr c0
 have d0_1 : (x.f1.toList != y.f1.toList) = false := bne_eq_false_iff_eq.mpr c0
 have hr := HH.out
 rw [if_pos c0] at hr
 clear HH c0
 have HH := Aside0.mk hr
 clear hr
 by_cases c1 : x.f2 = y.f2
 case neg =>
  have d1_0 : (x.f2 == y.f2) = false := beq_eq_false_iff_ne.mpr c1
  have d1_1 : (x.f2 != y.f2) = true := bne_iff_ne.mpr c1
  have hr := HH.out
  rw [if_neg c1] at hr
  obtain rfl := Option.some.inj hr
  clear hr HH c1
  go_wp2
  go_ret
  exact ⟨rfl, (by repeat (first | (with_reducible first | exact HB.out | apply below_alloc | apply pw_below_drewN | apply below_drew1) | exact HB.out))⟩
 have d1_0 : (x.f2 == y.f2) = true := beq_iff_eq.mpr c1
 have d1_1 : (x.f2 != y.f2) = false := bne_eq_false_iff_eq.mpr c1
 have hr := HH.out
 rw [if_pos c1] at hr
 clear HH c1
 have HH := Aside0.mk hr
 clear hr
 obtain ⟨u2, hu2, hr⟩ := Option.bind_eq_some_iff.mp HH.out
 have A2 := Aside0.mk hu2
 clear HH hu2
 cases u2 with
 | false =>
  rw [if_neg Bool.false_ne_true] at hr
  obtain rfl := Option.some.inj hr
  clear hr
  go_wp2_with (first | (go_at_call 53; refine (api_Link.calls k _ _ x.f3 _ _ y.f3 _ _ (Kd.C_below ahc0 (by repeat (first | (with_reducible first | exact HB.out | apply below_alloc | apply pw_below_drewN | apply below_drew1) | exact HB.out))) ahl0 (Kd.C_below bhc0 (by repeat (first | (with_reducible first | exact HB.out | apply below_alloc | apply pw_below_drewN | apply below_drew1) | exact HB.out))) bhl0 A2.out).mono ?_; rintro e w' ⟨rfl, hb⟩; have n0_ := Aside0.mk (below_step (by repeat (first | (with_reducible first | exact HB.out | apply below_alloc | apply pw_below_drewN | apply below_drew1) | exact HB.out)) hb); clear HB hb; have HB := n0_; clear n0_))
  go_ret
  exact ⟨rfl, (by repeat (first | (with_reducible first | exact HB.out | apply below_alloc | apply pw_below_drewN | apply below_drew1) | exact HB.out))⟩
 | true =>
  rw [if_pos rfl] at hr
  have HH := Aside0.mk hr
  clear hr
  obtain rfl := Option.some.inj HH.out
  go_wp2_with (first | (go_at_call 53; refine (api_Link.calls k _ _ x.f3 _ _ y.f3 _ _ (Kd.C_below ahc0 (by repeat (first | (with_reducible first | exact HB.out | apply below_alloc | apply pw_below_drewN | apply below_drew1) | exact HB.out))) ahl0 (Kd.C_below bhc0 (by repeat (first | (with_reducible first | exact HB.out | apply below_alloc | apply pw_below_drewN | apply below_drew1) | exact HB.out))) bhl0 A2.out).mono ?_; rintro e w' ⟨rfl, hb⟩; have n0_ := Aside0.mk (below_step (by repeat (first | (with_reducible first | exact HB.out | apply below_alloc | apply pw_below_drewN | apply below_drew1) | exact HB.out)) hb); clear HB hb; have HB := n0_; clear n0_))
  go_ret
  exact ⟨rfl, (by repeat (first | (with_reducible first | exact HB.out | apply below_alloc | apply pw_below_drewN | apply below_drew1) | exact HB.out))⟩
theorem sfc_sameStep.mono : ∀ x y k, LeO (sfc_sameStep.f k x y) (sfc_sameStep.f (k + 1) x y) := by
 intro x y k
 unfold sfc_sameStep.f
 repeat' first
  | exact api_Link.mono _ _ _
  | exact LeO.refl _
  | refine LeO.ite ?_ ?_
  | refine LeO.bind ?_ (fun _ => ?_)
def api_Step.f (k : Nat) (l0 l1 : List S58) : Option Bool := if l0.length = l1.length then eqGo (sfc_sameStep.f k) l0 l1 else some false
theorem api_Step.mono : ∀ a b k, LeO (api_Step.f k a b) (api_Step.f (k + 1) a b) := fun a b k => LeO.ite (eqGo_le (fun x y => sfc_sameStep.mono x y k) a b) (LeO.refl _)
set_option maxHeartbeats 4000000 in
set_option maxRecDepth 100000 in
theorem api_Step.calls  (k : Nat) (A0 : Option Addr) (c0 : Nat) (l0 : List (S58)) (A1 : Option Addr) (c1 : Nat) (l1 : List (S58)) (r : Bool) (w : World) (hr0 : Kd.C k58 w A0 l0.length l0) (hc0 : l0.length ≤ c0) (hr1 : Kd.C k58 w A1 l1.length l1) (hc1 : l1.length ≤ c1) (h : api_Step.f k l0 l1 = some r) :
  Calls Try.prog 33 #[.slice A0 l0.length c0, .slice A1 l1.length c1, .func (.func 34) #[] #[]] w fun e w' => e = .returned (.bool r) ∧ Below w.heap.size w w' := by
 have hu := Try.underlying58
 have HR0 := Aside0.mk hr0
 have HR1 := Aside0.mk hr1
 have HM := Aside0.mk (Kd.C_max hr0)
 clear hr0 hr1 hc0 hc1
 have HB := Aside0.mk (Below.refl w.heap.size w)
 unfold api_Step.f at h
 by_cases hl : l0.length = l1.length
 case neg =>
  rw [if_neg hl] at h
  obtain rfl := Option.some.inj h
  have hn : ¬ ((l0.length : Int) = (l1.length : Int)) := fun e => hl (by omega)
  have b0 : ((l0.length : Int) == (l1.length : Int)) = false := beq_eq_false_iff_ne.mpr hn
  have b1 : ((l0.length : Int) != (l1.length : Int)) = true := bne_iff_ne.mpr hn
  clear hn
  go_enter Try.func33, Try.ntmps33
  go_wp2
  go_ret
  exact ⟨rfl, HB.out⟩
 rw [if_pos hl] at h
 have HH := Aside0.mk h
 have HL := Aside0.mk hl
 have b0 : ((l0.length : Int) == (l1.length : Int)) = true := by rw [hl]; exact beq_self_eq_true _
 have b1 : ((l0.length : Int) != (l1.length : Int)) = false := by rw [hl]; exact bne_self_eq_false _
 clear h hl
 go_enter Try.func33, Try.ntmps33
 go_wp2
 clear b0 b1
 go_loopg [17] (l0.length + 1) (fun kq v17 w' => ∃ i : Int, v17 = .int .i64 i ∧ Aside0 (0 ≤ i ∧ i ≤ l0.length ∧ (kq : Int) = l0.length + 1 - i) ∧ Aside0 (eqGo (sfc_sameStep.f k) (l0.drop i.toNat) (l1.drop i.toNat) = some r) ∧ Aside0 (Below w.heap.size w w'))
 case atStart => exact ⟨0, rfl, ⟨by omega⟩, ⟨by simpa using HH.out⟩, ⟨HB.out⟩⟩
 case round =>
  clear HH HB
  obtain ⟨i, rfl, hi, HH, HB⟩ := hrel
  by_cases c2 : i < (l0.length : Int)
  case neg =>
   have c2b0 : decide (i < (l0.length : Int)) = false := decide_eq_false c2
   have hd : l0.drop i.toNat = [] := List.drop_eq_nil_of_le (by have := hi.out; omega)
   have hr := HH.out
   rw [hd, eqGo] at hr
   obtain rfl := Option.some.inj hr
   go_wp2
   go_ret
   exact ⟨rfl, HB.out⟩
  have c2b0 : decide (i < (l0.length : Int)) = true := decide_eq_true c2
  have h0 := hi.out.1
  have c3 : i < (l1.length : Int) := by have := HL.out; omega
  obtain ⟨aad, aA3, ac3, ae, ahr, ahl0, ahc0⟩ := el_T58 HR0.out i h0 c2
  cases ae
  obtain ⟨bad, bA3, bc3, be, bhr, bhl0, bhc0⟩ := el_T58 HR1.out i h0 c3
  cases be
  have p0 := eq_true h0
  have p1 := eq_true c2
  have q1 := eq_true c3
  have C2 := Aside0.mk c2
  have C3 := Aside0.mk c3
  clear h0 c2 c3
  go_upto_region 6 with (first | ((with_reducible refine gate_dst (N := 21) rfl ?_); refine load_in (N := 21) (t := 58) rfl rfl rfl rfl (spread_below HB.out ahr) Try.underlying58 rfl rfl (by kernel_rfl) ?_) | ((with_reducible refine gate_dst (N := 8) rfl ?_); refine box_event ?hg (N := 8) ?hd (cs := #[.int .i64 0, .string (⟨#[]⟩ : ByteArray), .bool false, .slice none 0 0]) (t := 58) ?hr ?_; (case hd => rfl); (case hg => rfl); (case hr => first | (go_simp; done) | (go_simp; rfl)); intro g8 hg w8 hbox hb; have n0_ := Aside0.mk (below_step (by repeat (first | (with_reducible first | exact HB.out | apply below_alloc | apply pw_below_drewN | apply below_drew1) | exact HB.out)) hb); have G8 := Aside0.mk ((by rw [hg]; exact below_size (by repeat (first | (with_reducible first | exact HB.out | apply below_alloc | apply pw_below_drewN | apply below_drew1) | exact HB.out))) : w.heap.size ≤ g8); have B8 := Aside0.mk hbox; clear HB; have HB := n0_; clear n0_ hb hbox hg) | ((with_reducible refine gate_store (t := 58) (p := 8) rfl ?_); refine store_in (w0 := w) (u := .agg #[.int .i64 (rd_T58 l0 i).f0, .string (rd_T58 l0 i).f1, .bool (rd_T58 l0 i).f2, .slice aA3 (rd_T58 l0 i).f3.length ac3]) rfl rfl rfl rfl rfl rfl rfl (by kernel_rfl) rfl B8.out rfl HB.out G8.out ?_; intro W8 b1 hb1 hk1; clear B8 HB hk1; have B8 := Aside0.mk b1; have HB := Aside0.mk hb1; clear b1 hb1))
  go_upto_region 7 with (first | ((with_reducible refine gate_dst (N := 25) rfl ?_); refine load_in (N := 25) (t := 58) rfl rfl rfl rfl (spread_below HB.out bhr) Try.underlying58 rfl rfl (by kernel_rfl) ?_) | ((with_reducible refine gate_dst (N := 9) rfl ?_); refine box_event ?hg (N := 9) ?hd (cs := #[.int .i64 0, .string (⟨#[]⟩ : ByteArray), .bool false, .slice none 0 0]) (t := 58) ?hr ?_; (case hd => rfl); (case hg => rfl); (case hr => first | (go_simp; done) | (go_simp; rfl)); intro g9 hg w9 hbox hb; have n0_ := Aside0.mk (below_step (by repeat (first | (with_reducible first | exact HB.out | apply below_alloc | apply pw_below_drewN | apply below_drew1) | exact HB.out)) hb); have n1_ := Aside0.mk (blk_below B8.out hb); have NE8_9 := Aside0.mk ((by rw [hg]; exact Nat.ne_of_lt (blk_lt B8.out)) : g8 ≠ g9); clear B8; have B8 := n1_; clear n1_; have G9 := Aside0.mk ((by rw [hg]; exact below_size (by repeat (first | (with_reducible first | exact HB.out | apply below_alloc | apply pw_below_drewN | apply below_drew1) | exact HB.out))) : w.heap.size ≤ g9); have B9 := Aside0.mk hbox; clear HB; have HB := n0_; clear n0_ hb hbox hg) | ((with_reducible refine gate_store (t := 58) (p := 9) rfl ?_); refine store_in (w0 := w) (u := .agg #[.int .i64 (rd_T58 l1 i).f0, .string (rd_T58 l1 i).f1, .bool (rd_T58 l1 i).f2, .slice bA3 (rd_T58 l1 i).f3.length bc3]) rfl rfl rfl rfl rfl rfl rfl (by kernel_rfl) rfl B9.out rfl HB.out G9.out ?_; intro W9 b1 hb1 hk1; have n1_ := Aside0.mk (hk1 _ _ _ B8.out NE8_9.out); clear B8; have B8 := n1_; clear n1_; clear B9 HB hk1; have B9 := Aside0.mk b1; have HB := Aside0.mk hb1; clear b1 hb1))
  clear ahr bhr p0 p1 q1
  have hr := HH.out
  rw [drop_rd z58 hi.out.1 C2.out, drop_rd z58 hi.out.1 C3.out, eqGo] at hr
  obtain ⟨u, hu_, hr⟩ := Option.bind_eq_some_iff.mp hr
  have AU := Aside0.mk (show sfc_sameStep.f k (rd_T58 l0 i) (rd_T58 l1 i) = some u from hu_)
  clear HH hu_
  have HH := Aside0.mk hr
  clear hr
  have hr := HH.out
  cases u with
  | false =>
   rw [if_neg Bool.false_ne_true] at hr
   obtain rfl := Option.some.inj hr
   clear hr HH
   go_wp2_with (first | ((with_reducible refine gate_dst (N := 27) rfl ?_); refine load_in (N := 27) (t := 58) (cs := [.int .i64 (rd_T58 l0 i).f0, .string (rd_T58 l0 i).f1, .bool (rd_T58 l0 i).f2, .slice aA3 (rd_T58 l0 i).f3.length ac3]) rfl rfl rfl rfl (spread_blk B8.out) Try.underlying58 rfl rfl (by kernel_rfl) ?_) | ((with_reducible refine gate_dst (N := 28) rfl ?_); refine load_in (N := 28) (t := 58) (cs := [.int .i64 (rd_T58 l1 i).f0, .string (rd_T58 l1 i).f1, .bool (rd_T58 l1 i).f2, .slice bA3 (rd_T58 l1 i).f3.length bc3]) rfl rfl rfl rfl (spread_blk B9.out) Try.underlying58 rfl rfl (by kernel_rfl) ?_) | ((with_reducible refine gate_valued (N := 26) rfl ?_); refine goesV_ (x := .tmp 26) (by first | rfl | (simp [Act.eval]; done)) (some 29) rfl rfl Try.func34 (by kernel_rfl) rfl #[.agg #[.int .i64 (rd_T58 l0 i).f0, .string (rd_T58 l0 i).f1, .bool (rd_T58 l0 i).f2, .slice aA3 (rd_T58 l0 i).f3.length ac3], .agg #[.int .i64 (rd_T58 l1 i).f0, .string (rd_T58 l1 i).f1, .bool (rd_T58 l1 i).f2, .slice bA3 (rd_T58 l1 i).f3.length bc3]] rfl (by (try simp only [List.map_toArray, List.map_cons, List.map_nil]); first | done | rfl) ?_; refine (sfc_sameStep.calls k (rd_T58 l0 i) (rd_T58 l1 i) _ _ _ _ _ _ (Kd.C_below ahc0 HB.out) ahl0 (Kd.C_below bhc0 HB.out) bhl0 AU.out).mono ?_; rintro e w' ⟨rfl, hb⟩; refine ⟨_, rfl, ?_⟩; have n0_ := Aside0.mk (below_step HB.out hb); clear HB hb; have HB := n0_; clear n0_))
   go_ret
   exact ⟨rfl, HB.out⟩
  | true =>
   rw [if_pos rfl] at hr
   clear HH
   have HH := Aside0.mk hr
   clear hr
   go_wp2_with (first | ((with_reducible refine gate_dst (N := 27) rfl ?_); refine load_in (N := 27) (t := 58) (cs := [.int .i64 (rd_T58 l0 i).f0, .string (rd_T58 l0 i).f1, .bool (rd_T58 l0 i).f2, .slice aA3 (rd_T58 l0 i).f3.length ac3]) rfl rfl rfl rfl (spread_blk B8.out) Try.underlying58 rfl rfl (by kernel_rfl) ?_) | ((with_reducible refine gate_dst (N := 28) rfl ?_); refine load_in (N := 28) (t := 58) (cs := [.int .i64 (rd_T58 l1 i).f0, .string (rd_T58 l1 i).f1, .bool (rd_T58 l1 i).f2, .slice bA3 (rd_T58 l1 i).f3.length bc3]) rfl rfl rfl rfl (spread_blk B9.out) Try.underlying58 rfl rfl (by kernel_rfl) ?_) | ((with_reducible refine gate_valued (N := 26) rfl ?_); refine goesV_ (x := .tmp 26) (by first | rfl | (simp [Act.eval]; done)) (some 29) rfl rfl Try.func34 (by kernel_rfl) rfl #[.agg #[.int .i64 (rd_T58 l0 i).f0, .string (rd_T58 l0 i).f1, .bool (rd_T58 l0 i).f2, .slice aA3 (rd_T58 l0 i).f3.length ac3], .agg #[.int .i64 (rd_T58 l1 i).f0, .string (rd_T58 l1 i).f1, .bool (rd_T58 l1 i).f2, .slice bA3 (rd_T58 l1 i).f3.length bc3]] rfl (by (try simp only [List.map_toArray, List.map_cons, List.map_nil]); first | done | rfl) ?_; refine (sfc_sameStep.calls k (rd_T58 l0 i) (rd_T58 l1 i) _ _ _ _ _ _ (Kd.C_below ahc0 HB.out) ahl0 (Kd.C_below bhc0 HB.out) bhl0 AU.out).mono ?_; rintro e w' ⟨rfl, hb⟩; refine ⟨_, rfl, ?_⟩; have n0_ := Aside0.mk (below_step HB.out hb); clear HB hb; have HB := n0_; clear n0_))
   have hw : wrap64 (i + 1) = i + 1 := by
    have := HM.out
    have := hi.out
    have := C2.out
    unfold wrap64
    omega
   have h1 := hi.out
   have h2 := C2.out
   go_roundg (gk - 1)
   case measure => omega
   case rel => exact ⟨i + 1, by rw [hw], ⟨by omega⟩, ⟨HH.out⟩, ⟨HB.out⟩⟩
theorem sfc_sameTrans.mono : ∀ x y k, LeO (sfc_sameTrans.f k x y) (sfc_sameTrans.f (k + 1) x y) := by
 intro x y k
 unfold sfc_sameTrans.f
 repeat' first
  | exact slices_Equal_string_string.mono _ _ _
  | exact st_Same.mono _ _ _
  | exact LeO.refl _
  | refine LeO.ite ?_ ?_
  | refine LeO.bind ?_ (fun _ => ?_)
def api_Trans.f (k : Nat) (l0 l1 : List S67) : Option Bool := if l0.length = l1.length then eqGo (sfc_sameTrans.f k) l0 l1 else some false
theorem api_Trans.mono : ∀ a b k, LeO (api_Trans.f k a b) (api_Trans.f (k + 1) a b) := fun a b k => LeO.ite (eqGo_le (fun x y => sfc_sameTrans.mono x y k) a b) (LeO.refl _)
set_option maxHeartbeats 4000000 in
set_option maxRecDepth 100000 in
theorem api_Trans.calls  (k : Nat) (A0 : Option Addr) (c0 : Nat) (l0 : List (S67)) (A1 : Option Addr) (c1 : Nat) (l1 : List (S67)) (r : Bool) (w : World) (hr0 : Kd.C k67 w A0 l0.length l0) (hc0 : l0.length ≤ c0) (hr1 : Kd.C k67 w A1 l1.length l1) (hc1 : l1.length ≤ c1) (h : api_Trans.f k l0 l1 = some r) :
  Calls Try.prog 35 #[.slice A0 l0.length c0, .slice A1 l1.length c1, .func (.func 36) #[] #[]] w fun e w' => e = .returned (.bool r) ∧ Below w.heap.size w w' := by
 have hu := Try.underlying67
 have HR0 := Aside0.mk hr0
 have HR1 := Aside0.mk hr1
 have HM := Aside0.mk (Kd.C_max hr0)
 clear hr0 hr1 hc0 hc1
 have HB := Aside0.mk (Below.refl w.heap.size w)
 unfold api_Trans.f at h
 by_cases hl : l0.length = l1.length
 case neg =>
  rw [if_neg hl] at h
  obtain rfl := Option.some.inj h
  have hn : ¬ ((l0.length : Int) = (l1.length : Int)) := fun e => hl (by omega)
  have b0 : ((l0.length : Int) == (l1.length : Int)) = false := beq_eq_false_iff_ne.mpr hn
  have b1 : ((l0.length : Int) != (l1.length : Int)) = true := bne_iff_ne.mpr hn
  clear hn
  go_enter Try.func35, Try.ntmps35
  go_wp2
  go_ret
  exact ⟨rfl, HB.out⟩
 rw [if_pos hl] at h
 have HH := Aside0.mk h
 have HL := Aside0.mk hl
 have b0 : ((l0.length : Int) == (l1.length : Int)) = true := by rw [hl]; exact beq_self_eq_true _
 have b1 : ((l0.length : Int) != (l1.length : Int)) = false := by rw [hl]; exact bne_self_eq_false _
 clear h hl
 go_enter Try.func35, Try.ntmps35
 go_wp2
 clear b0 b1
 go_loopg [17] (l0.length + 1) (fun kq v17 w' => ∃ i : Int, v17 = .int .i64 i ∧ Aside0 (0 ≤ i ∧ i ≤ l0.length ∧ (kq : Int) = l0.length + 1 - i) ∧ Aside0 (eqGo (sfc_sameTrans.f k) (l0.drop i.toNat) (l1.drop i.toNat) = some r) ∧ Aside0 (Below w.heap.size w w'))
 case atStart => exact ⟨0, rfl, ⟨by omega⟩, ⟨by simpa using HH.out⟩, ⟨HB.out⟩⟩
 case round =>
  clear HH HB
  obtain ⟨i, rfl, hi, HH, HB⟩ := hrel
  by_cases c2 : i < (l0.length : Int)
  case neg =>
   have c2b0 : decide (i < (l0.length : Int)) = false := decide_eq_false c2
   have hd : l0.drop i.toNat = [] := List.drop_eq_nil_of_le (by have := hi.out; omega)
   have hr := HH.out
   rw [hd, eqGo] at hr
   obtain rfl := Option.some.inj hr
   go_wp2
   go_ret
   exact ⟨rfl, HB.out⟩
  have c2b0 : decide (i < (l0.length : Int)) = true := decide_eq_true c2
  have h0 := hi.out.1
  have c3 : i < (l1.length : Int) := by have := HL.out; omega
  obtain ⟨aad, aA2, ac2, aA3, ac3, aA11, ac11, aA12, ac12, ae, ahr, ahl0, ahc0, ahl1, ahc1, ahl2, ahc2, ahl3, ahc3⟩ := el_T67 HR0.out i h0 c2
  cases ae
  obtain ⟨bad, bA2, bc2, bA3, bc3, bA11, bc11, bA12, bc12, be, bhr, bhl0, bhc0, bhl1, bhc1, bhl2, bhc2, bhl3, bhc3⟩ := el_T67 HR1.out i h0 c3
  cases be
  have p0 := eq_true h0
  have p1 := eq_true c2
  have q1 := eq_true c3
  have C2 := Aside0.mk c2
  have C3 := Aside0.mk c3
  clear h0 c2 c3
  go_upto_region 6 with (first | ((with_reducible refine gate_dst (N := 21) rfl ?_); refine load_in (N := 21) (t := 67) rfl rfl rfl rfl (spread_below HB.out ahr) Try.underlying67 rfl rfl (by kernel_rfl) ?_) | ((with_reducible refine gate_dst (N := 8) rfl ?_); refine box_event ?hg (N := 8) ?hd (cs := #[.int .i64 0, .string (⟨#[]⟩ : ByteArray), .slice none 0 0, .slice none 0 0, .int .i64 0, .int .i64 0, .string (⟨#[]⟩ : ByteArray), .string (⟨#[]⟩ : ByteArray), .int .u8 0, .int .u64 0, .string (⟨#[]⟩ : ByteArray), .slice none 0 0, .slice none 0 0, .int .u8 0, .int .i64 0, .int .i64 0, .int .i64 0, .int .i64 0]) (t := 67) ?hr ?_; (case hd => rfl); (case hg => rfl); (case hr => first | (go_simp; done) | (go_simp; rfl)); intro g8 hg w8 hbox hb; have n0_ := Aside0.mk (below_step (by repeat (first | (with_reducible first | exact HB.out | apply below_alloc | apply pw_below_drewN | apply below_drew1) | exact HB.out)) hb); have G8 := Aside0.mk ((by rw [hg]; exact below_size (by repeat (first | (with_reducible first | exact HB.out | apply below_alloc | apply pw_below_drewN | apply below_drew1) | exact HB.out))) : w.heap.size ≤ g8); have B8 := Aside0.mk hbox; clear HB; have HB := n0_; clear n0_ hb hbox hg) | ((with_reducible refine gate_store (t := 67) (p := 8) rfl ?_); refine store_in (w0 := w) (u := .agg #[.int .i64 (rd_T67 l0 i).f0, .string (rd_T67 l0 i).f1, .slice aA2 (rd_T67 l0 i).f2.length ac2, .slice aA3 (rd_T67 l0 i).f3.length ac3, .int .i64 (rd_T67 l0 i).f4.f0, .int .i64 (rd_T67 l0 i).f4.f1, .string (rd_T67 l0 i).f4.f2, .string (rd_T67 l0 i).f4.f3, .int .u8 (rd_T67 l0 i).f4.f4.f0, .int .u64 (rd_T67 l0 i).f4.f4.f1, .string (rd_T67 l0 i).f4.f4.f2, .slice aA11 (rd_T67 l0 i).f4.f5.length ac11, .slice aA12 (rd_T67 l0 i).f4.f6.length ac12, .int .u8 (rd_T67 l0 i).f4.f7, .int .i64 (rd_T67 l0 i).f4.f8, .int .i64 (rd_T67 l0 i).f4.f9, .int .i64 (rd_T67 l0 i).f4.f10, .int .i64 (rd_T67 l0 i).f4.f11]) rfl rfl rfl rfl rfl rfl rfl (by kernel_rfl) rfl B8.out rfl HB.out G8.out ?_; intro W8 b1 hb1 hk1; clear B8 HB hk1; have B8 := Aside0.mk b1; have HB := Aside0.mk hb1; clear b1 hb1))
  go_upto_region 7 with (first | ((with_reducible refine gate_dst (N := 25) rfl ?_); refine load_in (N := 25) (t := 67) rfl rfl rfl rfl (spread_below HB.out bhr) Try.underlying67 rfl rfl (by kernel_rfl) ?_) | ((with_reducible refine gate_dst (N := 9) rfl ?_); refine box_event ?hg (N := 9) ?hd (cs := #[.int .i64 0, .string (⟨#[]⟩ : ByteArray), .slice none 0 0, .slice none 0 0, .int .i64 0, .int .i64 0, .string (⟨#[]⟩ : ByteArray), .string (⟨#[]⟩ : ByteArray), .int .u8 0, .int .u64 0, .string (⟨#[]⟩ : ByteArray), .slice none 0 0, .slice none 0 0, .int .u8 0, .int .i64 0, .int .i64 0, .int .i64 0, .int .i64 0]) (t := 67) ?hr ?_; (case hd => rfl); (case hg => rfl); (case hr => first | (go_simp; done) | (go_simp; rfl)); intro g9 hg w9 hbox hb; have n0_ := Aside0.mk (below_step (by repeat (first | (with_reducible first | exact HB.out | apply below_alloc | apply pw_below_drewN | apply below_drew1) | exact HB.out)) hb); have n1_ := Aside0.mk (blk_below B8.out hb); have NE8_9 := Aside0.mk ((by rw [hg]; exact Nat.ne_of_lt (blk_lt B8.out)) : g8 ≠ g9); clear B8; have B8 := n1_; clear n1_; have G9 := Aside0.mk ((by rw [hg]; exact below_size (by repeat (first | (with_reducible first | exact HB.out | apply below_alloc | apply pw_below_drewN | apply below_drew1) | exact HB.out))) : w.heap.size ≤ g9); have B9 := Aside0.mk hbox; clear HB; have HB := n0_; clear n0_ hb hbox hg) | ((with_reducible refine gate_store (t := 67) (p := 9) rfl ?_); refine store_in (w0 := w) (u := .agg #[.int .i64 (rd_T67 l1 i).f0, .string (rd_T67 l1 i).f1, .slice bA2 (rd_T67 l1 i).f2.length bc2, .slice bA3 (rd_T67 l1 i).f3.length bc3, .int .i64 (rd_T67 l1 i).f4.f0, .int .i64 (rd_T67 l1 i).f4.f1, .string (rd_T67 l1 i).f4.f2, .string (rd_T67 l1 i).f4.f3, .int .u8 (rd_T67 l1 i).f4.f4.f0, .int .u64 (rd_T67 l1 i).f4.f4.f1, .string (rd_T67 l1 i).f4.f4.f2, .slice bA11 (rd_T67 l1 i).f4.f5.length bc11, .slice bA12 (rd_T67 l1 i).f4.f6.length bc12, .int .u8 (rd_T67 l1 i).f4.f7, .int .i64 (rd_T67 l1 i).f4.f8, .int .i64 (rd_T67 l1 i).f4.f9, .int .i64 (rd_T67 l1 i).f4.f10, .int .i64 (rd_T67 l1 i).f4.f11]) rfl rfl rfl rfl rfl rfl rfl (by kernel_rfl) rfl B9.out rfl HB.out G9.out ?_; intro W9 b1 hb1 hk1; have n1_ := Aside0.mk (hk1 _ _ _ B8.out NE8_9.out); clear B8; have B8 := n1_; clear n1_; clear B9 HB hk1; have B9 := Aside0.mk b1; have HB := Aside0.mk hb1; clear b1 hb1))
  clear ahr bhr p0 p1 q1
  have hr := HH.out
  rw [drop_rd z67 hi.out.1 C2.out, drop_rd z67 hi.out.1 C3.out, eqGo] at hr
  obtain ⟨u, hu_, hr⟩ := Option.bind_eq_some_iff.mp hr
  have AU := Aside0.mk (show sfc_sameTrans.f k (rd_T67 l0 i) (rd_T67 l1 i) = some u from hu_)
  clear HH hu_
  have HH := Aside0.mk hr
  clear hr
  have hr := HH.out
  cases u with
  | false =>
   rw [if_neg Bool.false_ne_true] at hr
   obtain rfl := Option.some.inj hr
   clear hr HH
   go_wp2_with (first | ((with_reducible refine gate_dst (N := 27) rfl ?_); refine load_in (N := 27) (t := 67) (cs := [.int .i64 (rd_T67 l0 i).f0, .string (rd_T67 l0 i).f1, .slice aA2 (rd_T67 l0 i).f2.length ac2, .slice aA3 (rd_T67 l0 i).f3.length ac3, .int .i64 (rd_T67 l0 i).f4.f0, .int .i64 (rd_T67 l0 i).f4.f1, .string (rd_T67 l0 i).f4.f2, .string (rd_T67 l0 i).f4.f3, .int .u8 (rd_T67 l0 i).f4.f4.f0, .int .u64 (rd_T67 l0 i).f4.f4.f1, .string (rd_T67 l0 i).f4.f4.f2, .slice aA11 (rd_T67 l0 i).f4.f5.length ac11, .slice aA12 (rd_T67 l0 i).f4.f6.length ac12, .int .u8 (rd_T67 l0 i).f4.f7, .int .i64 (rd_T67 l0 i).f4.f8, .int .i64 (rd_T67 l0 i).f4.f9, .int .i64 (rd_T67 l0 i).f4.f10, .int .i64 (rd_T67 l0 i).f4.f11]) rfl rfl rfl rfl (spread_blk B8.out) Try.underlying67 rfl rfl (by kernel_rfl) ?_) | ((with_reducible refine gate_dst (N := 28) rfl ?_); refine load_in (N := 28) (t := 67) (cs := [.int .i64 (rd_T67 l1 i).f0, .string (rd_T67 l1 i).f1, .slice bA2 (rd_T67 l1 i).f2.length bc2, .slice bA3 (rd_T67 l1 i).f3.length bc3, .int .i64 (rd_T67 l1 i).f4.f0, .int .i64 (rd_T67 l1 i).f4.f1, .string (rd_T67 l1 i).f4.f2, .string (rd_T67 l1 i).f4.f3, .int .u8 (rd_T67 l1 i).f4.f4.f0, .int .u64 (rd_T67 l1 i).f4.f4.f1, .string (rd_T67 l1 i).f4.f4.f2, .slice bA11 (rd_T67 l1 i).f4.f5.length bc11, .slice bA12 (rd_T67 l1 i).f4.f6.length bc12, .int .u8 (rd_T67 l1 i).f4.f7, .int .i64 (rd_T67 l1 i).f4.f8, .int .i64 (rd_T67 l1 i).f4.f9, .int .i64 (rd_T67 l1 i).f4.f10, .int .i64 (rd_T67 l1 i).f4.f11]) rfl rfl rfl rfl (spread_blk B9.out) Try.underlying67 rfl rfl (by kernel_rfl) ?_) | ((with_reducible refine gate_valued (N := 26) rfl ?_); refine goesV_ (x := .tmp 26) (by first | rfl | (simp [Act.eval]; done)) (some 29) rfl rfl Try.func36 (by kernel_rfl) rfl #[.agg #[.int .i64 (rd_T67 l0 i).f0, .string (rd_T67 l0 i).f1, .slice aA2 (rd_T67 l0 i).f2.length ac2, .slice aA3 (rd_T67 l0 i).f3.length ac3, .int .i64 (rd_T67 l0 i).f4.f0, .int .i64 (rd_T67 l0 i).f4.f1, .string (rd_T67 l0 i).f4.f2, .string (rd_T67 l0 i).f4.f3, .int .u8 (rd_T67 l0 i).f4.f4.f0, .int .u64 (rd_T67 l0 i).f4.f4.f1, .string (rd_T67 l0 i).f4.f4.f2, .slice aA11 (rd_T67 l0 i).f4.f5.length ac11, .slice aA12 (rd_T67 l0 i).f4.f6.length ac12, .int .u8 (rd_T67 l0 i).f4.f7, .int .i64 (rd_T67 l0 i).f4.f8, .int .i64 (rd_T67 l0 i).f4.f9, .int .i64 (rd_T67 l0 i).f4.f10, .int .i64 (rd_T67 l0 i).f4.f11], .agg #[.int .i64 (rd_T67 l1 i).f0, .string (rd_T67 l1 i).f1, .slice bA2 (rd_T67 l1 i).f2.length bc2, .slice bA3 (rd_T67 l1 i).f3.length bc3, .int .i64 (rd_T67 l1 i).f4.f0, .int .i64 (rd_T67 l1 i).f4.f1, .string (rd_T67 l1 i).f4.f2, .string (rd_T67 l1 i).f4.f3, .int .u8 (rd_T67 l1 i).f4.f4.f0, .int .u64 (rd_T67 l1 i).f4.f4.f1, .string (rd_T67 l1 i).f4.f4.f2, .slice bA11 (rd_T67 l1 i).f4.f5.length bc11, .slice bA12 (rd_T67 l1 i).f4.f6.length bc12, .int .u8 (rd_T67 l1 i).f4.f7, .int .i64 (rd_T67 l1 i).f4.f8, .int .i64 (rd_T67 l1 i).f4.f9, .int .i64 (rd_T67 l1 i).f4.f10, .int .i64 (rd_T67 l1 i).f4.f11]] rfl (by (try simp only [List.map_toArray, List.map_cons, List.map_nil]); first | done | rfl) ?_; refine (sfc_sameTrans.calls k (rd_T67 l0 i) (rd_T67 l1 i) _ _ _ _ _ _ _ _ _ _ _ _ _ _ _ _ _ _ (Kd.C_below ahc0 HB.out) ahl0 (Kd.C_below ahc1 HB.out) ahl1 (Kd.C_below ahc2 HB.out) ahl2 (Kd.C_below ahc3 HB.out) ahl3 (Kd.C_below bhc0 HB.out) bhl0 (Kd.C_below bhc1 HB.out) bhl1 (Kd.C_below bhc2 HB.out) bhl2 (Kd.C_below bhc3 HB.out) bhl3 AU.out).mono ?_; rintro e w' ⟨rfl, hb⟩; refine ⟨_, rfl, ?_⟩; have n0_ := Aside0.mk (below_step HB.out hb); clear HB hb; have HB := n0_; clear n0_))
   go_ret
   exact ⟨rfl, HB.out⟩
  | true =>
   rw [if_pos rfl] at hr
   clear HH
   have HH := Aside0.mk hr
   clear hr
   go_wp2_with (first | ((with_reducible refine gate_dst (N := 27) rfl ?_); refine load_in (N := 27) (t := 67) (cs := [.int .i64 (rd_T67 l0 i).f0, .string (rd_T67 l0 i).f1, .slice aA2 (rd_T67 l0 i).f2.length ac2, .slice aA3 (rd_T67 l0 i).f3.length ac3, .int .i64 (rd_T67 l0 i).f4.f0, .int .i64 (rd_T67 l0 i).f4.f1, .string (rd_T67 l0 i).f4.f2, .string (rd_T67 l0 i).f4.f3, .int .u8 (rd_T67 l0 i).f4.f4.f0, .int .u64 (rd_T67 l0 i).f4.f4.f1, .string (rd_T67 l0 i).f4.f4.f2, .slice aA11 (rd_T67 l0 i).f4.f5.length ac11, .slice aA12 (rd_T67 l0 i).f4.f6.length ac12, .int .u8 (rd_T67 l0 i).f4.f7, .int .i64 (rd_T67 l0 i).f4.f8, .int .i64 (rd_T67 l0 i).f4.f9, .int .i64 (rd_T67 l0 i).f4.f10, .int .i64 (rd_T67 l0 i).f4.f11]) rfl rfl rfl rfl (spread_blk B8.out) Try.underlying67 rfl rfl (by kernel_rfl) ?_) | ((with_reducible refine gate_dst (N := 28) rfl ?_); refine load_in (N := 28) (t := 67) (cs := [.int .i64 (rd_T67 l1 i).f0, .string (rd_T67 l1 i).f1, .slice bA2 (rd_T67 l1 i).f2.length bc2, .slice bA3 (rd_T67 l1 i).f3.length bc3, .int .i64 (rd_T67 l1 i).f4.f0, .int .i64 (rd_T67 l1 i).f4.f1, .string (rd_T67 l1 i).f4.f2, .string (rd_T67 l1 i).f4.f3, .int .u8 (rd_T67 l1 i).f4.f4.f0, .int .u64 (rd_T67 l1 i).f4.f4.f1, .string (rd_T67 l1 i).f4.f4.f2, .slice bA11 (rd_T67 l1 i).f4.f5.length bc11, .slice bA12 (rd_T67 l1 i).f4.f6.length bc12, .int .u8 (rd_T67 l1 i).f4.f7, .int .i64 (rd_T67 l1 i).f4.f8, .int .i64 (rd_T67 l1 i).f4.f9, .int .i64 (rd_T67 l1 i).f4.f10, .int .i64 (rd_T67 l1 i).f4.f11]) rfl rfl rfl rfl (spread_blk B9.out) Try.underlying67 rfl rfl (by kernel_rfl) ?_) | ((with_reducible refine gate_valued (N := 26) rfl ?_); refine goesV_ (x := .tmp 26) (by first | rfl | (simp [Act.eval]; done)) (some 29) rfl rfl Try.func36 (by kernel_rfl) rfl #[.agg #[.int .i64 (rd_T67 l0 i).f0, .string (rd_T67 l0 i).f1, .slice aA2 (rd_T67 l0 i).f2.length ac2, .slice aA3 (rd_T67 l0 i).f3.length ac3, .int .i64 (rd_T67 l0 i).f4.f0, .int .i64 (rd_T67 l0 i).f4.f1, .string (rd_T67 l0 i).f4.f2, .string (rd_T67 l0 i).f4.f3, .int .u8 (rd_T67 l0 i).f4.f4.f0, .int .u64 (rd_T67 l0 i).f4.f4.f1, .string (rd_T67 l0 i).f4.f4.f2, .slice aA11 (rd_T67 l0 i).f4.f5.length ac11, .slice aA12 (rd_T67 l0 i).f4.f6.length ac12, .int .u8 (rd_T67 l0 i).f4.f7, .int .i64 (rd_T67 l0 i).f4.f8, .int .i64 (rd_T67 l0 i).f4.f9, .int .i64 (rd_T67 l0 i).f4.f10, .int .i64 (rd_T67 l0 i).f4.f11], .agg #[.int .i64 (rd_T67 l1 i).f0, .string (rd_T67 l1 i).f1, .slice bA2 (rd_T67 l1 i).f2.length bc2, .slice bA3 (rd_T67 l1 i).f3.length bc3, .int .i64 (rd_T67 l1 i).f4.f0, .int .i64 (rd_T67 l1 i).f4.f1, .string (rd_T67 l1 i).f4.f2, .string (rd_T67 l1 i).f4.f3, .int .u8 (rd_T67 l1 i).f4.f4.f0, .int .u64 (rd_T67 l1 i).f4.f4.f1, .string (rd_T67 l1 i).f4.f4.f2, .slice bA11 (rd_T67 l1 i).f4.f5.length bc11, .slice bA12 (rd_T67 l1 i).f4.f6.length bc12, .int .u8 (rd_T67 l1 i).f4.f7, .int .i64 (rd_T67 l1 i).f4.f8, .int .i64 (rd_T67 l1 i).f4.f9, .int .i64 (rd_T67 l1 i).f4.f10, .int .i64 (rd_T67 l1 i).f4.f11]] rfl (by (try simp only [List.map_toArray, List.map_cons, List.map_nil]); first | done | rfl) ?_; refine (sfc_sameTrans.calls k (rd_T67 l0 i) (rd_T67 l1 i) _ _ _ _ _ _ _ _ _ _ _ _ _ _ _ _ _ _ (Kd.C_below ahc0 HB.out) ahl0 (Kd.C_below ahc1 HB.out) ahl1 (Kd.C_below ahc2 HB.out) ahl2 (Kd.C_below ahc3 HB.out) ahl3 (Kd.C_below bhc0 HB.out) bhl0 (Kd.C_below bhc1 HB.out) bhl1 (Kd.C_below bhc2 HB.out) bhl2 (Kd.C_below bhc3 HB.out) bhl3 AU.out).mono ?_; rintro e w' ⟨rfl, hb⟩; refine ⟨_, rfl, ?_⟩; have n0_ := Aside0.mk (below_step HB.out hb); clear HB hb; have HB := n0_; clear n0_))
   have hw : wrap64 (i + 1) = i + 1 := by
    have := HM.out
    have := hi.out
    have := C2.out
    unfold wrap64
    omega
   have h1 := hi.out
   have h2 := C2.out
   go_roundg (gk - 1)
   case measure => omega
   case rel => exact ⟨i + 1, by rw [hw], ⟨by omega⟩, ⟨HH.out⟩, ⟨HB.out⟩⟩
def sfc_sameAction.f (k : Nat) (x y : S70) : Option Bool := if x.f1.toList = y.f1.toList then ((st_Same.f k x.f2 y.f2).bind fun u1 => if u1 = true then (some true) else some false) else some false
set_option maxHeartbeats 4000000 in
set_option maxRecDepth 100000 in
theorem sfc_sameAction.calls (k : Nat) (x y : S70) (aA2 : Option Addr) (ac2 : Nat) (bA2 : Option Addr) (bc2 : Nat) (r : Bool) (w : World) (ahc0 : Kd.C k46 w aA2 x.f2.length x.f2) (ahl0 : x.f2.length ≤ ac2) (bhc0 : Kd.C k46 w bA2 y.f2.length y.f2) (bhl0 : y.f2.length ≤ bc2) (h : sfc_sameAction.f k x y = some r) :
  Calls Try.prog 38 #[.agg #[.int .i64 x.f0, .string x.f1, .slice aA2 x.f2.length ac2], .agg #[.int .i64 y.f0, .string y.f1, .slice bA2 y.f2.length bc2]] w fun e w' => e = .returned (.bool r) ∧ Below w.heap.size w w' := by
 have hu := Try.underlying70
 have HB := Aside0.mk (Below.refl w.heap.size w)
 unfold sfc_sameAction.f at h
 have HH := Aside0.mk h
 clear h
 go_enter Try.func38, Try.ntmps38
 go_upto_region 1 with (first | ((with_reducible refine gate_dst (N := 2) rfl ?_); refine box_event ?hg (N := 2) ?hd (cs := #[.int .i64 x.f0, .string x.f1, .slice aA2 x.f2.length ac2]) (t := 70) ?hr ?_; (case hd => rfl); (case hg => rfl); (case hr => first | (go_simp; done) | (go_simp; rfl)); intro g1 hg w1 hbox hb; have n0_ := Aside0.mk (below_step (by repeat (first | (with_reducible first | exact HB.out | apply below_alloc | apply pw_below_drewN | apply below_drew1) | exact HB.out)) hb); have G1 := Aside0.mk ((by rw [hg]; exact below_size (by repeat (first | (with_reducible first | exact HB.out | apply below_alloc | apply pw_below_drewN | apply below_drew1) | exact HB.out))) : w.heap.size ≤ g1); have B1 := Aside0.mk hbox; clear HB; have HB := n0_; clear n0_ hb hbox hg) | ((with_reducible refine gate_dst (N := 3) rfl ?_); refine box_event ?hg (N := 3) ?hd (cs := #[.int .i64 y.f0, .string y.f1, .slice bA2 y.f2.length bc2]) (t := 70) ?hr ?_; (case hd => rfl); (case hg => rfl); (case hr => first | (go_simp; done) | (go_simp; rfl)); intro g2 hg w2 hbox hb; have n0_ := Aside0.mk (below_step (by repeat (first | (with_reducible first | exact HB.out | apply below_alloc | apply pw_below_drewN | apply below_drew1) | exact HB.out)) hb); have n1_ := Aside0.mk (blk_below B1.out hb); have NE1_2 := Aside0.mk ((by rw [hg]; exact Nat.ne_of_lt (blk_lt B1.out)) : g1 ≠ g2); clear B1; have B1 := n1_; clear n1_; have G2 := Aside0.mk ((by rw [hg]; exact below_size (by repeat (first | (with_reducible first | exact HB.out | apply below_alloc | apply pw_below_drewN | apply below_drew1) | exact HB.out))) : w.heap.size ≤ g2); have B2 := Aside0.mk hbox; clear HB; have HB := n0_; clear n0_ hb hbox hg))
 obtain ⟨_, _, _, _, _, _⟩ := cells3 B1.out
 obtain ⟨_, _, _, _, _, _⟩ := cells3 B2.out
 clear B1 B2
 by_cases c0 : x.f1.toList = y.f1.toList
 case neg =>
  have d0_0 : (x.f1.toList == y.f1.toList) = false := beq_eq_false_iff_ne.mpr c0
  have d0_1 : (x.f1.toList != y.f1.toList) = true := bne_iff_ne.mpr c0
  have hr := HH.out
  rw [if_neg c0] at hr
  obtain rfl := Option.some.inj hr
  clear hr HH c0
  go_wp2
  go_ret
  exact ⟨rfl, (by repeat (first | (with_reducible first | exact HB.out | apply below_alloc | apply pw_below_drewN | apply below_drew1) | exact HB.out))⟩
 have d0_0 : (x.f1.toList == y.f1.toList) = true := beq_iff_eq.mpr c0
 have d0_1 : (x.f1.toList != y.f1.toList) = false := bne_eq_false_iff_eq.mpr c0
 have hr := HH.out
 rw [if_pos c0] at hr
 clear HH c0
 have HH := Aside0.mk hr
 clear hr
 obtain ⟨u1, hu1, hr⟩ := Option.bind_eq_some_iff.mp HH.out
 have A1 := Aside0.mk hu1
 clear HH hu1
 cases u1 with
 | false =>
  rw [if_neg Bool.false_ne_true] at hr
  obtain rfl := Option.some.inj hr
  clear hr
  go_wp2_with (first | (go_at_call 9; refine (st_Same.calls k _ _ x.f2 _ _ y.f2 _ _ (Kd.C_below ahc0 (by repeat (first | (with_reducible first | exact HB.out | apply below_alloc | apply pw_below_drewN | apply below_drew1) | exact HB.out))) ahl0 (Kd.C_below bhc0 (by repeat (first | (with_reducible first | exact HB.out | apply below_alloc | apply pw_below_drewN | apply below_drew1) | exact HB.out))) bhl0 A1.out).mono ?_; rintro e w' ⟨rfl, hb⟩; have n0_ := Aside0.mk (below_step (by repeat (first | (with_reducible first | exact HB.out | apply below_alloc | apply pw_below_drewN | apply below_drew1) | exact HB.out)) hb); clear HB hb; have HB := n0_; clear n0_))
  go_ret
  exact ⟨rfl, (by repeat (first | (with_reducible first | exact HB.out | apply below_alloc | apply pw_below_drewN | apply below_drew1) | exact HB.out))⟩
 | true =>
  rw [if_pos rfl] at hr
  have HH := Aside0.mk hr
  clear hr
  obtain rfl := Option.some.inj HH.out
  go_wp2_with (first | (go_at_call 9; refine (st_Same.calls k _ _ x.f2 _ _ y.f2 _ _ (Kd.C_below ahc0 (by repeat (first | (with_reducible first | exact HB.out | apply below_alloc | apply pw_below_drewN | apply below_drew1) | exact HB.out))) ahl0 (Kd.C_below bhc0 (by repeat (first | (with_reducible first | exact HB.out | apply below_alloc | apply pw_below_drewN | apply below_drew1) | exact HB.out))) bhl0 A1.out).mono ?_; rintro e w' ⟨rfl, hb⟩; have n0_ := Aside0.mk (below_step (by repeat (first | (with_reducible first | exact HB.out | apply below_alloc | apply pw_below_drewN | apply below_drew1) | exact HB.out)) hb); clear HB hb; have HB := n0_; clear n0_))
  go_ret
  exact ⟨rfl, (by repeat (first | (with_reducible first | exact HB.out | apply below_alloc | apply pw_below_drewN | apply below_drew1) | exact HB.out))⟩
theorem sfc_sameAction.mono : ∀ x y k, LeO (sfc_sameAction.f k x y) (sfc_sameAction.f (k + 1) x y) := by
 intro x y k
 unfold sfc_sameAction.f
 repeat' first
  | exact st_Same.mono _ _ _
  | exact LeO.refl _
  | refine LeO.ite ?_ ?_
  | refine LeO.bind ?_ (fun _ => ?_)
def api_Action.f (k : Nat) (l0 l1 : List S70) : Option Bool := if l0.length = l1.length then eqGo (sfc_sameAction.f k) l0 l1 else some false
theorem api_Action.mono : ∀ a b k, LeO (api_Action.f k a b) (api_Action.f (k + 1) a b) := fun a b k => LeO.ite (eqGo_le (fun x y => sfc_sameAction.mono x y k) a b) (LeO.refl _)
set_option maxHeartbeats 4000000 in
set_option maxRecDepth 100000 in
theorem api_Action.calls  (k : Nat) (A0 : Option Addr) (c0 : Nat) (l0 : List (S70)) (A1 : Option Addr) (c1 : Nat) (l1 : List (S70)) (r : Bool) (w : World) (hr0 : Kd.C k70 w A0 l0.length l0) (hc0 : l0.length ≤ c0) (hr1 : Kd.C k70 w A1 l1.length l1) (hc1 : l1.length ≤ c1) (h : api_Action.f k l0 l1 = some r) :
  Calls Try.prog 37 #[.slice A0 l0.length c0, .slice A1 l1.length c1, .func (.func 38) #[] #[]] w fun e w' => e = .returned (.bool r) ∧ Below w.heap.size w w' := by
 have hu := Try.underlying70
 have HR0 := Aside0.mk hr0
 have HR1 := Aside0.mk hr1
 have HM := Aside0.mk (Kd.C_max hr0)
 clear hr0 hr1 hc0 hc1
 have HB := Aside0.mk (Below.refl w.heap.size w)
 unfold api_Action.f at h
 by_cases hl : l0.length = l1.length
 case neg =>
  rw [if_neg hl] at h
  obtain rfl := Option.some.inj h
  have hn : ¬ ((l0.length : Int) = (l1.length : Int)) := fun e => hl (by omega)
  have b0 : ((l0.length : Int) == (l1.length : Int)) = false := beq_eq_false_iff_ne.mpr hn
  have b1 : ((l0.length : Int) != (l1.length : Int)) = true := bne_iff_ne.mpr hn
  clear hn
  go_enter Try.func37, Try.ntmps37
  go_wp2
  go_ret
  exact ⟨rfl, HB.out⟩
 rw [if_pos hl] at h
 have HH := Aside0.mk h
 have HL := Aside0.mk hl
 have b0 : ((l0.length : Int) == (l1.length : Int)) = true := by rw [hl]; exact beq_self_eq_true _
 have b1 : ((l0.length : Int) != (l1.length : Int)) = false := by rw [hl]; exact bne_self_eq_false _
 clear h hl
 go_enter Try.func37, Try.ntmps37
 go_wp2
 clear b0 b1
 go_loopg [17] (l0.length + 1) (fun kq v17 w' => ∃ i : Int, v17 = .int .i64 i ∧ Aside0 (0 ≤ i ∧ i ≤ l0.length ∧ (kq : Int) = l0.length + 1 - i) ∧ Aside0 (eqGo (sfc_sameAction.f k) (l0.drop i.toNat) (l1.drop i.toNat) = some r) ∧ Aside0 (Below w.heap.size w w'))
 case atStart => exact ⟨0, rfl, ⟨by omega⟩, ⟨by simpa using HH.out⟩, ⟨HB.out⟩⟩
 case round =>
  clear HH HB
  obtain ⟨i, rfl, hi, HH, HB⟩ := hrel
  by_cases c2 : i < (l0.length : Int)
  case neg =>
   have c2b0 : decide (i < (l0.length : Int)) = false := decide_eq_false c2
   have hd : l0.drop i.toNat = [] := List.drop_eq_nil_of_le (by have := hi.out; omega)
   have hr := HH.out
   rw [hd, eqGo] at hr
   obtain rfl := Option.some.inj hr
   go_wp2
   go_ret
   exact ⟨rfl, HB.out⟩
  have c2b0 : decide (i < (l0.length : Int)) = true := decide_eq_true c2
  have h0 := hi.out.1
  have c3 : i < (l1.length : Int) := by have := HL.out; omega
  obtain ⟨aad, aA2, ac2, ae, ahr, ahl0, ahc0⟩ := el_T70 HR0.out i h0 c2
  cases ae
  obtain ⟨bad, bA2, bc2, be, bhr, bhl0, bhc0⟩ := el_T70 HR1.out i h0 c3
  cases be
  have p0 := eq_true h0
  have p1 := eq_true c2
  have q1 := eq_true c3
  have C2 := Aside0.mk c2
  have C3 := Aside0.mk c3
  clear h0 c2 c3
  go_upto_region 6 with (first | ((with_reducible refine gate_dst (N := 21) rfl ?_); refine load_in (N := 21) (t := 70) rfl rfl rfl rfl (spread_below HB.out ahr) Try.underlying70 rfl rfl (by kernel_rfl) ?_) | ((with_reducible refine gate_dst (N := 8) rfl ?_); refine box_event ?hg (N := 8) ?hd (cs := #[.int .i64 0, .string (⟨#[]⟩ : ByteArray), .slice none 0 0]) (t := 70) ?hr ?_; (case hd => rfl); (case hg => rfl); (case hr => first | (go_simp; done) | (go_simp; rfl)); intro g8 hg w8 hbox hb; have n0_ := Aside0.mk (below_step (by repeat (first | (with_reducible first | exact HB.out | apply below_alloc | apply pw_below_drewN | apply below_drew1) | exact HB.out)) hb); have G8 := Aside0.mk ((by rw [hg]; exact below_size (by repeat (first | (with_reducible first | exact HB.out | apply below_alloc | apply pw_below_drewN | apply below_drew1) | exact HB.out))) : w.heap.size ≤ g8); have B8 := Aside0.mk hbox; clear HB; have HB := n0_; clear n0_ hb hbox hg) | ((with_reducible refine gate_store (t := 70) (p := 8) rfl ?_); refine store_in (w0 := w) (u := .agg #[.int .i64 (rd_T70 l0 i).f0, .string (rd_T70 l0 i).f1, .slice aA2 (rd_T70 l0 i).f2.length ac2]) rfl rfl rfl rfl rfl rfl rfl (by kernel_rfl) rfl B8.out rfl HB.out G8.out ?_; intro W8 b1 hb1 hk1; clear B8 HB hk1; have B8 := Aside0.mk b1; have HB := Aside0.mk hb1; clear b1 hb1))
  go_upto_region 7 with (first | ((with_reducible refine gate_dst (N := 25) rfl ?_); refine load_in (N := 25) (t := 70) rfl rfl rfl rfl (spread_below HB.out bhr) Try.underlying70 rfl rfl (by kernel_rfl) ?_) | ((with_reducible refine gate_dst (N := 9) rfl ?_); refine box_event ?hg (N := 9) ?hd (cs := #[.int .i64 0, .string (⟨#[]⟩ : ByteArray), .slice none 0 0]) (t := 70) ?hr ?_; (case hd => rfl); (case hg => rfl); (case hr => first | (go_simp; done) | (go_simp; rfl)); intro g9 hg w9 hbox hb; have n0_ := Aside0.mk (below_step (by repeat (first | (with_reducible first | exact HB.out | apply below_alloc | apply pw_below_drewN | apply below_drew1) | exact HB.out)) hb); have n1_ := Aside0.mk (blk_below B8.out hb); have NE8_9 := Aside0.mk ((by rw [hg]; exact Nat.ne_of_lt (blk_lt B8.out)) : g8 ≠ g9); clear B8; have B8 := n1_; clear n1_; have G9 := Aside0.mk ((by rw [hg]; exact below_size (by repeat (first | (with_reducible first | exact HB.out | apply below_alloc | apply pw_below_drewN | apply below_drew1) | exact HB.out))) : w.heap.size ≤ g9); have B9 := Aside0.mk hbox; clear HB; have HB := n0_; clear n0_ hb hbox hg) | ((with_reducible refine gate_store (t := 70) (p := 9) rfl ?_); refine store_in (w0 := w) (u := .agg #[.int .i64 (rd_T70 l1 i).f0, .string (rd_T70 l1 i).f1, .slice bA2 (rd_T70 l1 i).f2.length bc2]) rfl rfl rfl rfl rfl rfl rfl (by kernel_rfl) rfl B9.out rfl HB.out G9.out ?_; intro W9 b1 hb1 hk1; have n1_ := Aside0.mk (hk1 _ _ _ B8.out NE8_9.out); clear B8; have B8 := n1_; clear n1_; clear B9 HB hk1; have B9 := Aside0.mk b1; have HB := Aside0.mk hb1; clear b1 hb1))
  clear ahr bhr p0 p1 q1
  have hr := HH.out
  rw [drop_rd z70 hi.out.1 C2.out, drop_rd z70 hi.out.1 C3.out, eqGo] at hr
  obtain ⟨u, hu_, hr⟩ := Option.bind_eq_some_iff.mp hr
  have AU := Aside0.mk (show sfc_sameAction.f k (rd_T70 l0 i) (rd_T70 l1 i) = some u from hu_)
  clear HH hu_
  have HH := Aside0.mk hr
  clear hr
  have hr := HH.out
  cases u with
  | false =>
   rw [if_neg Bool.false_ne_true] at hr
   obtain rfl := Option.some.inj hr
   clear hr HH
   go_wp2_with (first | ((with_reducible refine gate_dst (N := 27) rfl ?_); refine load_in (N := 27) (t := 70) (cs := [.int .i64 (rd_T70 l0 i).f0, .string (rd_T70 l0 i).f1, .slice aA2 (rd_T70 l0 i).f2.length ac2]) rfl rfl rfl rfl (spread_blk B8.out) Try.underlying70 rfl rfl (by kernel_rfl) ?_) | ((with_reducible refine gate_dst (N := 28) rfl ?_); refine load_in (N := 28) (t := 70) (cs := [.int .i64 (rd_T70 l1 i).f0, .string (rd_T70 l1 i).f1, .slice bA2 (rd_T70 l1 i).f2.length bc2]) rfl rfl rfl rfl (spread_blk B9.out) Try.underlying70 rfl rfl (by kernel_rfl) ?_) | ((with_reducible refine gate_valued (N := 26) rfl ?_); refine goesV_ (x := .tmp 26) (by first | rfl | (simp [Act.eval]; done)) (some 29) rfl rfl Try.func38 (by kernel_rfl) rfl #[.agg #[.int .i64 (rd_T70 l0 i).f0, .string (rd_T70 l0 i).f1, .slice aA2 (rd_T70 l0 i).f2.length ac2], .agg #[.int .i64 (rd_T70 l1 i).f0, .string (rd_T70 l1 i).f1, .slice bA2 (rd_T70 l1 i).f2.length bc2]] rfl (by (try simp only [List.map_toArray, List.map_cons, List.map_nil]); first | done | rfl) ?_; refine (sfc_sameAction.calls k (rd_T70 l0 i) (rd_T70 l1 i) _ _ _ _ _ _ (Kd.C_below ahc0 HB.out) ahl0 (Kd.C_below bhc0 HB.out) bhl0 AU.out).mono ?_; rintro e w' ⟨rfl, hb⟩; refine ⟨_, rfl, ?_⟩; have n0_ := Aside0.mk (below_step HB.out hb); clear HB hb; have HB := n0_; clear n0_))
   go_ret
   exact ⟨rfl, HB.out⟩
  | true =>
   rw [if_pos rfl] at hr
   clear HH
   have HH := Aside0.mk hr
   clear hr
   go_wp2_with (first | ((with_reducible refine gate_dst (N := 27) rfl ?_); refine load_in (N := 27) (t := 70) (cs := [.int .i64 (rd_T70 l0 i).f0, .string (rd_T70 l0 i).f1, .slice aA2 (rd_T70 l0 i).f2.length ac2]) rfl rfl rfl rfl (spread_blk B8.out) Try.underlying70 rfl rfl (by kernel_rfl) ?_) | ((with_reducible refine gate_dst (N := 28) rfl ?_); refine load_in (N := 28) (t := 70) (cs := [.int .i64 (rd_T70 l1 i).f0, .string (rd_T70 l1 i).f1, .slice bA2 (rd_T70 l1 i).f2.length bc2]) rfl rfl rfl rfl (spread_blk B9.out) Try.underlying70 rfl rfl (by kernel_rfl) ?_) | ((with_reducible refine gate_valued (N := 26) rfl ?_); refine goesV_ (x := .tmp 26) (by first | rfl | (simp [Act.eval]; done)) (some 29) rfl rfl Try.func38 (by kernel_rfl) rfl #[.agg #[.int .i64 (rd_T70 l0 i).f0, .string (rd_T70 l0 i).f1, .slice aA2 (rd_T70 l0 i).f2.length ac2], .agg #[.int .i64 (rd_T70 l1 i).f0, .string (rd_T70 l1 i).f1, .slice bA2 (rd_T70 l1 i).f2.length bc2]] rfl (by (try simp only [List.map_toArray, List.map_cons, List.map_nil]); first | done | rfl) ?_; refine (sfc_sameAction.calls k (rd_T70 l0 i) (rd_T70 l1 i) _ _ _ _ _ _ (Kd.C_below ahc0 HB.out) ahl0 (Kd.C_below bhc0 HB.out) bhl0 AU.out).mono ?_; rintro e w' ⟨rfl, hb⟩; refine ⟨_, rfl, ?_⟩; have n0_ := Aside0.mk (below_step HB.out hb); clear HB hb; have HB := n0_; clear n0_))
   have hw : wrap64 (i + 1) = i + 1 := by
    have := HM.out
    have := hi.out
    have := C2.out
    unfold wrap64
    omega
   have h1 := hi.out
   have h2 := C2.out
   go_roundg (gk - 1)
   case measure => omega
   case rel => exact ⟨i + 1, by rw [hw], ⟨by omega⟩, ⟨HH.out⟩, ⟨HB.out⟩⟩
def sfc_Same.f (k : Nat) (l0 : List S58) (l1 : List S67) (l2 : List S70) (m0 : List S58) (m1 : List S67) (m2 : List S70) : Option Bool := (api_Step.f k l0 m0).bind fun u0 => if u0 = true then ((api_Trans.f k l1 m1).bind fun u1 => if u1 = true then ((api_Action.f k l2 m2).bind fun u2 => if u2 = true then (some true) else some false) else some false) else some false
set_option maxHeartbeats 4000000 in
set_option maxRecDepth 100000 in
theorem sfc_Same.calls (k : Nat) (A0 : Option Addr) (c0 : Nat) (l0 : List S58) (A1 : Option Addr) (c1 : Nat) (l1 : List S67) (A2 : Option Addr) (c2 : Nat) (l2 : List S70) (D0 : Option Addr) (e0 : Nat) (m0 : List S58) (D1 : Option Addr) (e1 : Nat) (m1 : List S67) (D2 : Option Addr) (e2 : Nat) (m2 : List S70) (r : Bool) (w : World) (hr0 : Kd.C k58 w A0 l0.length l0) (hc0 : l0.length ≤ c0) (hs0 : Kd.C k58 w D0 m0.length m0) (hd0 : m0.length ≤ e0) (hr1 : Kd.C k67 w A1 l1.length l1) (hc1 : l1.length ≤ c1) (hs1 : Kd.C k67 w D1 m1.length m1) (hd1 : m1.length ≤ e1) (hr2 : Kd.C k70 w A2 l2.length l2) (hc2 : l2.length ≤ c2) (hs2 : Kd.C k70 w D2 m2.length m2) (hd2 : m2.length ≤ e2) (h : sfc_Same.f k l0 l1 l2 m0 m1 m2 = some r) :
  Calls Try.prog 13 #[.agg #[.slice A0 l0.length c0, .slice A1 l1.length c1, .slice A2 l2.length c2], .agg #[.slice D0 m0.length e0, .slice D1 m1.length e1, .slice D2 m2.length e2]] w fun e w' => e = .returned (.bool r) ∧ Below w.heap.size w w' := by
 have hu34 := Try.underlying34
 have HB := Aside0.mk (Below.refl w.heap.size w)
 unfold sfc_Same.f at h
 have HE := Aside0.mk h
 clear h
 go_enter Try.func13, Try.ntmps13
 go_upto_region 1 with (first | ((with_reducible refine gate_dst (N := 2) rfl ?_); refine box_event ?hg (N := 2) ?hd (cs := #[.slice A0 l0.length c0, .slice A1 l1.length c1, .slice A2 l2.length c2]) (t := 34) ?hr ?_; (case hd => rfl); (case hg => rfl); (case hr => first | (go_simp; done) | (go_simp; rfl)); intro g1 hg w1 hbox hb; have n0_ := Aside0.mk (below_step (by repeat (first | (with_reducible first | exact HB.out | apply below_alloc | apply pw_below_drewN | apply below_drew1) | exact HB.out)) hb); have G1 := Aside0.mk ((by rw [hg]; exact below_size (by repeat (first | (with_reducible first | exact HB.out | apply below_alloc | apply pw_below_drewN | apply below_drew1) | exact HB.out))) : w.heap.size ≤ g1); have B1 := Aside0.mk hbox; clear HB; have HB := n0_; clear n0_ hb hbox hg) | ((with_reducible refine gate_dst (N := 3) rfl ?_); refine box_event ?hg (N := 3) ?hd (cs := #[.slice D0 m0.length e0, .slice D1 m1.length e1, .slice D2 m2.length e2]) (t := 34) ?hr ?_; (case hd => rfl); (case hg => rfl); (case hr => first | (go_simp; done) | (go_simp; rfl)); intro g2 hg w2 hbox hb; have n0_ := Aside0.mk (below_step (by repeat (first | (with_reducible first | exact HB.out | apply below_alloc | apply pw_below_drewN | apply below_drew1) | exact HB.out)) hb); have n1_ := Aside0.mk (blk_below B1.out hb); have NE1_2 := Aside0.mk ((by rw [hg]; exact Nat.ne_of_lt (blk_lt B1.out)) : g1 ≠ g2); clear B1; have B1 := n1_; clear n1_; have G2 := Aside0.mk ((by rw [hg]; exact below_size (by repeat (first | (with_reducible first | exact HB.out | apply below_alloc | apply pw_below_drewN | apply below_drew1) | exact HB.out))) : w.heap.size ≤ g2); have B2 := Aside0.mk hbox; clear HB; have HB := n0_; clear n0_ hb hbox hg))
 have BB := Aside0.mk (And.intro B1.out B2.out)
 clear B1 B2 G1 G2 NE1_2
 obtain ⟨z0, z1, z2, -, -, -⟩ := cells3 BB.out.1
 obtain ⟨y0, y1, y2, -, -, -⟩ := cells3 BB.out.2
 obtain ⟨u0, hu_, hr⟩ := Option.bind_eq_some_iff.mp HE.out
 have A0 := Aside0.mk hu_
 clear HE hu_
 have HE := Aside0.mk hr
 clear hr
 cases u0
 case false =>
  have hr := HE.out
  rw [if_neg Bool.false_ne_true] at hr
  obtain rfl := Option.some.inj hr
  clear hr HE
  go_wp2_with (first | (go_at_call 33; (with_reducible refine (api_Step.calls k _ _ l0 _ _ m0 _ _ ?side0 ?side1 ?side2 ?side3 A0.out).mono ?_); (case side0 => exact Kd.C_below hr0 (by repeat (first | (with_reducible first | exact HB.out | apply below_alloc | apply pw_below_drewN | apply below_drew1) | exact HB.out))); (case side1 => exact hc0); (case side2 => exact Kd.C_below hs0 (by repeat (first | (with_reducible first | exact HB.out | apply below_alloc | apply pw_below_drewN | apply below_drew1) | exact HB.out))); (case side3 => exact hd0); rintro e w' ⟨rfl, hb⟩; have n0_ := Aside0.mk (below_step (by repeat (first | (with_reducible first | exact HB.out | apply below_alloc | apply pw_below_drewN | apply below_drew1) | exact HB.out)) hb); have n1_ := Aside0.mk (And.intro (blk_below BB.out.1 hb) (blk_below BB.out.2 hb)); clear HB BB hb z0 z1 z2 y0 y1 y2; have HB := n0_; have BB := n1_; clear n0_ n1_; obtain ⟨z0, z1, z2, -, -, -⟩ := cells3 BB.out.1; obtain ⟨y0, y1, y2, -, -, -⟩ := cells3 BB.out.2))
  go_ret
  exact ⟨rfl, (by repeat (first | (with_reducible first | exact HB.out | apply below_alloc | apply pw_below_drewN | apply below_drew1) | exact HB.out))⟩
 have hr := HE.out
 rw [if_pos rfl] at hr
 clear HE
 have HE := Aside0.mk hr
 clear hr
 obtain ⟨u1, hu_, hr⟩ := Option.bind_eq_some_iff.mp HE.out
 have A1 := Aside0.mk hu_
 clear HE hu_
 have HE := Aside0.mk hr
 clear hr
 cases u1
 case false =>
  have hr := HE.out
  rw [if_neg Bool.false_ne_true] at hr
  obtain rfl := Option.some.inj hr
  clear hr HE
  go_wp2_with (first | (go_at_call 33; (with_reducible refine (api_Step.calls k _ _ l0 _ _ m0 _ _ ?side0 ?side1 ?side2 ?side3 A0.out).mono ?_); (case side0 => exact Kd.C_below hr0 (by repeat (first | (with_reducible first | exact HB.out | apply below_alloc | apply pw_below_drewN | apply below_drew1) | exact HB.out))); (case side1 => exact hc0); (case side2 => exact Kd.C_below hs0 (by repeat (first | (with_reducible first | exact HB.out | apply below_alloc | apply pw_below_drewN | apply below_drew1) | exact HB.out))); (case side3 => exact hd0); rintro e w' ⟨rfl, hb⟩; have n0_ := Aside0.mk (below_step (by repeat (first | (with_reducible first | exact HB.out | apply below_alloc | apply pw_below_drewN | apply below_drew1) | exact HB.out)) hb); have n1_ := Aside0.mk (And.intro (blk_below BB.out.1 hb) (blk_below BB.out.2 hb)); clear HB BB hb z0 z1 z2 y0 y1 y2; have HB := n0_; have BB := n1_; clear n0_ n1_; obtain ⟨z0, z1, z2, -, -, -⟩ := cells3 BB.out.1; obtain ⟨y0, y1, y2, -, -, -⟩ := cells3 BB.out.2) | (go_at_call 35; (with_reducible refine (api_Trans.calls k _ _ l1 _ _ m1 _ _ ?side0 ?side1 ?side2 ?side3 A1.out).mono ?_); (case side0 => exact Kd.C_below hr1 (by repeat (first | (with_reducible first | exact HB.out | apply below_alloc | apply pw_below_drewN | apply below_drew1) | exact HB.out))); (case side1 => exact hc1); (case side2 => exact Kd.C_below hs1 (by repeat (first | (with_reducible first | exact HB.out | apply below_alloc | apply pw_below_drewN | apply below_drew1) | exact HB.out))); (case side3 => exact hd1); rintro e w' ⟨rfl, hb⟩; have n0_ := Aside0.mk (below_step (by repeat (first | (with_reducible first | exact HB.out | apply below_alloc | apply pw_below_drewN | apply below_drew1) | exact HB.out)) hb); have n1_ := Aside0.mk (And.intro (blk_below BB.out.1 hb) (blk_below BB.out.2 hb)); clear HB BB hb z0 z1 z2 y0 y1 y2; have HB := n0_; have BB := n1_; clear n0_ n1_; obtain ⟨z0, z1, z2, -, -, -⟩ := cells3 BB.out.1; obtain ⟨y0, y1, y2, -, -, -⟩ := cells3 BB.out.2))
  go_ret
  exact ⟨rfl, (by repeat (first | (with_reducible first | exact HB.out | apply below_alloc | apply pw_below_drewN | apply below_drew1) | exact HB.out))⟩
 have hr := HE.out
 rw [if_pos rfl] at hr
 clear HE
 have HE := Aside0.mk hr
 clear hr
 obtain ⟨u2, hu_, hr⟩ := Option.bind_eq_some_iff.mp HE.out
 have A2 := Aside0.mk hu_
 clear HE hu_
 have HE := Aside0.mk hr
 clear hr
 cases u2
 case false =>
  have hr := HE.out
  rw [if_neg Bool.false_ne_true] at hr
  obtain rfl := Option.some.inj hr
  clear hr HE
  go_wp2_with (first | (go_at_call 33; (with_reducible refine (api_Step.calls k _ _ l0 _ _ m0 _ _ ?side0 ?side1 ?side2 ?side3 A0.out).mono ?_); (case side0 => exact Kd.C_below hr0 (by repeat (first | (with_reducible first | exact HB.out | apply below_alloc | apply pw_below_drewN | apply below_drew1) | exact HB.out))); (case side1 => exact hc0); (case side2 => exact Kd.C_below hs0 (by repeat (first | (with_reducible first | exact HB.out | apply below_alloc | apply pw_below_drewN | apply below_drew1) | exact HB.out))); (case side3 => exact hd0); rintro e w' ⟨rfl, hb⟩; have n0_ := Aside0.mk (below_step (by repeat (first | (with_reducible first | exact HB.out | apply below_alloc | apply pw_below_drewN | apply below_drew1) | exact HB.out)) hb); have n1_ := Aside0.mk (And.intro (blk_below BB.out.1 hb) (blk_below BB.out.2 hb)); clear HB BB hb z0 z1 z2 y0 y1 y2; have HB := n0_; have BB := n1_; clear n0_ n1_; obtain ⟨z0, z1, z2, -, -, -⟩ := cells3 BB.out.1; obtain ⟨y0, y1, y2, -, -, -⟩ := cells3 BB.out.2) | (go_at_call 35; (with_reducible refine (api_Trans.calls k _ _ l1 _ _ m1 _ _ ?side0 ?side1 ?side2 ?side3 A1.out).mono ?_); (case side0 => exact Kd.C_below hr1 (by repeat (first | (with_reducible first | exact HB.out | apply below_alloc | apply pw_below_drewN | apply below_drew1) | exact HB.out))); (case side1 => exact hc1); (case side2 => exact Kd.C_below hs1 (by repeat (first | (with_reducible first | exact HB.out | apply below_alloc | apply pw_below_drewN | apply below_drew1) | exact HB.out))); (case side3 => exact hd1); rintro e w' ⟨rfl, hb⟩; have n0_ := Aside0.mk (below_step (by repeat (first | (with_reducible first | exact HB.out | apply below_alloc | apply pw_below_drewN | apply below_drew1) | exact HB.out)) hb); have n1_ := Aside0.mk (And.intro (blk_below BB.out.1 hb) (blk_below BB.out.2 hb)); clear HB BB hb z0 z1 z2 y0 y1 y2; have HB := n0_; have BB := n1_; clear n0_ n1_; obtain ⟨z0, z1, z2, -, -, -⟩ := cells3 BB.out.1; obtain ⟨y0, y1, y2, -, -, -⟩ := cells3 BB.out.2) | (go_at_call 37; (with_reducible refine (api_Action.calls k _ _ l2 _ _ m2 _ _ ?side0 ?side1 ?side2 ?side3 A2.out).mono ?_); (case side0 => exact Kd.C_below hr2 (by repeat (first | (with_reducible first | exact HB.out | apply below_alloc | apply pw_below_drewN | apply below_drew1) | exact HB.out))); (case side1 => exact hc2); (case side2 => exact Kd.C_below hs2 (by repeat (first | (with_reducible first | exact HB.out | apply below_alloc | apply pw_below_drewN | apply below_drew1) | exact HB.out))); (case side3 => exact hd2); rintro e w' ⟨rfl, hb⟩; have n0_ := Aside0.mk (below_step (by repeat (first | (with_reducible first | exact HB.out | apply below_alloc | apply pw_below_drewN | apply below_drew1) | exact HB.out)) hb); have n1_ := Aside0.mk (And.intro (blk_below BB.out.1 hb) (blk_below BB.out.2 hb)); clear HB BB hb z0 z1 z2 y0 y1 y2; have HB := n0_; have BB := n1_; clear n0_ n1_; obtain ⟨z0, z1, z2, -, -, -⟩ := cells3 BB.out.1; obtain ⟨y0, y1, y2, -, -, -⟩ := cells3 BB.out.2))
  go_ret
  exact ⟨rfl, (by repeat (first | (with_reducible first | exact HB.out | apply below_alloc | apply pw_below_drewN | apply below_drew1) | exact HB.out))⟩
 have hr := HE.out
 rw [if_pos rfl] at hr
 clear HE
 have HE := Aside0.mk hr
 clear hr
 obtain rfl := Option.some.inj HE.out
 go_wp2_with (first | (go_at_call 33; (with_reducible refine (api_Step.calls k _ _ l0 _ _ m0 _ _ ?side0 ?side1 ?side2 ?side3 A0.out).mono ?_); (case side0 => exact Kd.C_below hr0 (by repeat (first | (with_reducible first | exact HB.out | apply below_alloc | apply pw_below_drewN | apply below_drew1) | exact HB.out))); (case side1 => exact hc0); (case side2 => exact Kd.C_below hs0 (by repeat (first | (with_reducible first | exact HB.out | apply below_alloc | apply pw_below_drewN | apply below_drew1) | exact HB.out))); (case side3 => exact hd0); rintro e w' ⟨rfl, hb⟩; have n0_ := Aside0.mk (below_step (by repeat (first | (with_reducible first | exact HB.out | apply below_alloc | apply pw_below_drewN | apply below_drew1) | exact HB.out)) hb); have n1_ := Aside0.mk (And.intro (blk_below BB.out.1 hb) (blk_below BB.out.2 hb)); clear HB BB hb z0 z1 z2 y0 y1 y2; have HB := n0_; have BB := n1_; clear n0_ n1_; obtain ⟨z0, z1, z2, -, -, -⟩ := cells3 BB.out.1; obtain ⟨y0, y1, y2, -, -, -⟩ := cells3 BB.out.2) | (go_at_call 35; (with_reducible refine (api_Trans.calls k _ _ l1 _ _ m1 _ _ ?side0 ?side1 ?side2 ?side3 A1.out).mono ?_); (case side0 => exact Kd.C_below hr1 (by repeat (first | (with_reducible first | exact HB.out | apply below_alloc | apply pw_below_drewN | apply below_drew1) | exact HB.out))); (case side1 => exact hc1); (case side2 => exact Kd.C_below hs1 (by repeat (first | (with_reducible first | exact HB.out | apply below_alloc | apply pw_below_drewN | apply below_drew1) | exact HB.out))); (case side3 => exact hd1); rintro e w' ⟨rfl, hb⟩; have n0_ := Aside0.mk (below_step (by repeat (first | (with_reducible first | exact HB.out | apply below_alloc | apply pw_below_drewN | apply below_drew1) | exact HB.out)) hb); have n1_ := Aside0.mk (And.intro (blk_below BB.out.1 hb) (blk_below BB.out.2 hb)); clear HB BB hb z0 z1 z2 y0 y1 y2; have HB := n0_; have BB := n1_; clear n0_ n1_; obtain ⟨z0, z1, z2, -, -, -⟩ := cells3 BB.out.1; obtain ⟨y0, y1, y2, -, -, -⟩ := cells3 BB.out.2) | (go_at_call 37; (with_reducible refine (api_Action.calls k _ _ l2 _ _ m2 _ _ ?side0 ?side1 ?side2 ?side3 A2.out).mono ?_); (case side0 => exact Kd.C_below hr2 (by repeat (first | (with_reducible first | exact HB.out | apply below_alloc | apply pw_below_drewN | apply below_drew1) | exact HB.out))); (case side1 => exact hc2); (case side2 => exact Kd.C_below hs2 (by repeat (first | (with_reducible first | exact HB.out | apply below_alloc | apply pw_below_drewN | apply below_drew1) | exact HB.out))); (case side3 => exact hd2); rintro e w' ⟨rfl, hb⟩; have n0_ := Aside0.mk (below_step (by repeat (first | (with_reducible first | exact HB.out | apply below_alloc | apply pw_below_drewN | apply below_drew1) | exact HB.out)) hb); have n1_ := Aside0.mk (And.intro (blk_below BB.out.1 hb) (blk_below BB.out.2 hb)); clear HB BB hb z0 z1 z2 y0 y1 y2; have HB := n0_; have BB := n1_; clear n0_ n1_; obtain ⟨z0, z1, z2, -, -, -⟩ := cells3 BB.out.1; obtain ⟨y0, y1, y2, -, -, -⟩ := cells3 BB.out.2))
 go_ret
 exact ⟨rfl, (by repeat (first | (with_reducible first | exact HB.out | apply below_alloc | apply pw_below_drewN | apply below_drew1) | exact HB.out))⟩
theorem sfc_Same.mono : ∀ a b c d e f k, LeO (sfc_Same.f k a b c d e f) (sfc_Same.f (k + 1) a b c d e f) := by
 intro a b c d e f k
 unfold sfc_Same.f
 repeat' first
  | exact api_Step.mono _ _ _
  | exact api_Trans.mono _ _ _
  | exact api_Action.mono _ _ _
  | exact LeO.refl _
  | refine LeO.ite ?_ ?_
  | refine LeO.bind ?_ (fun _ => ?_)
end Go.Proofs.Ytmdkbhbconnmmaa.XSfc
