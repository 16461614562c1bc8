/- Charts opened: what they read are lists, and these fit in memory. -/
import Derived.Test.YtmdkbhbconnmmaaRows
import Derived.Test.YtmdkbhbconnmmaaPureSfcB
import Derived.WalkKit
import Derived.ProofKit
import Derived.OpenShut
import Derived.Carry
import Derived.ChangeOld
import Derived.Below
import Derived.SizedLaws
import Derived.Deep.Slices
import Derived.ChangeSame
namespace Go.Proofs.Ytmdkbhbconnmmaa.XSfc
open Go.ChangeShapes Go.WideShapes Go.ChangeAt Go.RowKit Go.Proofs.YtmdkbhbconnmmaaW.PrintWords Go.Proofs.YtmdkbhbconnmmaaW.PrintLast Go.Proofs.YtmdkbhbconnmmaaW.PrintMore
set_option linter.unusedVariables false
theorem wall_ {H : Type} {P : Program} {e : TypeId} {d : DataW H} : ∀ {ds : List (DataW H)}, d ∈ ds → ∀ n ∈ d.weights P e, n ∈ DataW.weightsAll P e ds
  | a :: ds, hd, n, hn => by
    simp only [DataW.weightsAll, List.mem_append]
    rcases List.mem_cons.1 hd with rfl | hd
    · exact .inl hn
    · exact .inr (wall_ hd n hn)
theorem choose_list {α : Type} {R : Nat → α → Prop} : ∀ {n : Nat}, (∀ i, i < n → ∃ p, R i p) → ∃ l : List α, l.length = n ∧ ∀ i p, l[i]? = some p → R i p
  | 0, _ => ⟨[], rfl, fun i p h => by simp at h⟩
  | n + 1, h => by
    obtain ⟨l, hl, hr⟩ := choose_list (n := n) (fun i hi => h i (by omega))
    obtain ⟨p, hp⟩ := h n (by omega)
    refine ⟨l ++ [p], by simp [hl], fun i q hq => ?_⟩
    rcases Nat.lt_trichotomy i n with hi | hi | hi
    · rw [List.getElem?_append_left (by omega)] at hq
      exact hr i q hq
    · subst hi
      rw [← hl, List.getElem?_concat_length] at hq
      cases hq
      rw [hl] at *
      exact hp
    · rw [List.getElem?_eq_none (by simp; omega)] at hq
      cases hq
section
variable {H : Type} {enc : TypeId × Value → H} {W : World} {base : Nat} {spare : Nat → Bool} {held : Bool}
theorem C_of_slice {α : Type} {d : Kd α} {t e : TypeId} {Ok : α → Prop} (ht : Try.prog.underlying t = some (.slice e)) (hC : Try.prog.cellsOf e = d.sz) {fuel : Nat} {cs : List Value} {x : DataW H × List MemPlace} (h : DataW.trod enc Try.prog W base spare held fuel t cs = some x) (hw : ∀ n ∈ x.1.weights Try.prog t, n ≤ reachBytes)
    (hel : ∀ n cs' y, n < fuel → DataW.trod enc Try.prog W base spare held n e cs' = some y → (∀ m ∈ y.1.weights Try.prog e, m ≤ reachBytes) → ∃ p, d.K W p cs' ∧ Ok p) :
    ∃ (A : Option Addr) (l : List α) (c : Nat), cs = [.slice A l.length c] ∧ l.length ≤ c ∧ Kd.C d W A l.length l ∧ l.length * Try.prog.bytesOf e ≤ reachBytes ∧ ∀ p ∈ l, Ok p := by
  rcases DataW.trod_slice ht h with ⟨rfl, rfl⟩ | ⟨a, len, cap, elems, rest, n, rfl, rfl, rfl, hb, hl, hm, hlen, hget, -, -⟩
  · exact ⟨none, [], 0, rfl, Nat.le_refl _, ⟨rfl, by simp, fun h => by simp at h⟩, by simp, by simp⟩
  · simp only [DataW.weights, ht, List.length_map, List.mem_cons, List.mem_append] at hw
    obtain ⟨l, hll, hR⟩ := choose_list (α := α) (n := len) (R := fun i p => Ok p ∧ ∃ c, d.K W p c ∧ W.cells? base (a.add (i * d.sz)) d.sz = some c) (fun i hi => by
      have hg := hget i hi
      rw [List.getElem?_eq_getElem (by omega), hC] at hg
      obtain ⟨cs', h1, h2⟩ := Option.bind_eq_some_iff.1 hg
      obtain ⟨p, hp, ho⟩ := hel n cs' _ (Nat.lt_succ_self n) h2 (fun m hm' => hw m (.inr (.inl (wall_ (List.mem_map_of_mem (List.getElem_mem (by omega))) m hm'))))
      exact ⟨p, ho, cs', hp, h1⟩)
    subst hll
    have hb1 := hw _ (.inl rfl)
    rw [hlen] at hb1
    refine ⟨some a, l, cap, rfl, hl, ⟨rfl, by unfold maxLen at hm; omega, fun _ => ⟨a, rfl, fun j p hj => ?_⟩⟩, Nat.le_trans (Nat.mul_le_mul_right _ (Nat.le_add_right _ _)) hb1, fun p hp => ?_⟩
    · obtain ⟨_, c, hk, hc⟩ := hR j p hj
      obtain ⟨_, hcl, hat⟩ := World.cells?_some hc
      refine ⟨c, hcl, hk, fun i u hu => ?_⟩
      have hi : i < d.sz := by rw [← hcl]; exact (List.getElem?_eq_some_iff.1 hu).1
      rw [← Addr.add_add]
      exact (hat i hi).trans hu
    · obtain ⟨i, hi, rfl⟩ := List.mem_iff_getElem.1 hp
      exact (hR i _ (List.getElem?_eq_getElem hi)).1
theorem bytes65 : Try.prog.bytesOf 65 = 168 := by kernel_rfl
theorem bytes46 : Try.prog.bytesOf 46 = 232 := by kernel_rfl
theorem bytes9 : Try.prog.bytesOf 9 = 16 := by kernel_rfl
theorem bytes50 : Try.prog.bytesOf 50 = 16 := by kernel_rfl
def QT {α : Type} (_ : α) : Prop := True
def Q65 (p : S65) : Prop := Ok65 p.f5 ∧ p.f6.length * 16 ≤ 140737488355328
def Q46 (x : S46) : Prop := Ok65 x.f4 ∧ x.f5.length * 16 ≤ 140737488355328 ∧ Ok65 x.f6 ∧ x.f7.length * 16 ≤ 140737488355328 ∧ x.f8.length * 16 ≤ 140737488355328 ∧ Ok46 x.f9 ∧ Ok46 x.f10
theorem ok65_of {l : List S65} (h1 : l.length * Try.prog.bytesOf 65 ≤ reachBytes) (h2 : ∀ p ∈ l, Q65 p) : Ok65 l := by
  rw [bytes65] at h1
  have := reachBytes_lt
  exact .mk (by omega) (fun p hp => (h2 p hp).1) (fun p hp => (h2 p hp).2)
theorem ok46_of {l : List S46} (h1 : l.length * Try.prog.bytesOf 46 ≤ reachBytes) (h2 : ∀ p ∈ l, Q46 p) : Ok46 l := by
  rw [bytes46] at h1
  have := reachBytes_lt
  exact .mk (by omega) (fun p hp => (h2 p hp).1) (fun p hp => (h2 p hp).2.1) (fun p hp => (h2 p hp).2.2.1) (fun p hp => (h2 p hp).2.2.2.1) (fun p hp => (h2 p hp).2.2.2.2.1) (fun p hp => (h2 p hp).2.2.2.2.2.1) (fun p hp => (h2 p hp).2.2.2.2.2.2)
theorem texts_of {l : List ByteArray} (h1 : l.length * Try.prog.bytesOf 9 ≤ reachBytes) : l.length * 16 ≤ 140737488355328 := by
  rw [bytes9] at h1
  have := reachBytes_lt
  omega
theorem ranges_of {l : List S50} (h1 : l.length * Try.prog.bytesOf 50 ≤ reachBytes) : l.length * 16 ≤ 140737488355328 := by
  rw [bytes50] at h1
  have := reachBytes_lt
  omega
theorem el9 (fuel : Nat) : ∀ n cs' (y : DataW H × List MemPlace), n < fuel → DataW.trod enc Try.prog W base spare held n 9 cs' = some y → (∀ m ∈ y.1.weights Try.prog 9, m ≤ reachBytes) → ∃ p, Kd.string.K W p cs' ∧ QT p := by
  intro n cs' y _ h _
  obtain ⟨s, rfl, _, _⟩ := DataW.trod_string Try.underlying9 h
  exact ⟨s, rfl, trivial⟩
theorem el50 (fuel : Nat) : ∀ n cs' (y : DataW H × List MemPlace), n < fuel → DataW.trod enc Try.prog W base spare held n 50 cs' = some y → (∀ m ∈ y.1.weights Try.prog 50, m ≤ reachBytes) → ∃ p, k50.K W p cs' ∧ QT p := by
  intro n cs' y _ h _
  obtain ⟨xs, m, _, _, hlen, hxl, hf⟩ := DataW.trod_struct Try.underlying50 h
  have hl : cs'.length = 2 := hlen.trans (by kernel_rfl)
  obtain ⟨c0, c1, rfl⟩ : ∃ a b, cs' = [a, b] := by
    match cs', hl with
    | [a, b], _ => exact ⟨a, b, rfl⟩
  obtain ⟨x0, x1, rfl⟩ : ∃ a b, xs = [a, b] := by
    match xs, hxl with
    | [a, b], _ => exact ⟨a, b, rfl⟩
  have k3 : Try.prog.cellsOf 3 = 1 := by kernel_rfl
  have g0 : DataW.trod enc Try.prog W base spare held m 3 [c0] = some x0 := by simpa [k3] using hf 0 _ rfl
  have g1 : DataW.trod enc Try.prog W base spare held m 3 [c1] = some x1 := by simpa [k3] using hf 1 _ rfl
  obtain ⟨a0, e0, _, _⟩ := DataW.trod_int Try.underlying3 g0
  obtain ⟨a1, e1, _, _⟩ := DataW.trod_int Try.underlying3 g1
  simp only [List.cons.injEq, and_true] at e0 e1
  subst e0 e1
  exact ⟨⟨a0, a1⟩, k50_mk W ⟨a0, a1⟩, trivial⟩
theorem el65 : ∀ fuel n cs' (y : DataW H × List MemPlace), n < fuel → DataW.trod enc Try.prog W base spare held n 65 cs' = some y → (∀ m ∈ y.1.weights Try.prog 65, m ≤ reachBytes) → ∃ p, k65.K W p cs' ∧ Q65 p := by
  intro fuel
  induction fuel with
  | zero => intro n _ _ h; exact absurd h (by omega)
  | succ fuel ih =>
    intro n cs' y hn h hw
    obtain ⟨xs, m, rfl, rfl, hlen, hxl, hf⟩ := DataW.trod_struct Try.underlying65 h
    simp only [DataW.weights, Try.underlying65] at hw
    have hl : cs'.length = 14 := hlen.trans (by kernel_rfl)
    obtain ⟨c0, c1, c2, c3, c4, c5, c6, c7, c8, c9, c10, c11, c12, c13, rfl⟩ : ∃ z0 z1 z2 z3 z4 z5 z6 z7 z8 z9 z10 z11 z12 z13, cs' = [z0, z1, z2, z3, z4, z5, z6, z7, z8, z9, z10, z11, z12, z13] := by
      match cs', hl with
      | [z0, z1, z2, z3, z4, z5, z6, z7, z8, z9, z10, z11, z12, z13], _ => exact ⟨z0, z1, z2, z3, z4, z5, z6, z7, z8, z9, z10, z11, z12, z13, rfl⟩
    obtain ⟨x0, x1, x2, x3, x4, x5, x6, x7, x8, x9, x10, x11, rfl⟩ : ∃ z0 z1 z2 z3 z4 z5 z6 z7 z8 z9 z10 z11, xs = [z0, z1, z2, z3, z4, z5, z6, z7, z8, z9, z10, z11] := by
      match xs, hxl with
      | [z0, z1, z2, z3, z4, z5, z6, z7, z8, z9, z10, z11], _ => exact ⟨z0, z1, z2, z3, z4, z5, z6, z7, z8, z9, z10, z11, rfl⟩
    have k3 : Try.prog.cellsOf 3 = 1 := by kernel_rfl
    have k9 : Try.prog.cellsOf 9 = 1 := by kernel_rfl
    have k22 : Try.prog.cellsOf 22 = 1 := by kernel_rfl
    have k40 : Try.prog.cellsOf 40 = 1 := by kernel_rfl
    have k42 : Try.prog.cellsOf 42 = 1 := by kernel_rfl
    have k43 : Try.prog.cellsOf 43 = 1 := by kernel_rfl
    have k63 : Try.prog.cellsOf 63 = 3 := by kernel_rfl
    have g0 : DataW.trod enc Try.prog W base spare held m 3 [c0] = some x0 := by simpa [k3] using hf 0 _ rfl
    obtain ⟨a0, e0, _, _⟩ := DataW.trod_int Try.underlying3 g0
    have g1 : DataW.trod enc Try.prog W base spare held m 3 [c1] = some x1 := by simpa [k3] using hf 1 _ rfl
    obtain ⟨a1, e1, _, _⟩ := DataW.trod_int Try.underlying3 g1
    have g2 : DataW.trod enc Try.prog W base spare held m 9 [c2] = some x2 := by simpa [k9] using hf 2 _ rfl
    obtain ⟨a2, e2, _, _⟩ := DataW.trod_string Try.underlying9 g2
    have g3 : DataW.trod enc Try.prog W base spare held m 9 [c3] = some x3 := by simpa [k9] using hf 3 _ rfl
    obtain ⟨a3, e3, _, _⟩ := DataW.trod_string Try.underlying9 g3
    have g4 : DataW.trod enc Try.prog W base spare held m 63 [c4, c5, c6] = some x4 := by simpa [k63] using hf 4 _ rfl
    obtain ⟨ys, m2, _, _, _, hyl, hf2⟩ := DataW.trod_struct Try.underlying63 g4
    obtain ⟨y0, y1, y2, rfl⟩ : ∃ z0 z1 z2, ys = [z0, z1, z2] := by
      match ys, hyl with
      | [z0, z1, z2], _ => exact ⟨z0, z1, z2, rfl⟩
    have p0 : DataW.trod enc Try.prog W base spare held m2 22 [c4] = some y0 := by simpa [k22] using hf2 0 _ rfl
    obtain ⟨b0, d0, _, _⟩ := DataW.trod_int Try.underlying22 p0
    have p1 : DataW.trod enc Try.prog W base spare held m2 40 [c5] = some y1 := by simpa [k40] using hf2 1 _ rfl
    obtain ⟨b1, d1, _, _⟩ := DataW.trod_int Try.underlying40 p1
    have p2 : DataW.trod enc Try.prog W base spare held m2 9 [c6] = some y2 := by simpa [k9] using hf2 2 _ rfl
    obtain ⟨b2, d2, _, _⟩ := DataW.trod_string Try.underlying9 p2
    have g5 : DataW.trod enc Try.prog W base spare held m 42 [c7] = some x5 := by simpa [k42] using hf 5 _ rfl
    obtain ⟨A5, a5, s5, e5, l5, C5, b5_, o5⟩ := C_of_slice (d := k65) (Ok := Q65) Try.underlying42 (by kernel_rfl) g5 (fun r hr => hw r (DataW.weights_mem_each (j := 5) rfl rfl r hr)) (fun r cs y hr => ih r cs y (by omega))
    have g6 : DataW.trod enc Try.prog W base spare held m 43 [c8] = some x6 := by simpa [k43] using hf 6 _ rfl
    obtain ⟨A6, a6, s6, e6, l6, C6, b6_, o6⟩ := C_of_slice (d := Kd.string) (Ok := QT) Try.underlying43 (by kernel_rfl) g6 (fun r hr => hw r (DataW.weights_mem_each (j := 6) rfl rfl r hr)) (el9 _)
    have g7 : DataW.trod enc Try.prog W base spare held m 22 [c9] = some x7 := by simpa [k22] using hf 7 _ rfl
    obtain ⟨a7, e7, _, _⟩ := DataW.trod_int Try.underlying22 g7
    have g8 : DataW.trod enc Try.prog W base spare held m 3 [c10] = some x8 := by simpa [k3] using hf 8 _ rfl
    obtain ⟨a8, e8, _, _⟩ := DataW.trod_int Try.underlying3 g8
    have g9 : DataW.trod enc Try.prog W base spare held m 3 [c11] = some x9 := by simpa [k3] using hf 9 _ rfl
    obtain ⟨a9, e9, _, _⟩ := DataW.trod_int Try.underlying3 g9
    have g10 : DataW.trod enc Try.prog W base spare held m 3 [c12] = some x10 := by simpa [k3] using hf 10 _ rfl
    obtain ⟨a10, e10, _, _⟩ := DataW.trod_int Try.underlying3 g10
    have g11 : DataW.trod enc Try.prog W base spare held m 3 [c13] = some x11 := by simpa [k3] using hf 11 _ rfl
    obtain ⟨a11, e11, _, _⟩ := DataW.trod_int Try.underlying3 g11
    simp only [List.cons.injEq, and_true] at e0 e1 e2 e3 d0 d1 d2 e5 e6 e7 e8 e9 e10 e11
    subst e0 e1 e2 e3 d0 d1 d2 e5 e6 e7 e8 e9 e10 e11
    exact ⟨⟨a0, a1, a2, a3, ⟨b0, b1, b2⟩, a5, a6, a7, a8, a9, a10, a11⟩, k65_mk W ⟨a0, a1, a2, a3, ⟨b0, b1, b2⟩, a5, a6, a7, a8, a9, a10, a11⟩ l5 C5 l6 C6, ok65_of b5_ o5, texts_of b6_⟩
theorem el46 : ∀ fuel n cs' (y : DataW H × List MemPlace), n < fuel → DataW.trod enc Try.prog W base spare held n 46 cs' = some y → (∀ m ∈ y.1.weights Try.prog 46, m ≤ reachBytes) → ∃ p, k46.K W p cs' ∧ Q46 p := by
  intro fuel
  induction fuel with
  | zero => intro n _ _ h; exact absurd h (by omega)
  | succ fuel ih =>
    intro n cs' y hn h hw
    obtain ⟨xs, m, rfl, rfl, hlen, hxl, hf⟩ := DataW.trod_struct Try.underlying46 h
    simp only [DataW.weights, Try.underlying46] at hw
    have hl : cs'.length = 14 := hlen.trans (by kernel_rfl)
    obtain ⟨c0, c1, c2, c3, c4, c5, c6, c7, c8, c9, c10, c11, c12, c13, rfl⟩ : ∃ z0 z1 z2 z3 z4 z5 z6 z7 z8 z9 z10 z11 z12 z13, cs' = [z0, z1, z2, z3, z4, z5, z6, z7, z8, z9, z10, z11, z12, z13] := by
      match cs', hl with
      | [z0, z1, z2, z3, z4, z5, z6, z7, z8, z9, z10, z11, z12, z13], _ => exact ⟨z0, z1, z2, z3, z4, z5, z6, z7, z8, z9, z10, z11, z12, z13, rfl⟩
    obtain ⟨x0, x1, x2, x3, x4, x5, x6, x7, x8, x9, x10, x11, x12, x13, rfl⟩ : ∃ z0 z1 z2 z3 z4 z5 z6 z7 z8 z9 z10 z11 z12 z13, xs = [z0, z1, z2, z3, z4, z5, z6, z7, z8, z9, z10, z11, z12, z13] := by
      match xs, hxl with
      | [z0, z1, z2, z3, z4, z5, z6, z7, z8, z9, z10, z11, z12, z13], _ => exact ⟨z0, z1, z2, z3, z4, z5, z6, z7, z8, z9, z10, z11, z12, z13, rfl⟩
    have k3 : Try.prog.cellsOf 3 = 1 := by kernel_rfl
    have k9 : Try.prog.cellsOf 9 = 1 := by kernel_rfl
    have k22 : Try.prog.cellsOf 22 = 1 := by kernel_rfl
    have k27 : Try.prog.cellsOf 27 = 1 := by kernel_rfl
    have k40 : Try.prog.cellsOf 40 = 1 := by kernel_rfl
    have k42 : Try.prog.cellsOf 42 = 1 := by kernel_rfl
    have k43 : Try.prog.cellsOf 43 = 1 := by kernel_rfl
    have k44 : Try.prog.cellsOf 44 = 1 := by kernel_rfl
    have g0 : DataW.trod enc Try.prog W base spare held m 3 [c0] = some x0 := by simpa [k3] using hf 0 _ rfl
    obtain ⟨a0, e0, _, _⟩ := DataW.trod_int Try.underlying3 g0
    have g1 : DataW.trod enc Try.prog W base spare held m 3 [c1] = some x1 := by simpa [k3] using hf 1 _ rfl
    obtain ⟨a1, e1, _, _⟩ := DataW.trod_int Try.underlying3 g1
    have g2 : DataW.trod enc Try.prog W base spare held m 9 [c2] = some x2 := by simpa [k9] using hf 2 _ rfl
    obtain ⟨a2, e2, _, _⟩ := DataW.trod_string Try.underlying9 g2
    have g3 : DataW.trod enc Try.prog W base spare held m 3 [c3] = some x3 := by simpa [k3] using hf 3 _ rfl
    obtain ⟨a3, e3, _, _⟩ := DataW.trod_int Try.underlying3 g3
    have g4 : DataW.trod enc Try.prog W base spare held m 42 [c4] = some x4 := by simpa [k42] using hf 4 _ rfl
    obtain ⟨A4, a4, s4, e4, l4, C4, b4_, o4⟩ := C_of_slice (d := k65) (Ok := Q65) Try.underlying42 (by kernel_rfl) g4 (fun r hr => hw r (DataW.weights_mem_each (j := 4) rfl rfl r hr)) (el65 _)
    have g5 : DataW.trod enc Try.prog W base spare held m 43 [c5] = some x5 := by simpa [k43] using hf 5 _ rfl
    obtain ⟨A5, a5, s5, e5, l5, C5, b5_, o5⟩ := C_of_slice (d := Kd.string) (Ok := QT) Try.underlying43 (by kernel_rfl) g5 (fun r hr => hw r (DataW.weights_mem_each (j := 5) rfl rfl r hr)) (el9 _)
    have g6 : DataW.trod enc Try.prog W base spare held m 42 [c6] = some x6 := by simpa [k42] using hf 6 _ rfl
    obtain ⟨A6, a6, s6, e6, l6, C6, b6_, o6⟩ := C_of_slice (d := k65) (Ok := Q65) Try.underlying42 (by kernel_rfl) g6 (fun r hr => hw r (DataW.weights_mem_each (j := 6) rfl rfl r hr)) (el65 _)
    have g7 : DataW.trod enc Try.prog W base spare held m 43 [c7] = some x7 := by simpa [k43] using hf 7 _ rfl
    obtain ⟨A7, a7, s7, e7, l7, C7, b7_, o7⟩ := C_of_slice (d := Kd.string) (Ok := QT) Try.underlying43 (by kernel_rfl) g7 (fun r hr => hw r (DataW.weights_mem_each (j := 7) rfl rfl r hr)) (el9 _)
    have g8 : DataW.trod enc Try.prog W base spare held m 44 [c8] = some x8 := by simpa [k44] using hf 8 _ rfl
    obtain ⟨A8, a8, s8, e8, l8, C8, b8_, o8⟩ := C_of_slice (d := k50) (Ok := QT) Try.underlying44 (by kernel_rfl) g8 (fun r hr => hw r (DataW.weights_mem_each (j := 8) rfl rfl r hr)) (el50 _)
    have g9 : DataW.trod enc Try.prog W base spare held m 27 [c9] = some x9 := by simpa [k27] using hf 9 _ rfl
    obtain ⟨A9, a9, s9, e9, l9, C9, b9_, o9⟩ := C_of_slice (d := k46) (Ok := Q46) Try.underlying27 (by kernel_rfl) g9 (fun r hr => hw r (DataW.weights_mem_each (j := 9) rfl rfl r hr)) (fun r cs y hr => ih r cs y (by omega))
    have g10 : DataW.trod enc Try.prog W base spare held m 27 [c10] = some x10 := by simpa [k27] using hf 10 _ rfl
    obtain ⟨A10, a10, s10, e10, l10, C10, b10_, o10⟩ := C_of_slice (d := k46) (Ok := Q46) Try.underlying27 (by kernel_rfl) g10 (fun r hr => hw r (DataW.weights_mem_each (j := 10) rfl rfl r hr)) (fun r cs y hr => ih r cs y (by omega))
    have g11 : DataW.trod enc Try.prog W base spare held m 22 [c11] = some x11 := by simpa [k22] using hf 11 _ rfl
    obtain ⟨a11, e11, _, _⟩ := DataW.trod_int Try.underlying22 g11
    have g12 : DataW.trod enc Try.prog W base spare held m 3 [c12] = some x12 := by simpa [k3] using hf 12 _ rfl
    obtain ⟨a12, e12, _, _⟩ := DataW.trod_int Try.underlying3 g12
    have g13 : DataW.trod enc Try.prog W base spare held m 3 [c13] = some x13 := by simpa [k3] using hf 13 _ rfl
    obtain ⟨a13, e13, _, _⟩ := DataW.trod_int Try.underlying3 g13
    simp only [List.cons.injEq, and_true] at e0 e1 e2 e3 e4 e5 e6 e7 e8 e9 e10 e11 e12 e13
    subst e0 e1 e2 e3 e4 e5 e6 e7 e8 e9 e10 e11 e12 e13
    exact ⟨⟨a0, a1, a2, a3, a4, a5, a6, a7, a8, a9, a10, a11, a12, a13⟩, k46_mk W ⟨a0, a1, a2, a3, a4, a5, a6, a7, a8, a9, a10, a11, a12, a13⟩ l4 C4 l5 C5 l6 C6 l7 C7 l8 C8 l9 C9 l10 C10, ok65_of b4_ o4, texts_of b5_, ok65_of b6_ o6, texts_of b7_, ranges_of b8_, ok46_of b9_ o9, ok46_of b10_ o10⟩
/-- A slice of statements. -/
theorem open_stmts {cs : List Value} {fuel : Nat} {x : DataW H × List MemPlace} (h : DataW.trod enc Try.prog W base spare held fuel 27 cs = some x) (hw : ∀ n ∈ x.1.weights Try.prog 27, n ≤ reachBytes) :
    ∃ (A : Option Addr) (l : List S46) (c : Nat), cs = [.slice A l.length c] ∧ l.length ≤ c ∧ Kd.C k46 W A l.length l ∧ Ok46 l := by
  obtain ⟨A, l, c, e, hl, hC, hb, ho⟩ := C_of_slice (d := k46) (Ok := Q46) Try.underlying27 (by kernel_rfl) h hw (el46 _)
  exact ⟨A, l, c, e, hl, hC, ok46_of hb ho⟩
theorem bytes61 : Try.prog.bytesOf 61 = 48 := by kernel_rfl
theorem bytes58 : Try.prog.bytesOf 58 = 56 := by kernel_rfl
theorem bytes67 : Try.prog.bytesOf 67 = 240 := by kernel_rfl
theorem bytes70 : Try.prog.bytesOf 70 = 48 := by kernel_rfl
theorem links_of {l : List S61} (h1 : l.length * Try.prog.bytesOf 61 ≤ reachBytes) : l.length * 48 ≤ 140737488355328 := by
  rw [bytes61] at h1
  have := reachBytes_lt
  omega
theorem el61 (fuel : Nat) : ∀ n cs' (y : DataW H × List MemPlace), n < fuel → DataW.trod enc Try.prog W base spare held n 61 cs' = some y → (∀ m ∈ y.1.weights Try.prog 61, m ≤ reachBytes) → ∃ p, k61.K W p cs' ∧ QT p := by
  intro n cs' y hn h hw
  obtain ⟨xs, m, rfl, rfl, hlen, hxl, hf⟩ := DataW.trod_struct Try.underlying61 h
  simp only [DataW.weights, Try.underlying61] at hw
  have hl : cs'.length = 4 := hlen.trans (by kernel_rfl)
  obtain ⟨c0, c1, c2, c3, rfl⟩ : ∃ z0 z1 z2 z3, cs' = [z0, z1, z2, z3] := by
    match cs', hl with
    | [z0, z1, z2, z3], _ => exact ⟨z0, z1, z2, z3, rfl⟩
  obtain ⟨x0, x1, x2, x3, rfl⟩ : ∃ z0 z1 z2 z3, xs = [z0, z1, z2, z3] := by
    match xs, hxl with
    | [z0, z1, z2, z3], _ => exact ⟨z0, z1, z2, z3, rfl⟩
  have k3_ : Try.prog.cellsOf 3 = 1 := by kernel_rfl
  have k9_ : Try.prog.cellsOf 9 = 1 := by kernel_rfl
  have g0 : DataW.trod enc Try.prog W base spare held m 3 [c0] = some x0 := by simpa [k3_] using hf 0 _ rfl
  obtain ⟨a0, e0, _, _⟩ := DataW.trod_int Try.underlying3 g0
  have g1 : DataW.trod enc Try.prog W base spare held m 9 [c1] = some x1 := by simpa [k9_] using hf 1 _ rfl
  obtain ⟨a1, e1, _, _⟩ := DataW.trod_string Try.underlying9 g1
  have g2 : DataW.trod enc Try.prog W base spare held m 3 [c2] = some x2 := by simpa [k3_] using hf 2 _ rfl
  obtain ⟨a2, e2, _, _⟩ := DataW.trod_int Try.underlying3 g2
  have g3 : DataW.trod enc Try.prog W base spare held m 9 [c3] = some x3 := by simpa [k9_] using hf 3 _ rfl
  obtain ⟨a3, e3, _, _⟩ := DataW.trod_string Try.underlying9 g3
  simp only [List.cons.injEq, and_true] at e0 e1 e2 e3
  subst e0 e1 e2 e3
  exact ⟨⟨a0, a1, a2, a3⟩, ⟨[.int .i64 a0], _, rfl, rfl, ⟨[.string a1], _, rfl, rfl, ⟨[.int .i64 a2], _, rfl, rfl, rfl⟩⟩⟩, trivial⟩
theorem el58 (fuel : Nat) : ∀ n cs' (y : DataW H × List MemPlace), n < fuel → DataW.trod enc Try.prog W base spare held n 58 cs' = some y → (∀ m ∈ y.1.weights Try.prog 58, m ≤ reachBytes) → ∃ p, k58.K W p cs' ∧ Q58 p := by
  intro n cs' y hn h hw
  obtain ⟨xs, m, rfl, rfl, hlen, hxl, hf⟩ := DataW.trod_struct Try.underlying58 h
  simp only [DataW.weights, Try.underlying58] at hw
  have hl : cs'.length = 4 := hlen.trans (by kernel_rfl)
  obtain ⟨c0, c1, c2, c3, rfl⟩ : ∃ z0 z1 z2 z3, cs' = [z0, z1, z2, z3] := by
    match cs', hl with
    | [z0, z1, z2, z3], _ => exact ⟨z0, z1, z2, z3, rfl⟩
  obtain ⟨x0, x1, x2, x3, rfl⟩ : ∃ z0 z1 z2 z3, xs = [z0, z1, z2, z3] := by
    match xs, hxl with
    | [z0, z1, z2, z3], _ => exact ⟨z0, z1, z2, z3, rfl⟩
  have k3_ : Try.prog.cellsOf 3 = 1 := by kernel_rfl
  have k4_ : Try.prog.cellsOf 4 = 1 := by kernel_rfl
  have k9_ : Try.prog.cellsOf 9 = 1 := by kernel_rfl
  have k56_ : Try.prog.cellsOf 56 = 1 := by kernel_rfl
  have g0 : DataW.trod enc Try.prog W base spare held m 3 [c0] = some x0 := by simpa [k3_] using hf 0 _ rfl
  obtain ⟨a0, e0, _, _⟩ := DataW.trod_int Try.underlying3 g0
  have g1 : DataW.trod enc Try.prog W base spare held m 9 [c1] = some x1 := by simpa [k9_] using hf 1 _ rfl
  obtain ⟨a1, e1, _, _⟩ := DataW.trod_string Try.underlying9 g1
  have g2 : DataW.trod enc Try.prog W base spare held m 4 [c2] = some x2 := by simpa [k4_] using hf 2 _ rfl
  obtain ⟨a2, e2, _⟩ := DataW.trod_bool Try.underlying4 g2
  have g3 : DataW.trod enc Try.prog W base spare held m 56 [c3] = some x3 := by simpa [k56_] using hf 3 _ rfl
  obtain ⟨A3, a3, s3, e3, l3, C3, b3_, o3⟩ := C_of_slice (d := k61) (Ok := QT) Try.underlying56 (by kernel_rfl) g3 (fun r hr => hw r (DataW.weights_mem_each (j := 3) rfl rfl r hr)) (el61 _)
  simp only [List.cons.injEq, and_true] at e0 e1 e2 e3
  subst e0 e1 e2 e3
  exact ⟨⟨a0, a1, a2, a3⟩, ⟨[.int .i64 a0], _, rfl, rfl, ⟨[.string a1], _, rfl, rfl, ⟨[.bool a2], _, rfl, rfl, ⟨A3, s3, rfl, l3, C3⟩⟩⟩⟩, links_of b3_⟩
theorem el67 (fuel : Nat) : ∀ n cs' (y : DataW H × List MemPlace), n < fuel → DataW.trod enc Try.prog W base spare held n 67 cs' = some y → (∀ m ∈ y.1.weights Try.prog 67, m ≤ reachBytes) → ∃ p, k67.K W p cs' ∧ Q67 p := by
  intro n cs' y hn h hw
  obtain ⟨xs, m, rfl, rfl, hlen, hxl, hf⟩ := DataW.trod_struct Try.underlying67 h
  simp only [DataW.weights, Try.underlying67] at hw
  have hl : cs'.length = 18 := hlen.trans (by kernel_rfl)
  obtain ⟨c0, c1, c2, c3, c4, c5, c6, c7, c8, c9, c10, c11, c12, c13, c14, c15, c16, c17, rfl⟩ : ∃ z0 z1 z2 z3 z4 z5 z6 z7 z8 z9 z10 z11 z12 z13 z14 z15 z16 z17, cs' = [z0, z1, z2, z3, z4, z5, z6, z7, z8, z9, z10, z11, z12, z13, z14, z15, z16, z17] := by
    match cs', hl with
    | [z0, z1, z2, z3, z4, z5, z6, z7, z8, z9, z10, z11, z12, z13, z14, z15, z16, z17], _ => exact ⟨z0, z1, z2, z3, z4, z5, z6, z7, z8, z9, z10, z11, z12, z13, z14, z15, z16, z17, rfl⟩
  obtain ⟨x0, x1, x2, x3, x4, rfl⟩ : ∃ z0 z1 z2 z3 z4, xs = [z0, z1, z2, z3, z4] := by
    match xs, hxl with
    | [z0, z1, z2, z3, z4], _ => exact ⟨z0, z1, z2, z3, z4, rfl⟩
  have k3_ : Try.prog.cellsOf 3 = 1 := by kernel_rfl
  have k9_ : Try.prog.cellsOf 9 = 1 := by kernel_rfl
  have k43_ : Try.prog.cellsOf 43 = 1 := by kernel_rfl
  have k65_ : Try.prog.cellsOf 65 = 14 := by kernel_rfl
  have g0 : DataW.trod enc Try.prog W base spare held m 3 [c0] = some x0 := by simpa [k3_] using hf 0 _ rfl
  obtain ⟨a0, e0, _, _⟩ := DataW.trod_int Try.underlying3 g0
  have g1 : DataW.trod enc Try.prog W base spare held m 9 [c1] = some x1 := by simpa [k9_] using hf 1 _ rfl
  obtain ⟨a1, e1, _, _⟩ := DataW.trod_string Try.underlying9 g1
  have g2 : DataW.trod enc Try.prog W base spare held m 43 [c2] = some x2 := by simpa [k43_] using hf 2 _ rfl
  obtain ⟨A2, a2, s2, e2, l2, C2, b2_, o2⟩ := C_of_slice (d := Kd.string) (Ok := QT) Try.underlying43 (by kernel_rfl) g2 (fun r hr => hw r (DataW.weights_mem_each (j := 2) rfl rfl r hr)) (el9 _)
  have g3 : DataW.trod enc Try.prog W base spare held m 43 [c3] = some x3 := by simpa [k43_] using hf 3 _ rfl
  obtain ⟨A3, a3, s3, e3, l3, C3, b3_, o3⟩ := C_of_slice (d := Kd.string) (Ok := QT) Try.underlying43 (by kernel_rfl) g3 (fun r hr => hw r (DataW.weights_mem_each (j := 3) rfl rfl r hr)) (el9 _)
  have g4 : DataW.trod enc Try.prog W base spare held m 65 [c4, c5, c6, c7, c8, c9, c10, c11, c12, c13, c14, c15, c16, c17] = some x4 := by simpa [k65_] using hf 4 _ rfl
  obtain ⟨a4, K4, o4⟩ := el65 (m + 1) m _ _ (Nat.lt_succ_self m) g4 (fun r hr => hw r (DataW.weights_mem_each (j := 4) rfl rfl r hr))
  simp only [List.cons.injEq, and_true] at e0 e1 e2 e3
  subst e0 e1 e2 e3
  exact ⟨⟨a0, a1, a2, a3, a4⟩, ⟨[.int .i64 a0], _, rfl, rfl, ⟨[.string a1], _, rfl, rfl, ⟨[.slice A2 a2.length s2], _, rfl, ⟨A2, s2, rfl, l2, C2⟩, ⟨[.slice A3 a3.length s3], _, rfl, ⟨A3, s3, rfl, l3, C3⟩, K4⟩⟩⟩⟩, texts_of b2_, texts_of b3_, o4.1, o4.2⟩
theorem el70 (fuel : Nat) : ∀ n cs' (y : DataW H × List MemPlace), n < fuel → DataW.trod enc Try.prog W base spare held n 70 cs' = some y → (∀ m ∈ y.1.weights Try.prog 70, m ≤ reachBytes) → ∃ p, k70.K W p cs' ∧ Q70 p := by
  intro n cs' y hn h hw
  obtain ⟨xs, m, rfl, rfl, hlen, hxl, hf⟩ := DataW.trod_struct Try.underlying70 h
  simp only [DataW.weights, Try.underlying70] at hw
  have hl : cs'.length = 3 := hlen.trans (by kernel_rfl)
  obtain ⟨c0, c1, c2, rfl⟩ : ∃ z0 z1 z2, cs' = [z0, z1, z2] := by
    match cs', hl with
    | [z0, z1, z2], _ => exact ⟨z0, z1, z2, rfl⟩
  obtain ⟨x0, x1, x2, rfl⟩ : ∃ z0 z1 z2, xs = [z0, z1, z2] := by
    match xs, hxl with
    | [z0, z1, z2], _ => exact ⟨z0, z1, z2, rfl⟩
  have k3_ : Try.prog.cellsOf 3 = 1 := by kernel_rfl
  have k9_ : Try.prog.cellsOf 9 = 1 := by kernel_rfl
  have k27_ : Try.prog.cellsOf 27 = 1 := by kernel_rfl
  have g0 : DataW.trod enc Try.prog W base spare held m 3 [c0] = some x0 := by simpa [k3_] using hf 0 _ rfl
  obtain ⟨a0, e0, _, _⟩ := DataW.trod_int Try.underlying3 g0
  have g1 : DataW.trod enc Try.prog W base spare held m 9 [c1] = some x1 := by simpa [k9_] using hf 1 _ rfl
  obtain ⟨a1, e1, _, _⟩ := DataW.trod_string Try.underlying9 g1
  have g2 : DataW.trod enc Try.prog W base spare held m 27 [c2] = some x2 := by simpa [k27_] using hf 2 _ rfl
  obtain ⟨A2, a2, s2, e2, l2, C2, b2_, o2⟩ := C_of_slice (d := k46) (Ok := Q46) Try.underlying27 (by kernel_rfl) g2 (fun r hr => hw r (DataW.weights_mem_each (j := 2) rfl rfl r hr)) (el46 _)
  simp only [List.cons.injEq, and_true] at e0 e1 e2
  subst e0 e1 e2
  exact ⟨⟨a0, a1, a2⟩, ⟨[.int .i64 a0], _, rfl, rfl, ⟨[.string a1], _, rfl, rfl, ⟨A2, s2, rfl, l2, C2⟩⟩⟩, ok46_of b2_ o2⟩
/-- A chart. -/
theorem open_chart {cs : List Value} {fuel : Nat} {x : DataW H × List MemPlace} (h : DataW.trod enc Try.prog W base spare held fuel 34 cs = some x) (hw : ∀ n ∈ x.1.weights Try.prog 34, n ≤ reachBytes) :
    ∃ A0 l0 c0 A1 l1 c1 A2 l2 c2, cs = [.slice A0 l0.length c0, .slice A1 l1.length c1, .slice A2 l2.length c2] ∧ l0.length ≤ c0 ∧ Kd.C k58 W A0 l0.length l0 ∧ l1.length ≤ c1 ∧ Kd.C k67 W A1 l1.length l1 ∧ l2.length ≤ c2 ∧ Kd.C k70 W A2 l2.length l2 ∧ OkC l0 l1 l2 := by
  obtain ⟨xs, m, rfl, rfl, hlen, hxl, hf⟩ := DataW.trod_struct Try.underlying34 h
  simp only [DataW.weights, Try.underlying34] at hw
  have hl : cs.length = 3 := hlen.trans (by kernel_rfl)
  obtain ⟨c0, c1, c2, rfl⟩ : ∃ z0 z1 z2, cs = [z0, z1, z2] := by
    match cs, hl with
    | [z0, z1, z2], _ => exact ⟨z0, z1, z2, rfl⟩
  obtain ⟨x0, x1, x2, rfl⟩ : ∃ z0 z1 z2, xs = [z0, z1, z2] := by
    match xs, hxl with
    | [z0, z1, z2], _ => exact ⟨z0, z1, z2, rfl⟩
  have k30_ : Try.prog.cellsOf 30 = 1 := by kernel_rfl
  have g0 : DataW.trod enc Try.prog W base spare held m 30 [c0] = some x0 := by simpa [k30_] using hf 0 _ rfl
  obtain ⟨A0, a0, s0, e0, l0, C0, b0_, o0⟩ := C_of_slice (d := k58) (Ok := Q58) Try.underlying30 (by kernel_rfl) g0 (fun r hr => hw r (DataW.weights_mem_each (j := 0) rfl rfl r hr)) (el58 _)
  have k31_ : Try.prog.cellsOf 31 = 1 := by kernel_rfl
  have g1 : DataW.trod enc Try.prog W base spare held m 31 [c1] = some x1 := by simpa [k31_] using hf 1 _ rfl
  obtain ⟨A1, a1, s1, e1, l1, C1, b1_, o1⟩ := C_of_slice (d := k67) (Ok := Q67) Try.underlying31 (by kernel_rfl) g1 (fun r hr => hw r (DataW.weights_mem_each (j := 1) rfl rfl r hr)) (el67 _)
  have k32_ : Try.prog.cellsOf 32 = 1 := by kernel_rfl
  have g2 : DataW.trod enc Try.prog W base spare held m 32 [c2] = some x2 := by simpa [k32_] using hf 2 _ rfl
  obtain ⟨A2, a2, s2, e2, l2, C2, b2_, o2⟩ := C_of_slice (d := k70) (Ok := Q70) Try.underlying32 (by kernel_rfl) g2 (fun r hr => hw r (DataW.weights_mem_each (j := 2) rfl rfl r hr)) (el70 _)
  simp only [List.cons.injEq, and_true] at e0 e1 e2
  subst e0 e1 e2
  rw [bytes58] at b0_
  rw [bytes67] at b1_
  rw [bytes70] at b2_
  have := reachBytes_lt
  exact ⟨A0, a0, s0, A1, a1, s1, A2, a2, s2, rfl, l0, C0, l1, C1, l2, C2, ⟨by omega, by omega, by omega, o0, o1, o2⟩⟩
end
end Go.Proofs.Ytmdkbhbconnmmaa.XSfc
