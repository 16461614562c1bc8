/- Slices of expressions and of instructions opened: what they read is a list, and its lists fit in memory. -/
import Derived.Test.YtmdkbhbconnmmaaRows
import Derived.Test.YtmdkbhbconnmmaaPureIlE
import Derived.WalkKit
import Derived.ProofKit
import Derived.OpenShut
import Derived.Carry
import Derived.ChangeOld
import Derived.Below
import Derived.SizedLaws
import Derived.Deep.Slices
import Derived.ChangeSame
namespace Go.Proofs.Ytmdkbhbconnmmaa.XIl
open Go.ChangeShapes Go.WideShapes Go.ChangeAt Go.RowKit Go.Proofs.YtmdkbhbconnmmaaW.PrintWords Go.Proofs.YtmdkbhbconnmmaaW.PrintLast Go.Proofs.YtmdkbhbconnmmaaW.PrintMore
set_option linter.unusedVariables false
theorem wall_ {H : Type} {P : Program} {e : TypeId} {d : DataW H} : ∀ {ds : List (DataW H)}, d ∈ ds → ∀ n ∈ d.weights P e, n ∈ DataW.weightsAll P e ds
  | a :: ds, hd, n, hn => by
    simp only [DataW.weightsAll, List.mem_append]
    rcases List.mem_cons.1 hd with rfl | hd
    · exact .inl hn
    · exact .inr (wall_ hd n hn)
theorem choose_list {α : Type} {R : Nat → α → Prop} : ∀ {n : Nat}, (∀ i, i < n → ∃ p, R i p) → ∃ l : List α, l.length = n ∧ ∀ i p, l[i]? = some p → R i p
  | 0, _ => ⟨[], rfl, fun i p h => by simp at h⟩
  | n + 1, h => by
    obtain ⟨l, hl, hr⟩ := choose_list (n := n) (fun i hi => h i (by omega))
    obtain ⟨p, hp⟩ := h n (by omega)
    refine ⟨l ++ [p], by simp [hl], fun i q hq => ?_⟩
    rcases Nat.lt_trichotomy i n with hi | hi | hi
    · rw [List.getElem?_append_left (by omega)] at hq
      exact hr i q hq
    · subst hi
      rw [← hl, List.getElem?_concat_length] at hq
      cases hq
      rw [hl] at *
      exact hp
    · rw [List.getElem?_eq_none (by simp; omega)] at hq
      cases hq
section
variable {H : Type} {enc : TypeId × Value → H} {W : World} {base : Nat} {spare : Nat → Bool} {held : Bool}
theorem one_le (d : DataW H) : 1 ≤ Rows.uptoBulk d := by
  cases d with
  | lit l => cases l <;> simp [Rows.uptoBulk]
  | _ => simp [Rows.uptoBulk]
theorem part_le {d : DataW H} : ∀ {l : List (DataW H)}, d ∈ l → Rows.uptoBulk d ≤ Rows.uptoBulkAll l
  | x :: r, h => by
    simp only [Rows.uptoBulkAll]
    rcases List.mem_cons.1 h with rfl | e
    · omega
    · have := part_le e
      omega
theorem length_le : ∀ (l : List (DataW H)), l.length ≤ Rows.uptoBulkAll l
  | [] => by simp
  | x :: r => by
    have := one_le x
    have := length_le r
    simp only [Rows.uptoBulkAll, List.length_cons]
    omega
/-- A slice is no longer than what it holds. -/
theorem slice_bulk {t e : TypeId} (ht : Try.prog.underlying t = some (.slice e)) {fuel : Nat} {A : Option Addr} {n c : Nat} {x : DataW H × List MemPlace} (h : DataW.trod enc Try.prog W base spare held fuel t [.slice A n c] = some x) : n ≤ Rows.uptoBulk x.1 := by
  rcases DataW.trod_slice ht h with ⟨e1, _⟩ | ⟨a, len, cap, elems, rest, k, _, e1, rfl, hb, hl, hm, hlen, hget, -, -⟩
  · injection e1 with e1 _
    injection e1 with _ e2 _
    omega
  · injection e1 with e1 _
    injection e1 with _ e2 _
    have := length_le (elems.map (·.1))
    rw [List.length_map] at this
    simp only [Rows.uptoBulk]
    omega
theorem C_of_slice {α : Type} {d : Kd α} {t e : TypeId} {Ok : α → Prop} (ht : Try.prog.underlying t = some (.slice e)) (hC : Try.prog.cellsOf e = d.sz) {fuel : Nat} {cs : List Value} {x : DataW H × List MemPlace} (h : DataW.trod enc Try.prog W base spare held fuel t cs = some x) (hw : ∀ n ∈ x.1.weights Try.prog t, n ≤ reachBytes)
    (hel : ∀ n cs' y, n < fuel → DataW.trod enc Try.prog W base spare held n e cs' = some y → (∀ m ∈ y.1.weights Try.prog e, m ≤ reachBytes) → (∃ es rs, x.1 = DataW.slice es rs ∧ y.1 ∈ es) → ∃ p, d.K W p cs' ∧ Ok p) :
    ∃ (A : Option Addr) (l : List α) (c : Nat), cs = [.slice A l.length c] ∧ l.length ≤ c ∧ Kd.C d W A l.length l ∧ l.length * Try.prog.bytesOf e ≤ reachBytes ∧ ∀ p ∈ l, Ok p := by
  rcases DataW.trod_slice ht h with ⟨rfl, rfl⟩ | ⟨a, len, cap, elems, rest, n, rfl, rfl, rfl, hb, hl, hm, hlen, hget, -, -⟩
  · exact ⟨none, [], 0, rfl, Nat.le_refl _, ⟨rfl, by simp, fun h => by simp at h⟩, by simp, by simp⟩
  · simp only [DataW.weights, ht, List.length_map, List.mem_cons, List.mem_append] at hw
    obtain ⟨l, hll, hR⟩ := choose_list (α := α) (n := len) (R := fun i p => Ok p ∧ ∃ c, d.K W p c ∧ W.cells? base (a.add (i * d.sz)) d.sz = some c) (fun i hi => by
      have hg := hget i hi
      rw [List.getElem?_eq_getElem (by omega), hC] at hg
      obtain ⟨cs', h1, h2⟩ := Option.bind_eq_some_iff.1 hg
      obtain ⟨p, hp, ho⟩ := hel n cs' _ (Nat.lt_succ_self n) h2 (fun m hm' => hw m (.inr (.inl (wall_ (List.mem_map_of_mem (List.getElem_mem (by omega))) m hm')))) ⟨_, _, rfl, List.mem_map_of_mem (List.getElem_mem (by omega))⟩
      exact ⟨p, ho, cs', hp, h1⟩)
    subst hll
    have hb1 := hw _ (.inl rfl)
    rw [hlen] at hb1
    refine ⟨some a, l, cap, rfl, hl, ⟨rfl, by unfold maxLen at hm; omega, fun _ => ⟨a, rfl, fun j p hj => ?_⟩⟩, Nat.le_trans (Nat.mul_le_mul_right _ (Nat.le_add_right _ _)) hb1, fun p hp => ?_⟩
    · obtain ⟨_, c, hk, hc⟩ := hR j p hj
      obtain ⟨_, hcl, hat⟩ := World.cells?_some hc
      refine ⟨c, hcl, hk, fun i u hu => ?_⟩
      have hi : i < d.sz := by rw [← hcl]; exact (List.getElem?_eq_some_iff.1 hu).1
      rw [← Addr.add_add]
      exact (hat i hi).trans hu
    · obtain ⟨i, hi, rfl⟩ := List.mem_iff_getElem.1 hp
      exact (hR i _ (List.getElem?_eq_getElem hi)).1
theorem bytes65 : Try.prog.bytesOf 65 = 168 := by kernel_rfl
theorem bytes9 : Try.prog.bytesOf 9 = 16 := by kernel_rfl
def QT {α : Type} (_ : α) : Prop := True
def Q65 (p : S65) : Prop := Ok65 p.f5 ∧ p.f6.length * 16 ≤ 140737488355328
theorem ok65_of {l : List S65} (h1 : l.length * Try.prog.bytesOf 65 ≤ reachBytes) (h2 : ∀ p ∈ l, Q65 p) : Ok65 l := by
  rw [bytes65] at h1
  have := reachBytes_lt
  exact .mk (by omega) (fun p hp => (h2 p hp).1) (fun p hp => (h2 p hp).2)
theorem texts_of {l : List ByteArray} (h1 : l.length * Try.prog.bytesOf 9 ≤ reachBytes) : l.length * 16 ≤ 140737488355328 := by
  rw [bytes9] at h1
  have := reachBytes_lt
  omega
theorem el9 (fuel : Nat) : ∀ n cs' (y : DataW H × List MemPlace), n < fuel → DataW.trod enc Try.prog W base spare held n 9 cs' = some y → (∀ m ∈ y.1.weights Try.prog 9, m ≤ reachBytes) → ∃ p, Kd.string.K W p cs' ∧ QT p := by
  intro n cs' y _ h _
  obtain ⟨s, rfl, _, _⟩ := DataW.trod_string Try.underlying9 h
  exact ⟨s, rfl, trivial⟩
theorem el65 : ∀ fuel n cs' (y : DataW H × List MemPlace), n < fuel → DataW.trod enc Try.prog W base spare held n 65 cs' = some y → (∀ m ∈ y.1.weights Try.prog 65, m ≤ reachBytes) → ∃ p, k65.K W p cs' ∧ Q65 p := by
  intro fuel
  induction fuel with
  | zero => intro n _ _ h; exact absurd h (by omega)
  | succ fuel ih =>
    intro n cs' y hn h hw
    obtain ⟨xs, m, rfl, rfl, hlen, hxl, hf⟩ := DataW.trod_struct Try.underlying65 h
    simp only [DataW.weights, Try.underlying65] at hw
    have hl : cs'.length = 14 := hlen.trans (by kernel_rfl)
    obtain ⟨c0, c1, c2, c3, c4, c5, c6, c7, c8, c9, c10, c11, c12, c13, rfl⟩ : ∃ z0 z1 z2 z3 z4 z5 z6 z7 z8 z9 z10 z11 z12 z13, cs' = [z0, z1, z2, z3, z4, z5, z6, z7, z8, z9, z10, z11, z12, z13] := by
      match cs', hl with
      | [z0, z1, z2, z3, z4, z5, z6, z7, z8, z9, z10, z11, z12, z13], _ => exact ⟨z0, z1, z2, z3, z4, z5, z6, z7, z8, z9, z10, z11, z12, z13, rfl⟩
    obtain ⟨x0, x1, x2, x3, x4, x5, x6, x7, x8, x9, x10, x11, rfl⟩ : ∃ z0 z1 z2 z3 z4 z5 z6 z7 z8 z9 z10 z11, xs = [z0, z1, z2, z3, z4, z5, z6, z7, z8, z9, z10, z11] := by
      match xs, hxl with
      | [z0, z1, z2, z3, z4, z5, z6, z7, z8, z9, z10, z11], _ => exact ⟨z0, z1, z2, z3, z4, z5, z6, z7, z8, z9, z10, z11, rfl⟩
    have k3 : Try.prog.cellsOf 3 = 1 := by kernel_rfl
    have k9 : Try.prog.cellsOf 9 = 1 := by kernel_rfl
    have k22 : Try.prog.cellsOf 22 = 1 := by kernel_rfl
    have k40 : Try.prog.cellsOf 40 = 1 := by kernel_rfl
    have k42 : Try.prog.cellsOf 42 = 1 := by kernel_rfl
    have k43 : Try.prog.cellsOf 43 = 1 := by kernel_rfl
    have k63 : Try.prog.cellsOf 63 = 3 := by kernel_rfl
    have g0 : DataW.trod enc Try.prog W base spare held m 3 [c0] = some x0 := by simpa [k3] using hf 0 _ rfl
    obtain ⟨a0, e0, _, _⟩ := DataW.trod_int Try.underlying3 g0
    have g1 : DataW.trod enc Try.prog W base spare held m 3 [c1] = some x1 := by simpa [k3] using hf 1 _ rfl
    obtain ⟨a1, e1, _, _⟩ := DataW.trod_int Try.underlying3 g1
    have g2 : DataW.trod enc Try.prog W base spare held m 9 [c2] = some x2 := by simpa [k9] using hf 2 _ rfl
    obtain ⟨a2, e2, _, _⟩ := DataW.trod_string Try.underlying9 g2
    have g3 : DataW.trod enc Try.prog W base spare held m 9 [c3] = some x3 := by simpa [k9] using hf 3 _ rfl
    obtain ⟨a3, e3, _, _⟩ := DataW.trod_string Try.underlying9 g3
    have g4 : DataW.trod enc Try.prog W base spare held m 63 [c4, c5, c6] = some x4 := by simpa [k63] using hf 4 _ rfl
    obtain ⟨ys, m2, _, _, _, hyl, hf2⟩ := DataW.trod_struct Try.underlying63 g4
    obtain ⟨y0, y1, y2, rfl⟩ : ∃ z0 z1 z2, ys = [z0, z1, z2] := by
      match ys, hyl with
      | [z0, z1, z2], _ => exact ⟨z0, z1, z2, rfl⟩
    have p0 : DataW.trod enc Try.prog W base spare held m2 22 [c4] = some y0 := by simpa [k22] using hf2 0 _ rfl
    obtain ⟨b0, d0, _, _⟩ := DataW.trod_int Try.underlying22 p0
    have p1 : DataW.trod enc Try.prog W base spare held m2 40 [c5] = some y1 := by simpa [k40] using hf2 1 _ rfl
    obtain ⟨b1, d1, _, _⟩ := DataW.trod_int Try.underlying40 p1
    have p2 : DataW.trod enc Try.prog W base spare held m2 9 [c6] = some y2 := by simpa [k9] using hf2 2 _ rfl
    obtain ⟨b2, d2, _, _⟩ := DataW.trod_string Try.underlying9 p2
    have g5 : DataW.trod enc Try.prog W base spare held m 42 [c7] = some x5 := by simpa [k42] using hf 5 _ rfl
    obtain ⟨A5, a5, s5, e5, l5, C5, b5_, o5⟩ := C_of_slice (d := k65) (Ok := Q65) Try.underlying42 (by kernel_rfl) g5 (fun r hr => hw r (DataW.weights_mem_each (j := 5) rfl rfl r hr)) (fun r cs y hr h hw _ => ih r cs y (by omega) h hw)
    have g6 : DataW.trod enc Try.prog W base spare held m 43 [c8] = some x6 := by simpa [k43] using hf 6 _ rfl
    obtain ⟨A6, a6, s6, e6, l6, C6, b6_, o6⟩ := C_of_slice (d := Kd.string) (Ok := QT) Try.underlying43 (by kernel_rfl) g6 (fun r hr => hw r (DataW.weights_mem_each (j := 6) rfl rfl r hr)) (fun r cs y hr h hw _ => el9 _ r cs y hr h hw)
    have g7 : DataW.trod enc Try.prog W base spare held m 22 [c9] = some x7 := by simpa [k22] using hf 7 _ rfl
    obtain ⟨a7, e7, _, _⟩ := DataW.trod_int Try.underlying22 g7
    have g8 : DataW.trod enc Try.prog W base spare held m 3 [c10] = some x8 := by simpa [k3] using hf 8 _ rfl
    obtain ⟨a8, e8, _, _⟩ := DataW.trod_int Try.underlying3 g8
    have g9 : DataW.trod enc Try.prog W base spare held m 3 [c11] = some x9 := by simpa [k3] using hf 9 _ rfl
    obtain ⟨a9, e9, _, _⟩ := DataW.trod_int Try.underlying3 g9
    have g10 : DataW.trod enc Try.prog W base spare held m 3 [c12] = some x10 := by simpa [k3] using hf 10 _ rfl
    obtain ⟨a10, e10, _, _⟩ := DataW.trod_int Try.underlying3 g10
    have g11 : DataW.trod enc Try.prog W base spare held m 3 [c13] = some x11 := by simpa [k3] using hf 11 _ rfl
    obtain ⟨a11, e11, _, _⟩ := DataW.trod_int Try.underlying3 g11
    simp only [List.cons.injEq, and_true] at e0 e1 e2 e3 d0 d1 d2 e5 e6 e7 e8 e9 e10 e11
    subst e0 e1 e2 e3 d0 d1 d2 e5 e6 e7 e8 e9 e10 e11
    exact ⟨⟨a0, a1, a2, a3, ⟨b0, b1, b2⟩, a5, a6, a7, a8, a9, a10, a11⟩, k65_mk W ⟨a0, a1, a2, a3, ⟨b0, b1, b2⟩, a5, a6, a7, a8, a9, a10, a11⟩ l5 C5 l6 C6, ok65_of b5_ o5, texts_of b6_⟩
theorem el81 : ∀ n cs' (y : DataW H × List MemPlace), DataW.trod enc Try.prog W base spare held n 81 cs' = some y → (∀ m ∈ y.1.weights Try.prog 81, m ≤ reachBytes) → Rows.uptoBulk y.1 ≤ 1048576 → ∃ p, k81.K W p cs' ∧ Q81 p := by
  intro n cs' y h hw hk
  obtain ⟨xs, m, rfl, rfl, hlen, hxl, hf⟩ := DataW.trod_struct Try.underlying81 h
  simp only [DataW.weights, Try.underlying81] at hw
  have hl : cs'.length = 11 := hlen.trans (by kernel_rfl)
  obtain ⟨c0, c1, c2, c3, c4, c5, c6, c7, c8, c9, c10, rfl⟩ : ∃ z0 z1 z2 z3 z4 z5 z6 z7 z8 z9 z10, cs' = [z0, z1, z2, z3, z4, z5, z6, z7, z8, z9, z10] := by
    match cs', hl with
    | [z0, z1, z2, z3, z4, z5, z6, z7, z8, z9, z10], _ => exact ⟨z0, z1, z2, z3, z4, z5, z6, z7, z8, z9, z10, rfl⟩
  obtain ⟨x0, x1, x2, x3, x4, x5, x6, x7, x8, x9, x10, rfl⟩ : ∃ z0 z1 z2 z3 z4 z5 z6 z7 z8 z9 z10, xs = [z0, z1, z2, z3, z4, z5, z6, z7, z8, z9, z10] := by
    match xs, hxl with
    | [z0, z1, z2, z3, z4, z5, z6, z7, z8, z9, z10], _ => exact ⟨z0, z1, z2, z3, z4, z5, z6, z7, z8, z9, z10, rfl⟩
  have k3 : Try.prog.cellsOf 3 = 1 := by kernel_rfl
  have k4 : Try.prog.cellsOf 4 = 1 := by kernel_rfl
  have k9 : Try.prog.cellsOf 9 = 1 := by kernel_rfl
  have k42 : Try.prog.cellsOf 42 = 1 := by kernel_rfl
  have k43 : Try.prog.cellsOf 43 = 1 := by kernel_rfl
  have g0 : DataW.trod enc Try.prog W base spare held m 3 [c0] = some x0 := by simpa [k3] using hf 0 _ rfl
  obtain ⟨a0, e0, _, _⟩ := DataW.trod_int Try.underlying3 g0
  have g1 : DataW.trod enc Try.prog W base spare held m 9 [c1] = some x1 := by simpa [k9] using hf 1 _ rfl
  obtain ⟨a1, e1, _, _⟩ := DataW.trod_string Try.underlying9 g1
  have g2 : DataW.trod enc Try.prog W base spare held m 9 [c2] = some x2 := by simpa [k9] using hf 2 _ rfl
  obtain ⟨a2, e2, _, _⟩ := DataW.trod_string Try.underlying9 g2
  have g3 : DataW.trod enc Try.prog W base spare held m 4 [c3] = some x3 := by simpa [k4] using hf 3 _ rfl
  obtain ⟨a3, e3, _⟩ := DataW.trod_bool Try.underlying4 g3
  have g4 : DataW.trod enc Try.prog W base spare held m 4 [c4] = some x4 := by simpa [k4] using hf 4 _ rfl
  obtain ⟨a4, e4, _⟩ := DataW.trod_bool Try.underlying4 g4
  have g5 : DataW.trod enc Try.prog W base spare held m 4 [c5] = some x5 := by simpa [k4] using hf 5 _ rfl
  obtain ⟨a5, e5, _⟩ := DataW.trod_bool Try.underlying4 g5
  have g6 : DataW.trod enc Try.prog W base spare held m 9 [c6] = some x6 := by simpa [k9] using hf 6 _ rfl
  obtain ⟨a6, e6, _, _⟩ := DataW.trod_string Try.underlying9 g6
  have g7 : DataW.trod enc Try.prog W base spare held m 42 [c7] = some x7 := by simpa [k42] using hf 7 _ rfl
  obtain ⟨A7, a7, s7, e7, l7, C7, b7_, o7⟩ := C_of_slice (d := k65) (Ok := Q65) Try.underlying42 (by kernel_rfl) g7 (fun r hr => hw r (DataW.weights_mem_each (j := 7) rfl rfl r hr)) (fun r cs y hr h hw _ => el65 _ r cs y hr h hw)
  have g8 : DataW.trod enc Try.prog W base spare held m 43 [c8] = some x8 := by simpa [k43] using hf 8 _ rfl
  obtain ⟨A8, a8, s8, e8, l8, C8, b8_, o8⟩ := C_of_slice (d := Kd.string) (Ok := QT) Try.underlying43 (by kernel_rfl) g8 (fun r hr => hw r (DataW.weights_mem_each (j := 8) rfl rfl r hr)) (fun r cs y hr h hw _ => el9 _ r cs y hr h hw)
  have g9 : DataW.trod enc Try.prog W base spare held m 42 [c9] = some x9 := by simpa [k42] using hf 9 _ rfl
  obtain ⟨A9, a9, s9, e9, l9, C9, b9_, o9⟩ := C_of_slice (d := k65) (Ok := Q65) Try.underlying42 (by kernel_rfl) g9 (fun r hr => hw r (DataW.weights_mem_each (j := 9) rfl rfl r hr)) (fun r cs y hr h hw _ => el65 _ r cs y hr h hw)
  have g10 : DataW.trod enc Try.prog W base spare held m 43 [c10] = some x10 := by simpa [k43] using hf 10 _ rfl
  obtain ⟨A10, a10, s10, e10, l10, C10, b10_, o10⟩ := C_of_slice (d := Kd.string) (Ok := QT) Try.underlying43 (by kernel_rfl) g10 (fun r hr => hw r (DataW.weights_mem_each (j := 10) rfl rfl r hr)) (fun r cs y hr h hw _ => el9 _ r cs y hr h hw)
  simp only [List.cons.injEq, and_true] at e0 e1 e2 e3 e4 e5 e6 e7 e8 e9 e10
  subst e0 e1 e2 e3 e4 e5 e6 e7 e8 e9 e10
  simp only [Rows.uptoBulk, List.map_cons, List.map_nil, Rows.uptoBulkAll] at hk
  have z7 := slice_bulk Try.underlying42 g7
  have z9 := slice_bulk Try.underlying42 g9
  exact ⟨⟨a0, a1, a2, a3, a4, a5, a6, a7, a8, a9, a10⟩, k81_mk W ⟨a0, a1, a2, a3, a4, a5, a6, a7, a8, a9, a10⟩ l7 C7 l8 C8 l9 C9 l10 C10, ok65_of b7_ o7, by show a7.length ≤ _; omega, texts_of b8_, ok65_of b9_ o9, by show a9.length ≤ _; omega, texts_of b10_⟩
/-- A slice of instructions. -/
theorem open_ins {cs : List Value} {fuel : Nat} {x : DataW H × List MemPlace} (h : DataW.trod enc Try.prog W base spare held fuel 37 cs = some x) (hw : ∀ n ∈ x.1.weights Try.prog 37, n ≤ reachBytes) (hk : Rows.uptoBulk x.1 ≤ 1048576) :
    ∃ (A : Option Addr) (l : List S81) (c : Nat), cs = [.slice A l.length c] ∧ l.length ≤ c ∧ Kd.C k81 W A l.length l ∧ l.length ≤ 1048576 ∧ ∀ p ∈ l, Q81 p := by
  obtain ⟨A, l, c, e, hl, hC, hb, ho⟩ := C_of_slice (d := k81) (Ok := Q81) Try.underlying37 (by kernel_rfl) h hw (fun r cs' y hr h hw hm => by
    obtain ⟨es, rs, e1, e2⟩ := hm
    refine el81 r cs' y h hw ?_
    have := part_le e2
    rw [e1] at hk
    simp only [Rows.uptoBulk] at hk
    omega)
  subst e
  exact ⟨A, l, c, rfl, hl, hC, Nat.le_trans (slice_bulk Try.underlying37 h) hk, ho⟩
end
end Go.Proofs.Ytmdkbhbconnmmaa.XIl
