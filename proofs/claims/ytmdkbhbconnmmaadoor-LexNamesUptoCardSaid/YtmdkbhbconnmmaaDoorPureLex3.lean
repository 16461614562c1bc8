/- LexNames, third part: addresses read by both, and the law. (This text: of the Lean functions alone.) -/
import Derived.Test.YtmdkbhbconnmmaaDoorPureLex2
import Derived.KernelRfl
namespace Go.Proofs.YtmdkbhbconnmmaaDoor.PureLex
open Go.RowKit Go.Proofs.YtmdkbhbconnmmaaDoor.XLex Go.Proofs.YtmdkbhbconnmmaaDoorW.PrintWords Go.Proofs.YtmdkbhbconnmmaaDoorW.PrintLast Go.Proofs.YtmdkbhbconnmmaaDoorW.PrintMore Go.Proofs.YtmdkbhbconnmmaaDoor.Num
set_option linter.unusedVariables false
set_option linter.unusedSimpArgs false

theorem dir_all : ∀ n : Fin 256, Lib.indexByte [77, 73, 81] n.val.toUInt8 = if n.val = 77 then 0 else if n.val = 73 then 1 else if n.val = 81 then 2 else -1 := by decide +kernel
theorem kind_all : ∀ n : Fin 256, Lib.indexByte [88, 66, 87, 68, 76] n.val.toUInt8 = if n.val = 88 then 0 else if n.val = 66 then 1 else if n.val = 87 then 2 else if n.val = 68 then 3 else if n.val = 76 then 4 else -1 := by decide +kernel
theorem dir_eq (s : ByteArray) : addrD s = if bt s 1 = 77 then 0 else if bt s 1 = 73 then 1 else if bt s 1 = 81 then 2 else -1 := by
  have h := bt_range s 1
  have a := dir_all ⟨(bt s 1).toNat, by omega⟩
  unfold addrD
  simp only at a
  rw [a]
  repeat' split
  all_goals first | rfl | omega
theorem kind_eq (s : ByteArray) : addrK s = if bt s 2 = 88 then 0 else if bt s 2 = 66 then 1 else if bt s 2 = 87 then 2 else if bt s 2 = 68 then 3 else if bt s 2 = 76 then 4 else -1 := by
  have h := bt_range s 2
  have a := kind_all ⟨(bt s 2).toNat, by omega⟩
  unfold addrK
  simp only at a
  rw [a]
  repeat' split
  all_goals first | rfl | omega
noncomputable instance (s : ByteArray) : Decidable (goodX s) := Classical.propDecidable _
noncomputable instance (s : ByteArray) : Decidable (goodN s) := Classical.propDecidable _
theorem bt_ext (s : ByteArray) (j : Int) (h0 : 0 ≤ j) (h : j < (s.size : Int) - 3) : bt (s.extract 3 s.size) j = bt s (3 + j) := by
  obtain ⟨b, h1, h2⟩ := bt_list s (3 + j.toNat) (by omega)
  have hz : j.toNat < (s.extract 3 s.size).size := by rw [ByteArray.size_extract]; omega
  obtain ⟨b', h3, h4⟩ := bt_list (s.extract 3 s.size) j.toNat hz
  rw [Lib.extract_data, List.getElem?_take, if_pos (by omega), List.getElem?_drop, h1] at h3
  rw [show ((j.toNat : Nat) : Int) = j by omega] at h4
  rw [show ((3 + j.toNat : Nat) : Int) = 3 + j by omega] at h2
  rw [h4, h2, Option.some.inj h3]
/-- The program's address, with a point, without. -/
theorem addrX_eq (s : ByteArray) (d : Int) (hs : s.size ≤ 1048576) (h4 : 4 ≤ (s.size : Int)) : addrX (s.extract 3 s.size) d = if goodX s then (1, d, true) else (0, 0, false) := by
  have hz : ((s.extract 3 s.size).size : Int) = (s.size : Int) - 3 := by rw [ByteArray.size_extract]; omega
  unfold addrX
  rw [hz]
  by_cases c0 : (s.size : Int) - 3 < 3
  · rw [if_pos c0, if_neg (fun g => by have := g.1; omega)]
  rw [if_neg c0, wrap_eq (a := (s.size : Int) - 3 - 2) (by omega) (by omega), wrap_eq (a := (s.size : Int) - 3 - 1) (by omega) (by omega), bt_ext s _ (by omega) (by omega), bt_ext s _ (by omega) (by omega)]
  rw [show (3 : Int) + ((s.size : Int) - 3 - 2) = (s.size : Int) - 2 by omega, show (3 : Int) + ((s.size : Int) - 3 - 1) = (s.size : Int) - 1 by omega]
  by_cases c1 : bt s ((s.size : Int) - 2) = 46
  case neg => rw [if_pos c1, if_neg (fun g => c1 g.2.1)]
  rw [if_neg (fun e => e c1)]
  by_cases c2 : bt s ((s.size : Int) - 1) < 48
  · rw [if_pos c2, if_neg (fun g => by have := g.2.2.1; omega)]
  rw [if_neg c2]
  by_cases c3 : bt s ((s.size : Int) - 1) > 55
  · rw [if_pos c3, if_neg (fun g => by have := g.2.2.2.1; omega)]
  rw [if_neg c3, addrT_eq]
  have hd : ((s.extract 3 s.size).extract 0 ((s.size : Int) - 3 - 2).toNat).data.toList = (s.data.toList.drop 3).take (s.size - 5) := by
    rw [Lib.extract_data, Lib.extract_data, List.drop_zero, List.take_take]
    congr 1
    omega
  have hq : ((s.extract 3 s.size).extract 0 ((s.size : Int) - 3 - 2).toNat).size = s.size - 5 := by
    rw [ByteArray.size_extract, ByteArray.size_extract]; omega
  have hn := numeral_places s (s.size - 5) (by omega)
  rw [hd, hq]
  have e1 : ((s.size - 5 : Nat) : Int) = (s.size : Int) - 5 := by omega
  by_cases g : goodX s
  · rw [if_pos g, if_pos ⟨hn.2 ⟨by have := g.1; omega, fun j a b => g.2.2.2.2.2.1 j a (by omega), fun h => g.2.2.2.2.2.2 ⟨by omega, h.2⟩⟩, by have := g.2.2.2.2.1; omega⟩]
  · rw [if_neg g, if_neg]
    rintro ⟨h1, h2⟩
    obtain ⟨k1, k2, k3⟩ := hn.1 h1
    exact g ⟨by omega, c1, by omega, by omega, by omega, fun j a b => k2 j a (by omega), fun h => k3 ⟨by omega, h.2⟩⟩
theorem addrN_eq (s : ByteArray) (b d : Int) (hs : s.size ≤ 1048576) (h4 : 4 ≤ (s.size : Int)) : addrT (s.extract 3 s.size) b d = if goodN s then (b, d, true) else (0, 0, false) := by
  have hd : (s.extract 3 s.size).data.toList = (s.data.toList.drop 3).take (s.size - 3) := Lib.extract_data _ _ _
  have hq : (s.extract 3 s.size).size = s.size - 3 := by rw [ByteArray.size_extract]; omega
  have hn := numeral_places s (s.size - 3) (by omega)
  rw [addrT_eq, hd, hq]
  have e1 : ((s.size - 3 : Nat) : Int) = (s.size : Int) - 3 := by omega
  by_cases g : goodN s
  · rw [if_pos g, if_pos ⟨hn.2 ⟨by omega, fun j a b => g.2.2.1 j a (by omega), fun h => g.2.2.2 ⟨by omega, h.2⟩⟩, by have := g.2.1; omega⟩]
  · rw [if_neg g, if_neg]
    rintro ⟨h1, h2⟩
    obtain ⟨k1, k2, k3⟩ := hn.1 h1
    exact g ⟨by omega, by omega, fun j a b => k2 j a (by omega), fun h => k3 ⟨by omega, h.2⟩⟩

/-- Is the second byte a direction, the third a width? -/
def okD (s : ByteArray) : Prop := bt s 1 = 73 ∨ bt s 1 = 81 ∨ bt s 1 = 77
def okK (s : ByteArray) : Prop := bt s 2 = 88 ∨ bt s 2 = 66 ∨ bt s 2 = 87 ∨ bt s 2 = 68 ∨ bt s 2 = 76
instance (s : ByteArray) : Decidable (okD s) := by unfold okD; infer_instance
instance (s : ByteArray) : Decidable (okK s) := by unfold okK; infer_instance
def dirOf (s : ByteArray) : Int := if bt s 1 = 73 then 1 else if bt s 1 = 81 then 2 else 0
def bitsOf (s : ByteArray) : Int := if bt s 2 = 66 then 8 else if bt s 2 = 87 then 16 else if bt s 2 = 68 then 32 else if bt s 2 = 76 then 64 else 1
/-- What both tell. -/
noncomputable def told (s : ByteArray) : Int × Int × Bool :=
  if 4 ≤ (s.size : Int) ∧ bt s 0 = 37 ∧ okD s ∧ okK s ∧ (if bt s 2 = 88 then goodX s else goodN s) then (bitsOf s, dirOf s, true) else (0, 0, false)
theorem prog_told (s : ByteArray) (hs : s.size ≤ 1048576) : addrF s = told s := by
  unfold addrF told
  by_cases c0 : (s.size : Int) < 4
  · rw [if_pos c0, if_neg (fun h => by have := h.1; omega)]
  rw [if_neg c0]
  by_cases c1 : bt s 0 = 37
  case neg => rw [if_pos c1, if_neg (fun h => c1 h.2.1)]
  rw [if_neg (fun e => e c1), dir_eq, kind_eq]
  by_cases c2 : okD s
  case neg =>
    have n1 : ¬ bt s 1 = 77 := fun e => c2 (.inr (.inr e))
    have n2 : ¬ bt s 1 = 73 := fun e => c2 (.inl e)
    have n3 : ¬ bt s 1 = 81 := fun e => c2 (.inr (.inl e))
    rw [if_neg n1, if_neg n2, if_neg n3, if_pos (by omega), if_neg (fun h => c2 h.2.2.1)]
  have hD : (if bt s 1 = 77 then (0 : Int) else if bt s 1 = 73 then 1 else if bt s 1 = 81 then 2 else -1) = dirOf s := by
    unfold dirOf
    rcases c2 with h | h | h <;> rw [h] <;> rfl
  have hD0 : ¬ dirOf s < 0 := by
    unfold dirOf
    repeat' split
    all_goals omega
  rw [hD, if_neg hD0]
  by_cases c3 : okK s
  case neg =>
    have n1 : ¬ bt s 2 = 88 := fun e => c3 (.inl e)
    have n2 : ¬ bt s 2 = 66 := fun e => c3 (.inr (.inl e))
    have n3 : ¬ bt s 2 = 87 := fun e => c3 (.inr (.inr (.inl e)))
    have n4 : ¬ bt s 2 = 68 := fun e => c3 (.inr (.inr (.inr (.inl e))))
    have n5 : ¬ bt s 2 = 76 := fun e => c3 (.inr (.inr (.inr (.inr e))))
    rw [if_neg n1, if_neg n2, if_neg n3, if_neg n4, if_neg n5, if_pos (by omega), if_neg (fun h => c3 h.2.2.2.1)]
  by_cases cx : bt s 2 = 88
  · have hb : bitsOf s = 1 := by unfold bitsOf; rw [cx]; rfl
    rw [if_pos cx, if_neg (by omega), if_pos rfl, addrX_eq s _ hs (by omega), hb]
    by_cases g : goodX s
    · rw [if_pos g, if_pos ⟨by omega, c1, c2, c3, by rw [if_pos cx]; exact g⟩]
    · rw [if_neg g, if_neg (fun h => g (by have := h.2.2.2.2; rw [if_pos cx] at this; exact this))]
  · rw [if_neg cx, addrN_eq s _ _ hs (by omega), addrX_eq s _ hs (by omega)]
    have hb : ∃ k : Int, (if bt s 2 = 66 then (1 : Int) else if bt s 2 = 87 then 2 else if bt s 2 = 68 then 3 else if bt s 2 = 76 then 4 else -1) = k ∧ 0 < k ∧ addrB k = bitsOf s := by
      unfold bitsOf
      rcases c3 with h | h | h | h | h
      · exact absurd h cx
      all_goals (rw [h]; exact ⟨_, rfl, by decide, by rfl⟩)
    obtain ⟨k, hk, k0, hb⟩ := hb
    rw [hk, if_neg (by omega), if_neg (by omega), hb]
    by_cases g : goodN s
    · rw [if_pos g, if_pos ⟨by omega, c1, c2, c3, by rw [if_neg cx]; exact g⟩]
    · rw [if_neg g, if_neg (fun h => g (by have := h.2.2.2.2; rw [if_neg cx] at this; exact this))]
end Go.Proofs.YtmdkbhbconnmmaaDoor.PureLex
