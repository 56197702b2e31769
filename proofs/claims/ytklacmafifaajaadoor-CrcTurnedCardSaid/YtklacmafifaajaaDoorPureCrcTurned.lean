import Derived.Test.YtklacmafifaajaaDoorRCrcTurned
import Derived.Test.YtklacmafifaajaaDoorPureBits
namespace Go.Proofs.YtklacmafifaajaaDoor.Pure
open Go Go.RowKit Go.WideShapes Go.Proofs.YtklacmafifaajaaDoor.QCrcTurned Go.Proofs.YtklacmafifaajaaDoorW.PrintWords Go.Proofs.YtklacmafifaajaaDoorW.PrintLast Go.Proofs.YtklacmafifaajaaDoor.PureBits

namespace Turned
theorem awake5 : sumpterlaw03_awake.f 5 = some true := by decide +kernel
theorem awake6 : sumpterlaw03_awake.f 6 = some true := by decide +kernel
theorem more (a : Int) (l : List Int) : QCrcTurned.crc_More.f a l = some (V (M (BitVec.ofInt 32 a) l)) := congrArg some (more_eq a l)
theorem of (l : List Int) : QCrcTurned.crc_Of.f l = some (V (M 0#32 l)) := by
  unfold QCrcTurned.crc_Of.f; rw [more]; rfl
theorem bytes (k : Nat) (c : Int) : QCrcTurned.crc_Bytes.f (k + 5) c = some (four c) := by
  have e1 : wrap64 1 = 1 := w64 (by decide)
  have e8 : wrap64 8 = 8 := w64 (by decide)
  have e2 : wrap64 2 = 2 := w64 (by decide)
  have e3 : wrap64 3 = 3 := w64 (by decide)
  have e4 : wrap64 4 = 4 := w64 (by decide)
  have e0 : wrap64 0 = 0 := w64 (by decide)
  have e16 : wrap64 16 = 16 := w64 (by decide)
  have e24 : wrap64 24 = 24 := w64 (by decide)
  simp [QCrcTurned.crc_Bytes.f, QCrcTurned.crc_Bytes.l0, e0, e1, e2, e3, e4, e8, e16, e24, shr, four, List.replicate, IntKind.bits]
theorem sealed (k : Nat) (l : List Int) (h : l.length ≤ 4000) : QCrcTurned.crc_Seal.f (k + 5) l = some (l ++ four (V (M 0#32 l))) := by
  unfold QCrcTurned.crc_Seal.f QCrcTurned.bytes_Clone.f
  rw [if_pos (by omega), Option.bind_some, of, Option.bind_some, bytes, Option.bind_some, if_pos (by simp [four]; omega)]
theorem open_ (k : Nat) (l t : List Int) (h : l.length ≤ 4000) (h4 : t.length = 4) (ht : ∀ x ∈ t, 0 ≤ x ∧ x < 256) :
    QCrcTurned.crc_Open.f (k + 5) (l ++ t) = if four (V (M 0#32 l)) = t then some (l, 0) else some ([], 14) := by
  unfold QCrcTurned.crc_Open.f
  have e : wrap64 (((l ++ t).length : Int) - 4) = (l.length : Int) := by
    rw [List.length_append, h4]; exact (w64 (by omega)).trans (by omega)
  rw [e, if_neg (by omega), if_pos (by omega), if_pos (by rw [List.length_append]; omega)]
  rw [show ((l.length : Int).toNat) = l.length from rfl, List.take_left, List.drop_left, of, Option.bind_some, bytes, Option.bind_some]
  unfold QCrcTurned.bytes_Equal.f
  rw [Option.bind_some]
  by_cases hq : four (V (M 0#32 l)) = t
  · rw [if_pos hq, hq, if_pos (by simp)]
    unfold QCrcTurned.bytes_Clone.f
    rw [if_pos (by omega), Option.bind_some]
  · rw [if_neg hq, if_neg (by
      intro hh
      exact hq (toList_inj (four_in _) ht (by simpa using hh)))]
theorem xor8 {x y : Int} (hx : 0 ≤ x ∧ x < 256) (hy : 0 ≤ y ∧ y < 256) (h : Go.bits .xor .u8 x y = x) : y = 0 := by
  have e : Go.bits .xor .u8 x y = ((BitVec.ofInt 8 x ^^^ BitVec.ofInt 8 y).toNat : Int) := by
    have : Go.bits .xor .u8 x y = IntKind.u8.wrap ((BitVec.ofInt 8 x ^^^ BitVec.ofInt 8 y).toNat : Int) := rfl
    rw [this, IntKind.wrap_u8]
    have := (BitVec.ofInt 8 x ^^^ BitVec.ofInt 8 y).isLt
    omega
  have hx' : ((BitVec.ofInt 8 x).toNat : Int) = x := by simp only [BitVec.toNat_ofInt]; omega
  have hy' : ((BitVec.ofInt 8 y).toNat : Int) = y := by simp only [BitVec.toNat_ofInt]; omega
  rw [e] at h
  have h2 : BitVec.ofInt 8 x ^^^ BitVec.ofInt 8 y = BitVec.ofInt 8 x := BitVec.eq_of_toNat_eq (by omega)
  have h3 := congrArg (BitVec.ofInt 8 x ^^^ ·) h2
  simp only [← BitVec.xor_assoc, BitVec.xor_self, BitVec.zero_xor] at h3
  rw [h3] at hy'
  simpa using hy'.symm
theorem xor8_in (x y : Int) : 0 ≤ Go.bits .xor .u8 x y ∧ Go.bits .xor .u8 x y < 256 := by
  have := bounds_u8 (wf_bits .xor .u8 x y)
  omega
end Turned
open Turned
theorem CrcTurned : sumpterlaw03_CrcTurned.Pure2 := by
  intro l a t _ _ hl ha ht
  refine ⟨6, ?_⟩
  have hl' : ∀ x ∈ l, 0 ≤ x ∧ x < 256 := fun x hx => by have := bounds_u8 (hl x hx); omega
  have hb := bounds_u16 ha
  have htb := bounds_u8 ht
  unfold sumpterlaw03_CrcTurned.f
  by_cases h : (l.length : Int) > 4000
  · rw [if_pos h, awake6]; rfl
  rw [if_neg h, sealed 1 l (by omega), Option.bind_some, open_ 1 l _ (by omega) rfl (four_in _), if_pos rfl, Option.bind_some, if_pos rfl, if_pos rfl]
  have hlen : ((l ++ four (V (M 0#32 l))).length : Int) = (l.length : Int) + 4 := by simp [four]
  rw [hlen, w64 (x := (l.length : Int) + 4) (by omega)]
  rw [show (6 : Nat) = 5 + 1 from rfl]
  simp only [sumpterlaw03_CrcTurned.j0]
  rw [if_neg (by simp)]
  by_cases h0 : t = 0
  · rw [if_pos h0, awake5]; rfl
  rw [if_neg h0, hlen, w64 (x := a) (by omega), if_neg (by omega)]
  have e : Int.tmod a ((l.length : Int) + 4) = a % ((l.length : Int) + 4) := Int.tmod_eq_emod_of_nonneg (by omega)
  have g0 := Int.emod_nonneg a (b := (l.length : Int) + 4) (by omega)
  have g1 := Int.emod_lt_of_pos a (b := (l.length : Int) + 4) (by omega)
  rw [e]
  generalize a % ((l.length : Int) + 4) = j at g0 g1
  obtain ⟨i, rfl⟩ : ∃ i : Nat, j = (i : Int) := ⟨j.toNat, by omega⟩
  rw [if_pos g0, if_pos g1]
  have hi : ((i : Int)).toNat = i := rfl
  have fin : ∀ l' t' : List Int, l'.length ≤ 4000 → t'.length = 4 → (∀ x ∈ t', 0 ≤ x ∧ x < 256) → four (V (M 0#32 l')) ≠ t' →
      ((QCrcTurned.crc_Open.f 5 (l' ++ t')).bind fun bt138 => (if bt138.2 = 14 then (if (bt138.1.length : Int) = 0 then ((sumpterlaw03_awake.f 5).bind fun t142 => (some t142)) else (none)) else (none))) = some true := by
    intro l' t' a1 a2 a3 a4
    rw [open_ 0 l' t' a1 a2 a3, if_neg a4, Option.bind_some, if_pos rfl, awake5]
    rfl
  rw [hi]
  have hne : ∀ x : Int, (0 ≤ x ∧ x < 256) → Go.bits .xor .u8 x t ≠ x := fun x hx hq => h0 (xor8 hx ⟨htb.1, by omega⟩ hq)
  unfold rd
  rw [hi]
  by_cases hc : i < l.length
  · rw [List.set_append_left _ _ hc]
    refine fin _ _ (by simp; omega) rfl (four_in _) ?_
    intro hq
    have hM := V_inj (four_inj (V_lt _) (V_lt _) hq)
    have hs : l.set i (Go.bits .xor .u8 ((l ++ four (V (M 0#32 l))).getD i 0) t) = l.take i ++ (Go.bits .xor .u8 l[i] t) :: l.drop (i + 1) := by
      rw [List.set_eq_take_append_cons_drop, if_pos hc]
      simp [List.getD, List.getElem?_append_left hc, hc]
    have hl2 : l = l.take i ++ l[i] :: l.drop (i + 1) := by simp
    rw [hs] at hM
    conv at hM => rhs; rw [hl2]
    exact hne _ (hl' _ (List.getElem_mem hc)) (M_set _ _ _ _ _ (xor8_in _ _) (hl' _ (List.getElem_mem hc)) hM)
  · rw [List.set_append_right _ _ (by omega)]
    have hm : i - l.length < (four (V (M 0#32 l))).length := by simp [four]; omega
    have hg : (l ++ four (V (M 0#32 l))).getD i 0 = (four (V (M 0#32 l)))[i - l.length] := by
      simp only [List.getD, List.getElem?_append_right (show l.length ≤ i by omega)]
      rw [List.getElem?_eq_getElem hm]; rfl
    rw [hg]
    have hin := four_in (V (M 0#32 l)) _ (List.getElem_mem hm)
    refine fin _ _ (by omega) (by simp [four]) ?_ ?_
    · intro x hx
      rcases List.mem_or_eq_of_mem_set hx with h1 | rfl
      · exact four_in _ x h1
      · exact xor8_in _ _
    · intro hq
      have := congrArg (fun z => z[i - l.length]?) hq
      simp only [List.getElem?_set_self hm, List.getElem?_eq_getElem hm, Option.some.injEq] at this
      exact hne _ hin this.symm
end Go.Proofs.YtklacmafifaajaaDoor.Pure
