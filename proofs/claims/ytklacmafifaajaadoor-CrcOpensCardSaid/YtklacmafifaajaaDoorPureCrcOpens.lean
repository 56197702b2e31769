import Derived.Test.YtklacmafifaajaaDoorRCrcOpens
import Derived.Test.YtklacmafifaajaaDoorPureBits
namespace Go.Proofs.YtklacmafifaajaaDoor.Pure
open Go Go.RowKit Go.WideShapes Go.Proofs.YtklacmafifaajaaDoor.QCrcOpens Go.Proofs.YtklacmafifaajaaDoorW.PrintWords Go.Proofs.YtklacmafifaajaaDoorW.PrintLast Go.Proofs.YtklacmafifaajaaDoor.PureBits

namespace OpensP
theorem awake : ∀ k : Nat, sumpterlaw03_awake.f (k + 5) = some true
  | 0 => by decide +kernel
  | k + 1 => sumpterlaw03_awake.mono (k + 5) _ (awake k)
theorem more (a : Int) (l : List Int) : QCrcOpens.crc_More.f a l = some (V (M (BitVec.ofInt 32 a) l)) := congrArg some (more_eq a l)
theorem of (l : List Int) : QCrcOpens.crc_Of.f l = some (V (M 0#32 l)) := by
  unfold QCrcOpens.crc_Of.f; rw [more]; rfl
theorem bytes4 (k : Nat) (c : Int) : QCrcOpens.crc_Bytes.f (k + 5) c = some (four c) := by
  have e1 : wrap64 1 = 1 := w64 (by decide)
  have e8 : wrap64 8 = 8 := w64 (by decide)
  have e2 : wrap64 2 = 2 := w64 (by decide)
  have e3 : wrap64 3 = 3 := w64 (by decide)
  have e4 : wrap64 4 = 4 := w64 (by decide)
  have e0 : wrap64 0 = 0 := w64 (by decide)
  have e16 : wrap64 16 = 16 := w64 (by decide)
  have e24 : wrap64 24 = 24 := w64 (by decide)
  simp [QCrcOpens.crc_Bytes.f, QCrcOpens.crc_Bytes.l0, e0, e1, e2, e3, e4, e8, e16, e24, shr, four, List.replicate, IntKind.bits]
theorem odd_V (c : BitVec 32) : (Int.tmod (V c) 2 = 1) ↔ c.getLsbD 0 = true := by
  have h := V_lt c
  rw [Int.tmod_eq_emod_of_nonneg h.1, BitVec.getLsbD, Nat.testBit_zero]
  simp only [V, decide_eq_true_eq]
  omega
theorem half_V (c : BitVec 32) : Int.tdiv (V c) 2 % (4294967296 : Int) = V (c >>> 1) := by
  have h := V_lt c
  rw [Int.tdiv_eq_ediv_of_nonneg h.1, div2_V]
  have := V_lt (c >>> 1)
  omega
theorem poly_V : (3988292384 : Int) = V poly := by decide
theorem bit (k : Nat) (c : BitVec 32) (l : List Int) (i : Int) (j : Int) (h0 : 0 ≤ j) (h8 : j < 8) :
    sumpterref03_run.l1 (k + 1) (V c) l i j = sumpterref03_run.l1 k (V (b1 c)) l i (j + 1) := by
  simp only [sumpterref03_run.l1]
  rw [if_pos h8, w64 (x := j + 1) (by omega), half_V, poly_V, xor_V]
  unfold b1
  by_cases h : c.getLsbD 0 = true
  · rw [if_pos ((odd_V c).mpr h), if_pos h]
  · rw [if_neg (fun hh => h ((odd_V c).mp hh)), if_neg h]
theorem eight (k : Nat) (c : BitVec 32) (l : List Int) (i : Int) : sumpterref03_run.l1 (k + 9) (V c) l i 0 = sumpterref03_run.l0 k (V (b8 c)) l (wrap64 (i + 1)) := by
  rw [bit (k + 8) c l i 0 (by decide) (by decide), bit (k + 7) _ l i _ (by decide) (by decide), bit (k + 6) _ l i _ (by decide) (by decide), bit (k + 5) _ l i _ (by decide) (by decide),
    bit (k + 4) _ l i _ (by decide) (by decide), bit (k + 3) _ l i _ (by decide) (by decide), bit (k + 2) _ l i _ (by decide) (by decide), bit (k + 1) _ l i _ (by decide) (by decide)]
  simp only [sumpterref03_run.l1]
  rw [if_neg (by decide)]
  rfl
theorem run_at (k : Nat) (l : List Int) (hl : l.length ≤ 4000) : ∀ (m i : Nat) (c : BitVec 32), m + i = l.length → sumpterref03_run.l0 (10 * m + 1 + k) (V c) l i = some (V ((l.drop i).foldl stepB c))
  | 0, i, c, h => by
    rw [show 10 * 0 + 1 + k = k + 1 by omega]
    simp only [sumpterref03_run.l0]
    rw [if_neg (by omega), List.drop_of_length_le (by omega)]
    rfl
  | m + 1, i, c, h => by
    have hi : i < l.length := by omega
    rw [show 10 * (m + 1) + 1 + k = (10 * m + 1 + k + 9) + 1 by omega]
    simp only [sumpterref03_run.l0]
    rw [if_pos (by omega), if_pos (by omega), xor_eq, ofInt_V, ofInt_mod, eight, w64 (x := (i : Int) + 1) (by omega)]
    have ih := run_at k l hl m (i + 1) (b8 (c ^^^ BitVec.ofInt 32 (rd l i))) (by omega)
    rw [show (((i + 1 : Nat)) : Int) = (i : Int) + 1 from rfl] at ih
    rw [ih, List.drop_eq_getElem_cons hi, List.foldl_cons]
    have : rd l (i : Int) = l[i] := by simp [rd, List.getD, hi]
    rw [this]
    rfl
theorem run (K : Nat) (c : BitVec 32) (l : List Int) (hl : l.length ≤ 4000) (hK : 10 * l.length + 1 ≤ K) : sumpterref03_run.f K (V c) l = some (V (l.foldl stepB c)) := by
  unfold sumpterref03_run.f
  have := run_at (K - (10 * l.length + 1)) l hl l.length 0 c (by omega)
  rw [show 10 * l.length + 1 + (K - (10 * l.length + 1)) = K by omega] at this
  exact this
theorem ref_of (K : Nat) (l : List Int) (hl : l.length ≤ 4000) (hK : 10 * l.length + 1 ≤ K) : sumpterref03_Of.f K l = some (V (M 0#32 l)) := by
  unfold sumpterref03_Of.f
  rw [show (4294967295 : Int) = V (~~~0#32) by decide, run K _ l hl hK, Option.bind_some, inv_V]
  rfl
theorem ref_bytes (c : Int) : sumpterref03_Bytes.f c = some (four c) := rfl
theorem sealed (k : Nat) (l : List Int) (h : l.length ≤ 4000) : QCrcOpens.crc_Seal.f (k + 5) l = some (l ++ four (V (M 0#32 l))) := by
  unfold QCrcOpens.crc_Seal.f QCrcOpens.bytes_Clone.f
  rw [if_pos (by omega), Option.bind_some, of, Option.bind_some, bytes4, Option.bind_some, if_pos (by simp [four]; omega)]
theorem ref_sealed (K : Nat) (l : List Int) (h : l.length ≤ 4000) (hK : 10 * l.length + 1 ≤ K) : sumpterref03_Seal.f K l = some (l ++ four (V (M 0#32 l))) := by
  unfold sumpterref03_Seal.f
  rw [Option.bind_some, if_pos (by simp; omega), Option.bind_some, ref_of K l h hK, Option.bind_some, ref_bytes, Option.bind_some, if_pos (by simp [four]; omega)]
  rfl
theorem opened (k : Nat) (l : List Int) (h : l.length ≤ 4000) (hK : 10 * l.length + 1 ≤ k + 5) :
    QCrcOpens.crc_Open.f (k + 5) l = sumpterref03_Open.f (k + 5) l ∧ ∃ r, sumpterref03_Open.f (k + 5) l = some r := by
  unfold QCrcOpens.crc_Open.f sumpterref03_Open.f
  rw [w64 (x := (l.length : Int) - 4) (by omega)]
  by_cases h4 : (l.length : Int) < 4
  · rw [if_pos (by omega), if_pos h4]
    exact ⟨rfl, _, rfl⟩
  rw [if_neg (by omega), if_neg h4, if_pos (by omega), if_pos (by omega), if_pos (by omega), if_pos (by omega)]
  have hn : ((l.length : Int) - 4).toNat = l.length - 4 := by omega
  rw [hn, of, Option.bind_some, bytes4, Option.bind_some, ref_of (k + 5) (l.take (l.length - 4)) (by simp; omega) (by simp; omega), Option.bind_some, ref_bytes, Option.bind_some]
  unfold QCrcOpens.bytes_Equal.f
  rw [Option.bind_some]
  by_cases hq : (strOfNums (four (V (M 0#32 (l.take (l.length - 4)))))).toList = (strOfNums (l.drop (l.length - 4))).toList
  · rw [if_pos hq, if_pos (by simp [hq])]
    unfold QCrcOpens.bytes_Clone.f
    rw [if_pos (by simp; omega), Option.bind_some, Option.bind_some, if_pos (by simp; omega)]
    exact ⟨rfl, _, rfl⟩
  · rw [if_neg hq, if_neg (by simpa using hq)]
    exact ⟨rfl, _, rfl⟩
end OpensP
open OpensP
theorem CrcOpens : sumpterlaw03_CrcOpens.Pure2 := by
  intro l _ _ hl
  refine ⟨10 * l.length + 6 + 5, ?_⟩
  unfold sumpterlaw03_CrcOpens.f
  by_cases h : (l.length : Int) > 4000
  · rw [if_pos h, awake]; rfl
  obtain ⟨e, r, hr⟩ := opened (10 * l.length + 6) l (by omega) (by omega)
  rw [if_neg h, e, hr, Option.bind_some, Option.bind_some, sealed _ l (by omega), Option.bind_some, ref_sealed _ l (by omega) (by omega), Option.bind_some, if_pos rfl, if_pos rfl, if_pos rfl, awake]
  rfl
end Go.Proofs.YtklacmafifaajaaDoor.Pure
