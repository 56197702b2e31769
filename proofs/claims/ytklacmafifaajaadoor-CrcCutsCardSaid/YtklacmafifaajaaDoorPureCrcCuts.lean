import Derived.Test.YtklacmafifaajaaDoorRCrcCuts
import Derived.Test.YtklacmafifaajaaDoorPureBits
import Derived.OpenShut
namespace Go.Proofs.YtklacmafifaajaaDoor.Pure
open Go Go.RowKit Go.WideShapes Go.Proofs.YtklacmafifaajaaDoor.QCrcCuts Go.Proofs.YtklacmafifaajaaDoorW.PrintWords Go.Proofs.YtklacmafifaajaaDoorW.PrintLast Go.Proofs.YtklacmafifaajaaDoor.PureBits

theorem CrcCuts_awake : sumpterlaw03_awake.f 5 = some true := by decide +kernel
theorem CrcCuts_more (a : Int) (l : List Int) : QCrcCuts.crc_More.f a l = some (V (M (BitVec.ofInt 32 a) l)) := congrArg some (more_eq a l)
theorem CrcCuts_of (l : List Int) : QCrcCuts.crc_Of.f l = some (V (M 0#32 l)) := by
  unfold QCrcCuts.crc_Of.f; rw [CrcCuts_more]; rfl
theorem CrcCuts_w64 {x : Int} (h : -9223372036854775808 ≤ x ∧ x < 9223372036854775808) : wrap64 x = x := by unfold wrap64; omega
theorem CrcCuts : sumpterlaw03_CrcCuts.Pure2 := by
  intro l0 a1 _ _ _ h1
  refine ⟨5, ?_⟩
  unfold sumpterlaw03_CrcCuts.f
  rw [CrcCuts_awake]
  by_cases h : (l0.length : Int) > 4000
  · rw [if_pos h]; rfl
  · rw [if_neg h]
    have hb := bounds_u16 h1
    rw [CrcCuts_w64 (x := (l0.length : Int) + 1) (by omega), CrcCuts_w64 (x := a1) (by omega)]
    rw [if_neg (by omega)]
    have e : Int.tmod a1 ((l0.length : Int) + 1) = a1 % ((l0.length : Int) + 1) := Int.tmod_eq_emod_of_nonneg (by omega)
    have g0 := Int.emod_nonneg a1 (b := (l0.length : Int) + 1) (by omega)
    have g1 := Int.emod_lt_of_pos a1 (b := (l0.length : Int) + 1) (by omega)
    rw [e]
    generalize a1 % ((l0.length : Int) + 1) = j at g0 g1
    rw [if_pos g0, if_pos (by omega)]
    rw [CrcCuts_of, Option.bind_some, CrcCuts_more, Option.bind_some, ofInt_V, M_append, List.take_append_drop, CrcCuts_of, Option.bind_some, if_pos rfl]
    rfl
end Go.Proofs.YtklacmafifaajaaDoor.Pure
