/- The row of the statement GatherFinal: for every input the law returns true, and its arguments read as before. No condition. -/
import Derived.Test.YtiladcdogbeomaaRows
import Derived.Test.YtiladcdogbeomaaNi
import Derived.WalkKit
import Derived.ProofKit
import Derived.OpenShut
import Derived.ShutString
import Derived.ChangeOld
import Derived.Below
import Derived.SizedLaws
import Derived.Test.YtiladcdogbeomaaWSized
namespace Go.Proofs.Ytiladcdogbeomaa.gatherFinal
open Go.ChangeShapes Go.WideShapes Go.ChangeAt Go.RowKit Go.Proofs.Ytiladcdogbeomaa.Opens Go.Proofs.Ytiladcdogbeomaa.Acts
open Go.ChangeMaps (open_string shut_string)
open Go.Proofs.Ytiladcdogbeomaa.QRangesPlays Go.Proofs.YtiladcdogbeomaaW.PrintWords
set_option linter.unusedVariables false
theorem own : ownKnob Try.prog.godebug = none := by kernel_rfl
theorem laidOut : laidOutB Try.prog = true := by kernel_rfl
set_option maxRecDepth 100000 in
theorem lifted (os : Os) (started : os.Started) (H : Type) (enc : TypeId × Value → H) :
    ReturnsInHanded {} Try.checked os 5 .any (Rows.gatherFinalSpec.pre6 enc Try.prog Try.f5 Rows.gatherFinalRow.domain false) (Rows.gatherFinalSpec.post enc Try.prog Try.f5 false true false false) := by
  refine returnsInHanded_of_change_sized (C := Try.checked) own started (by kernel_rfl) Try.func5
    (ChangeSpec.witness6 (enc := enc) (C := Try.checked) false ⟨#[], #[.slice none 0 0, .agg #[.int .u8 0, .int .i64 0, .string ByteArray.empty, .bool false]], []⟩ 8 (by kernel_rfl) (by kernel_rfl) (by kernel_rfl) (by kernel_rfl)) ?_
  intro W base args ds gs before hval0 hW hcnd hsz0 _
  have hsz : (DataW.weightsEach Try.prog (Try.f5.params.toList ++ Rows.gatherFinalSpec.plain.varTypes Try.prog) (ds ++ gs)).all (· ≤ reachBytes) = true := hsz0
  have hval : ∀ (j : Nat) t v, Try.f5.params[j]? = some t → args[j]? = some v → Value.okWide Try.prog W .any base t v := hval0
  have hW' := hW
  obtain ⟨p, q, hA0, hV, rfl, hfz, hnd⟩ := hW
  have hA : DataW.TrodAll enc Try.prog W 0 (fun _ => true) true Try.f5.params.toList args.toList ds p := hA0
  rw [Try.params5] at hA hval hsz
  obtain ⟨v0, vs0, d0, ds0, p0, q0, hargs, rfl, rfl, h0, r0⟩ := trodAll_cons hA
  obtain ⟨v1, vs1, d1, ds1, p1, q1, rfl, rfl, rfl, h1, r1⟩ := trodAll_cons r0
  obtain ⟨rfl, rfl, rfl⟩ := trodAll_nil r1
  obtain rfl : args = #[v0, v1] := by cases args; simp_all
  obtain ⟨rfl, rfl⟩ := trodVars_none hV
  have k0 := h0
  have lt0 : ∀ x ∈ p0, x.block < W.heap.size := by obtain ⟨m, hm⟩ := k0; exact DataW.trod_lt m _ _ _ hm
  obtain ⟨a0, len0, cap0, rfl⟩ := okWide_slice Try.underlying62 (hval 0 62 v0 rfl rfl)
  obtain ⟨x0, hx0, ox0⟩ : ∃ y, (Kd.slice 64 k64).K W y [.slice a0 len0 cap0] ∧ okGacts y := by obtain ⟨fuel, hf⟩ := h0; exact opens62 H enc W 0 _ _ _ _ _ hf
  obtain ⟨A0, c0, e0, hc0, hr0⟩ := hx0
  obtain ⟨rfl, rfl, rfl⟩ : a0 = A0 ∧ len0 = x0.length ∧ cap0 = c0 := by simpa using e0
  have k1 := h1
  have lt1 : ∀ x ∈ p1, x.block < W.heap.size := by obtain ⟨m, hm⟩ := k1; exact DataW.trod_lt m _ _ _ hm
  obtain ⟨cs1, rfl, _⟩ := okWide_struct Try.underlying64 (hval 1 64 v1 rfl rfl)
  obtain ⟨x1, hx1, ox1⟩ : ∃ y, k64.K W y cs1.toList ∧ ok64 y := by obtain ⟨fuel, hf⟩ := h1; exact opens64 H enc W 0 _ _ _ _ _ hf
  have e1 := k64_open hx1
  obtain rfl : cs1 = #[.int .u8 x1.1, .int .i64 x1.2.1, .string x1.2.2.1, .bool x1.2.2.2] := by rw [← Array.toArray_toList (xs := cs1), e1]
  clear hA0 hval0 hsz0 hsz
  refine (GatherFinal_walk _ _ x0 x1.1 x1.2.1 x1.2.2.1 x1.2.2.2 W (gRow_of hr0) (gOk_of ox0) hc0).mono fun e W' ⟨he, bel⟩ => ?_
  subst he
  exact ⟨_, rfl, _, _, _, [], _, [], hW', trodAll_mk1 (shut_bool Try.underlying4 _), (trodAll_cons_mk (Below.trod laidOut (by kernel_rfl) (of_decide_eq_true (by kernel_rfl)) k0 bel lt0) (trodAll_cons_mk (Below.trod laidOut (by kernel_rfl) (of_decide_eq_true (by kernel_rfl)) k1 bel lt1) trodAll_mk0)), rfl, bel.frame _, fun h => by cases h⟩
theorem over : Rows.gatherFinalRow.holds Try.pinned (OpenSpec.ofChange Rows.gatherFinalSpec) :=
  OpenClaim.holds_of_wide 5 Try.f5 rfl rfl rfl rfl rfl rfl rfl ⟨rfl, rfl, rfl, rfl, rfl⟩ rfl rfl rfl rfl rfl (by kernel_rfl) Try.func5 (by kernel_rfl)
    (of_decide_eq_true (by kernel_rfl)) (by unfold Func.isWrapper; first | (rw [if_pos (by decide +kernel)]; kernel_rfl) | (rw [if_neg (by decide +kernel)]; exact ⟨rfl, rfl⟩))
    (fun os started H enc _ => lifted os started H enc)
theorem proved : Rows.GatherFinalSaid := over
#print axioms proved
end Go.Proofs.Ytiladcdogbeomaa.gatherFinal
namespace Go.Proofs.Ytiladcdogbeomaa
/-- The row, under a short name, for the claim. -/
theorem gatherFinal_holds : Rows.GatherFinalSaid := gatherFinal.proved
end Go.Proofs.Ytiladcdogbeomaa
