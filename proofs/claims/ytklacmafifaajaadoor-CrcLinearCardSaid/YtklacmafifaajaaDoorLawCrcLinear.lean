/- The row of the statement CrcLinear: for every input the law returns true, and its arguments read as before. No condition. -/
import Derived.Test.YtklacmafifaajaaDoorRows
import Derived.Test.YtklacmafifaajaaDoorCards
import Derived.Test.YtklacmafifaajaaDoorTie
import Derived.Test.YtklacmafifaajaaDoorLaid
import Derived.SevenTiedAt
import Derived.ProofKit
import Derived.LaidMore
import Derived.Stop.Joined
import Derived.Test.YtklacmafifaajaaDoorRCrcLinear
import Derived.Test.YtklacmafifaajaaDoorPureCrcLinear
import Derived.WalkKit
import Derived.ProofKit
import Derived.OpenShut
import Derived.ShutString
import Derived.ChangeOld
import Derived.Below
import Derived.SizedLaws
import Derived.Test.YtklacmafifaajaaDoorWSized
namespace Go.Proofs.YtklacmafifaajaaDoor.crcLinear
open Go.ChangeShapes Go.WideShapes Go.ChangeAt Go.RowKit Go.Proofs.YtklacmafifaajaaDoor.Opens
open Go.ChangeMaps (open_string shut_string)
open Go.Proofs.YtklacmafifaajaaDoor.QCrcLinear Go.Proofs.YtklacmafifaajaaDoorW.PrintWords
set_option linter.unusedVariables false
theorem own : ownKnob Tryd.prog.godebug = none := by kernel_rfl
theorem laidOut : laidOutB Tryd.prog = true := by kernel_rfl
set_option maxRecDepth 100000 in
theorem lifted (os : Os) (started : os.Started) (H : Type) (enc : TypeId × Value → H) :
    ReturnsInHanded {} Tryd.checked os 7 .any (fun w args => (Rows.crcLinearSpec.pre enc Tryd.prog Tryd.f7 [] false w args ∧ laidMetH Tryd.prog Laid.laid w) ∧ sizedMet enc Tryd.prog Tryd.f7 (OpenSpec.ofChange Rows.crcLinearSpec) false w args) (Rows.crcLinearSpec.post enc Tryd.prog Tryd.f7 false true false false) := by
  refine returnsInHanded_of_change_and (C := Tryd.checked) (X := fun w _ => laidMetH Tryd.prog Laid.laid w) (fun _ _ _ hh h => h.of_heap hh) own started (by kernel_rfl) Tryd.func7
    (ChangeSpec.witness_shaped (enc := enc) (C := Tryd.checked) (os := os) (X := fun w _ => laidMetH Tryd.prog Laid.laid w) false (World.doorLaid Tryd.prog 400 os) #[.slice none 0 0, .slice none 0 0, .slice none 0 0] 8 rfl (World.shaped_of_RefB (by kernel_rfl) (by kernel_rfl)) (by kernel_rfl) (by kernel_rfl) (by kernel_rfl) (Laid.door_met os _)) ?_
  intro W base args ds gs before hval0 hW hcnd hsz0 hL _
  have hT : Go.Proofs.YtklacmafifaajaaDoor.QCrcLinear.TabOK W := ⟨(Laid.cells hL).1, (Laid.cells hL).2⟩
  have hsz : (DataW.weightsEach Tryd.prog (Tryd.f7.params.toList ++ Rows.crcLinearSpec.plain.varTypes Tryd.prog) (ds ++ gs)).all (· ≤ reachBytes) = true := hsz0
  have hval : ∀ (j : Nat) t v, Tryd.f7.params[j]? = some t → args[j]? = some v → Value.okWide Tryd.prog W .any base t v := hval0
  have hW' := hW
  obtain ⟨p, q, hA0, hV, rfl, hfz, hnd⟩ := hW
  have hA : DataW.TrodAll enc Tryd.prog W 0 (fun _ => true) true Tryd.f7.params.toList args.toList ds p := hA0
  rw [Tryd.params7] at hA hval hsz
  obtain ⟨v0, vs0, d0, ds0, p0, q0, hargs, rfl, rfl, h0, r0⟩ := trodAll_cons hA
  obtain ⟨v1, vs1, d1, ds1, p1, q1, rfl, rfl, rfl, h1, r1⟩ := trodAll_cons r0
  obtain ⟨v2, vs2, d2, ds2, p2, q2, rfl, rfl, rfl, h2, r2⟩ := trodAll_cons r1
  obtain ⟨rfl, rfl, rfl⟩ := trodAll_nil r2
  obtain rfl : args = #[v0, v1, v2] := by cases args; simp_all
  obtain ⟨rfl, rfl⟩ := trodVars_none hV
  have k0 := h0
  have lt0 : ∀ x ∈ p0, x.block < W.heap.size := by obtain ⟨m, hm⟩ := k0; exact DataW.trod_lt m _ _ _ hm
  obtain ⟨a0, len0, cap0, rfl⟩ := okWide_slice Tryd.underlying23 (hval 0 23 v0 rfl rfl)
  have y0 : len0 * 1 ≤ 140737488351232 := Go.Proofs.YtklacmafifaajaaDoorW.PrintWords.sized_ints hsz (j := 0) (t := 23) rfl rfl Tryd.underlying23 Tryd.underlying5 (by kernel_rfl) (by kernel_rfl) h0
  obtain ⟨x0, hx0, ox0⟩ : ∃ y, (Kd.slice 5 (Kd.int .u8)).K W y [.slice a0 len0 cap0] ∧ (y.length ≤ 9223372036854775807 ∧ ∀ x ∈ y, (fun x => (Lit.int .u8 x).wf = true) x) := by obtain ⟨fuel, hf⟩ := h0; exact (opens_slice Tryd.underlying23 (by kernel_rfl) (opens_int Tryd.underlying5)) H enc W 0 _ _ _ _ _ hf
  obtain ⟨A0, c0, e0, hc0, hr0⟩ := hx0
  obtain ⟨rfl, rfl, rfl⟩ : a0 = A0 ∧ len0 = x0.length ∧ cap0 = c0 := by simpa using e0
  have k1 := h1
  have lt1 : ∀ x ∈ p1, x.block < W.heap.size := by obtain ⟨m, hm⟩ := k1; exact DataW.trod_lt m _ _ _ hm
  obtain ⟨a1, len1, cap1, rfl⟩ := okWide_slice Tryd.underlying23 (hval 1 23 v1 rfl rfl)
  have y1 : len1 * 1 ≤ 140737488351232 := Go.Proofs.YtklacmafifaajaaDoorW.PrintWords.sized_ints hsz (j := 1) (t := 23) rfl rfl Tryd.underlying23 Tryd.underlying5 (by kernel_rfl) (by kernel_rfl) h1
  obtain ⟨x1, hx1, ox1⟩ : ∃ y, (Kd.slice 5 (Kd.int .u8)).K W y [.slice a1 len1 cap1] ∧ (y.length ≤ 9223372036854775807 ∧ ∀ x ∈ y, (fun x => (Lit.int .u8 x).wf = true) x) := by obtain ⟨fuel, hf⟩ := h1; exact (opens_slice Tryd.underlying23 (by kernel_rfl) (opens_int Tryd.underlying5)) H enc W 0 _ _ _ _ _ hf
  obtain ⟨A1, c1, e1, hc1, hr1⟩ := hx1
  obtain ⟨rfl, rfl, rfl⟩ : a1 = A1 ∧ len1 = x1.length ∧ cap1 = c1 := by simpa using e1
  have k2 := h2
  have lt2 : ∀ x ∈ p2, x.block < W.heap.size := by obtain ⟨m, hm⟩ := k2; exact DataW.trod_lt m _ _ _ hm
  obtain ⟨a2, len2, cap2, rfl⟩ := okWide_slice Tryd.underlying23 (hval 2 23 v2 rfl rfl)
  have y2 : len2 * 1 ≤ 140737488351232 := Go.Proofs.YtklacmafifaajaaDoorW.PrintWords.sized_ints hsz (j := 2) (t := 23) rfl rfl Tryd.underlying23 Tryd.underlying5 (by kernel_rfl) (by kernel_rfl) h2
  obtain ⟨x2, hx2, ox2⟩ : ∃ y, (Kd.slice 5 (Kd.int .u8)).K W y [.slice a2 len2 cap2] ∧ (y.length ≤ 9223372036854775807 ∧ ∀ x ∈ y, (fun x => (Lit.int .u8 x).wf = true) x) := by obtain ⟨fuel, hf⟩ := h2; exact (opens_slice Tryd.underlying23 (by kernel_rfl) (opens_int Tryd.underlying5)) H enc W 0 _ _ _ _ _ hf
  obtain ⟨A2, c2, e2, hc2, hr2⟩ := hx2
  obtain ⟨rfl, rfl, rfl⟩ : a2 = A2 ∧ len2 = x2.length ∧ cap2 = c2 := by simpa using e2
  clear hA0 hval0 hsz0 hsz
  obtain ⟨k, hk⟩ := Pure.CrcLinear x0 x1 x2 ox0.1 y0 ox0.2 ox1.1 y1 ox1.2 ox2.1 y2 ox2.2
  refine (Go.Proofs.YtklacmafifaajaaDoor.QCrcLinear.sumpterlaw03_CrcLinear.calls k _ _ x0 _ _ x1 _ _ x2 true W hr0 hc0 hr1 hc1 hr2 hc2 hT hk).mono fun e W' ⟨he, bel⟩ => ?_
  subst he
  exact ⟨_, rfl, _, _, _, [], _, [], hW', trodAll_mk1 (shut_bool Tryd.underlying4 _), (trodAll_cons_mk (Below.trod laidOut (by kernel_rfl) (of_decide_eq_true (by kernel_rfl)) k0 bel lt0) (trodAll_cons_mk (Below.trod laidOut (by kernel_rfl) (of_decide_eq_true (by kernel_rfl)) k1 bel lt1) (trodAll_cons_mk (Below.trod laidOut (by kernel_rfl) (of_decide_eq_true (by kernel_rfl)) k2 bel lt2) trodAll_mk0))), rfl, bel.frame _, fun h => by cases h⟩
theorem over : Rows.crcLinearRow.holds Tryd.pinned (OpenSpec.ofChange Rows.crcLinearSpec) :=
  OpenClaim.holds_of_wide 7 Tryd.f7 rfl rfl rfl rfl rfl rfl rfl ⟨rfl, rfl, rfl, rfl, rfl⟩ rfl rfl rfl rfl rfl (by kernel_rfl) Tryd.func7 (by kernel_rfl)
    (of_decide_eq_true (by kernel_rfl)) (by unfold Func.isWrapper; first | (rw [if_pos (by decide +kernel)]; kernel_rfl) | (rw [if_neg (by decide +kernel)]; exact ⟨rfl, rfl⟩))
    (fun os started H enc _ => lifted os started H enc)
theorem row : Rows.CrcLinearSaid := over
set_option maxRecDepth 100000 in
theorem proved : Rows.CrcLinearCardSaid :=
  Claim7.holds_tied_plain_at .later [] [.data] true (true, "70f522143ecf948c0d1630cfe31cefd6c92889f74d76e2ea9c1b23c4ba97045b") false
    row (fun _ h => by cases h) (by kernel_rfl) (fun _ h => by cases h) crcLinear_row_tie rfl ⟨rfl, rfl⟩ (by kernel_rfl) rfl
    (fun f fn hf hfn => by
      obtain rfl : f = 7 := Option.some.inj ((show Tryd.prog.funcNamed Rows.crcLinearRow.func = some 7 by kernel_rfl).symm.trans hf) |>.symm
      obtain rfl : fn = Tryd.f7 := (Option.some.inj (Tryd.func7.symm.trans hfn)).symm
      exact ⟨by kernel_rfl, fun j t ht => by
        rw [Tryd.params7] at ht
        rcases j with _ | _ | _ | j <;> simp at ht <;> subst ht <;> kernel_rfl⟩)
    (by kernel_rfl)
#print axioms proved
end Go.Proofs.YtklacmafifaajaaDoor.crcLinear
namespace Go.Proofs.YtklacmafifaajaaDoor
/-- The row, under a short name, for the claim. -/
theorem crcLinear_holds : Rows.CrcLinearCardSaid := crcLinear.proved
end Go.Proofs.YtklacmafifaajaaDoor
