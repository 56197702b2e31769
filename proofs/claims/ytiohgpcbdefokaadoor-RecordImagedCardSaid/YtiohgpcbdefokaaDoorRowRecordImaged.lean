/- The row of the statement RecordImaged: for every input the law returns true, and its arguments read as before. No condition. -/
import Derived.Test.YtiohgpcbdefokaaDoorRows
import Derived.Test.YtiohgpcbdefokaaDoorCards
import Derived.Test.YtiohgpcbdefokaaDoorTie
import Derived.Test.YtiohgpcbdefokaaDoorMRecordImageda
import Derived.Test.YtiohgpcbdefokaaDoorMRecordImagedb
import Derived.Test.YtiohgpcbdefokaaDoorMRecordImagedd
import Derived.SevenTiedAt
import Derived.ProofKit
import Derived.LaidMore
import Derived.Stop.Joined
import Derived.WalkKit
import Derived.OpenShut
import Derived.ShutString
import Derived.ChangeOld
import Derived.Below
import Derived.SizedLaws
namespace Go.Proofs.YtiohgpcbdefokaaDoor.recordImaged
open Go.ChangeShapes Go.WideShapes Go.ChangeAt Go.RowKit Go.Proofs.YtiohgpcbdefokaaDoor.Opens
open Go.Proofs.YtiohgpcbdefokaaDoor.B Go.Proofs.YtiohgpcbdefokaaDoorW.PrintWords
set_option linter.unusedVariables false
theorem own : ownKnob Tryd.prog.godebug = none := by kernel_rfl
theorem laidOut : laidOutB Tryd.prog = true := by kernel_rfl
theorem okRc_of {l : List RcT} (h : okRs l) : ∀ r ∈ l.map toRc, okRc r := by
  intro r hr
  obtain ⟨x, hx, rfl⟩ := List.mem_map.1 hr
  obtain ⟨h1, h2, h3, _⟩ := h.2 x hx
  exact ⟨(bounds_u8 h1).1, (bounds_i64 h2).1, h3⟩
set_option maxRecDepth 100000 in
theorem lifted (os : Os) (started : os.Started) (H : Type) (enc : TypeId × Value → H) :
    ReturnsInHanded {} Tryd.checked os 11 .any (fun w args => (Rows.recordImagedSpec.pre enc Tryd.prog Tryd.f11 [] false w args ∧ laidMetH Tryd.prog Laid.laid w) ∧ sizedMet enc Tryd.prog Tryd.f11 (OpenSpec.ofChange Rows.recordImagedSpec) false w args) (Rows.recordImagedSpec.post enc Tryd.prog Tryd.f11 false true false false) := by
  refine Laid.handed_laid_shaped (C := Tryd.checked) (X := fun w _ => laidMetH Tryd.prog Laid.laid w) (fun _ _ _ hh h => h.of_heap hh) own started (by kernel_rfl) Tryd.func11
    (ChangeSpec.witness_shaped (enc := enc) (C := Tryd.checked) (os := os) (X := fun w _ => laidMetH Tryd.prog Laid.laid w) false (World.laidAll Tryd.prog os Laid.laid) #[.slice none 0 0] 8 (Laid.door_os os) (World.shaped_of_ZipB (by kernel_rfl) (by kernel_rfl)) (by kernel_rfl) (by kernel_rfl) (by kernel_rfl) (Laid.door_met os _)) ?_
  intro W base args ds gs before hval0 hW hsz0 hL hsh
  have hT : TabOK W := Laid.tabOK hL hsh
  have hval : ∀ (j : Nat) t v, Tryd.f11.params[j]? = some t → args[j]? = some v → Value.okWide Tryd.prog W .any base t v := hval0
  have hW' := hW
  obtain ⟨p, q, hA0, hV, rfl, hfz, hnd⟩ := hW
  have hA : DataW.TrodAll enc Tryd.prog W 0 (fun _ => true) true Tryd.f11.params.toList args.toList ds p := hA0
  rw [Tryd.params11] at hA hval
  obtain ⟨v0, vs0, d0, ds0, p0, q0, hargs, rfl, rfl, h0, r0⟩ := trodAll_cons hA
  obtain ⟨rfl, rfl, rfl⟩ := trodAll_nil r0
  obtain rfl : args = #[v0] := by cases args; simp_all
  obtain ⟨rfl, rfl⟩ := trodVars_none hV
  have k0 := h0
  have lt0 : ∀ x ∈ p0, x.block < W.heap.size := by obtain ⟨m, hm⟩ := k0; exact DataW.trod_lt m _ _ _ hm
  obtain ⟨a0, len0, cap0, rfl⟩ := okWide_slice Tryd.underlying56 (hval 0 56 v0 rfl rfl)
  obtain ⟨x0, hx0, ox0⟩ : ∃ y, (Kd.slice 47 kRT).K W y [.slice a0 len0 cap0] ∧ okRs y := by obtain ⟨fuel, hf⟩ := h0; exact opens_rcs H enc W 0 _ _ _ _ _ hf
  obtain ⟨A0, c0, e0, hc0, hr0⟩ := hx0
  obtain ⟨rfl, rfl, rfl⟩ : a0 = A0 ∧ len0 = x0.length ∧ cap0 = c0 := by simpa using e0
  clear hA0 hval0 hsz0
  have hwalk := Imaged_walk a0 cap0 (x0.map toRc) W hT (by rw [List.length_map]; exact C_of hr0) (okRc_of ox0)
  rw [List.length_map] at hwalk
  refine hwalk.mono fun e W' ⟨he, bel⟩ => ?_
  subst he
  exact ⟨_, rfl, _, _, _, [], _, [], hW', trodAll_mk1 (shut_bool Tryd.underlying4 _), (trodAll_cons_mk (Below.trod laidOut (by kernel_rfl) (of_decide_eq_true (by kernel_rfl)) k0 bel lt0) trodAll_mk0), rfl, bel.frame _, fun h => by cases h⟩
theorem over : Rows.recordImagedRow.holds Tryd.pinned (OpenSpec.ofChange Rows.recordImagedSpec) :=
  OpenClaim.holds_of_wide 11 Tryd.f11 rfl rfl rfl rfl rfl rfl rfl ⟨rfl, rfl, rfl, rfl, rfl⟩ rfl rfl rfl rfl rfl (by kernel_rfl) Tryd.func11 (by kernel_rfl)
    (of_decide_eq_true (by kernel_rfl)) (by unfold Func.isWrapper; first | (rw [if_pos (by decide +kernel)]; kernel_rfl) | (rw [if_neg (by decide +kernel)]; exact ⟨rfl, rfl⟩))
    (fun os started H enc _ => lifted os started H enc)
theorem row : Rows.RecordImagedSaid := over
set_option maxRecDepth 100000 in
theorem proved : Rows.RecordImagedCardSaid :=
  Claim7.holds_tied_plain_at .later [] [.data, .data, .pinned] true (true, "014ca7cbb5351fe585bab385cc92f407b133d625e0ed3f9c61389276572d541a") false
    row (fun _ h => by cases h) (by kernel_rfl) (fun _ h => by cases h) recordImaged_row_tie rfl ⟨rfl, rfl⟩ (by kernel_rfl) rfl
    (fun f fn hf hfn => by
      obtain rfl : f = 11 := Option.some.inj ((show Tryd.prog.funcNamed Rows.recordImagedRow.func = some 11 by kernel_rfl).symm.trans hf) |>.symm
      obtain rfl : fn = Tryd.f11 := (Option.some.inj (Tryd.func11.symm.trans hfn)).symm
      exact ⟨by kernel_rfl, fun j t ht => by
        rw [Tryd.params11] at ht
        rcases j with _ | _ | _ | j <;> simp at ht <;> subst ht <;> kernel_rfl⟩)
    (by kernel_rfl)
#print axioms proved
end Go.Proofs.YtiohgpcbdefokaaDoor.recordImaged
namespace Go.Proofs.YtiohgpcbdefokaaDoor
/-- The row, under a short name, for the claim. -/
theorem recordImaged_holds : Rows.RecordImagedCardSaid := recordImaged.proved
end Go.Proofs.YtiohgpcbdefokaaDoor
