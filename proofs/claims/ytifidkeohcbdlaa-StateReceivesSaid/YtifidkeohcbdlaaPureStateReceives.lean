/- The statement StateReceives of the given program: for every state and event, as bytes, the receiving side's next state is the reference's. No condition. -/
import Derived.Test.YtifidkeohcbdlaaPStateReceivesx2
import Derived.OpenShut
namespace Go.Proofs.Ytifidkeohcbdlaa.Pure
open Go.RowKit Go.Proofs.Ytifidkeohcbdlaa.PStateReceives Go.Proofs.YtifidkeohcbdlaaW.PrintWords Go.Proofs.YtifidkeohcbdlaaW.PrintLast

theorem awake_true : sumpterlaw25_awake.f 20 = some true := by decide +kernel

/-- A number is one of some small ones, or none of them. -/
theorem cases6 (a : Int) : a = 0 ∨ a = 1 ∨ a = 2 ∨ a = 3 ∨ a = 4 ∨ a = 5 ∨ (a ≠ 0 ∧ a ≠ 1 ∧ a ≠ 2 ∧ a ≠ 3 ∧ a ≠ 4 ∧ a ≠ 5) := by omega

theorem StateReceives : sumpterlaw25_StateReceives.Pure := by
  intro a0 a1 _ _
  refine ⟨20, ?_⟩
  rcases cases6 a0 with rfl | rfl | rfl | rfl | rfl | rfl | ⟨h0, h1, h2, h3, h4, h5⟩ <;>
  rcases cases6 a1 with rfl | rfl | rfl | rfl | rfl | rfl | ⟨g0, g1, g2, g3, g4, g5⟩ <;>
  first
    | decide +kernel
    | (simp only [sumpterlaw25_StateReceives.f, awake_true]
       simp [state_Receives.f, state_Receives.j0, state_Receives.j1, sumpterref25_Receiving.f, sumpterref25_Next.f, sumpterref25_Next.l0, rd_T100, wrap64, Ne.symm, *])

end Go.Proofs.Ytifidkeohcbdlaa.Pure
