/- The statement StateReaches of the given program: for every byte, its state of each side is come to by some events. No condition. -/
import Derived.Test.YtifidkeohcbdlaaPStateReachesx3
import Derived.OpenShut
namespace Go.Proofs.Ytifidkeohcbdlaa.Pure
open Go.RowKit Go.Proofs.Ytifidkeohcbdlaa.PStateReaches Go.Proofs.YtifidkeohcbdlaaW.PrintWords Go.Proofs.YtifidkeohcbdlaaW.PrintLast

theorem reaches_all : ∀ n : Fin 256, sumpterlaw25_StateReaches.f 1000 (n.val : Int) = some true := by decide +kernel

theorem StateReaches : sumpterlaw25_StateReaches.Pure := by
  intro a0 h
  have hb := bounds_u8 h
  obtain ⟨n, rfl⟩ := Int.eq_ofNat_of_zero_le hb.1
  exact ⟨1000, reaches_all ⟨n, by omega⟩⟩

end Go.Proofs.Ytifidkeohcbdlaa.Pure
