/- The statement StateLooks of the given program: for every byte, the states' names and tests are those of the reference. No condition. -/
import Derived.Test.YtifidkeohcbdlaaPStateLooksx2
import Derived.OpenShut
namespace Go.Proofs.Ytifidkeohcbdlaa.Pure
open Go.RowKit Go.Proofs.Ytifidkeohcbdlaa.PStateLooks Go.Proofs.YtifidkeohcbdlaaW.PrintWords Go.Proofs.YtifidkeohcbdlaaW.PrintLast

theorem looks_all : ∀ n : Fin 256, sumpterlaw25_StateLooks.f 20 (n.val : Int) = some true := by decide +kernel

theorem StateLooks : sumpterlaw25_StateLooks.Pure := by
  intro a0 h
  have hb := bounds_u8 h
  obtain ⟨n, rfl⟩ := Int.eq_ofNat_of_zero_le hb.1
  exact ⟨20, looks_all ⟨n, by omega⟩⟩

end Go.Proofs.Ytifidkeohcbdlaa.Pure
