/- What the laid table gives: the condition of every row of this seat, met by the door's own heap, and read. -/
import Derived.Test.YtklacmafifaajaaDoorQCrcCutsx0
import Derived.Test.YtklacmafifaajaaDoorRows
import Derived.ProofKit
import Derived.LaidMore
import Derived.Lib.LaidTab
import Derived.OpenShut
import Derived.Stop.Joined
namespace Go.Proofs.YtklacmafifaajaaDoor.Laid
open Go.ChangeShapes Go.WideShapes Go.ChangeAt Go.RowKit
def laid : List (String × DataW Unit) := [("sumpter/crc.table", Rows.laid_sumpter_crc_table)]
theorem door_met (os : Os) (args : Array Value) : laidMetH Tryd.prog laid ((World.doorLaid Tryd.prog 400 os).forCall (fun _ _ => 0) ⟨#[], args, []⟩).memory :=
  laidMetH_of_parts3 (fuel := 8) (laidMet_of_run' 8 (by kernel_rfl) (by kernel_rfl)) (by kernel_rfl) (by kernel_rfl)
def zs : List Int := [0, 498536548, 997073096, 651767980, 1994146192, 1802195444, 1303535960, 1342533948, 3988292384, 4027552580, 3604390888, 3412177804, 2607071920, 2262029012, 2685067896, 3183342108]
theorem cells {W : World} (h : laidMetH Tryd.prog laid W) : (∀ i : Nat, i < 16 → W.cell? ⟨0, i, none⟩ = some (.int .u32 (zs.getD i 0))) ∧ 0 < W.heap.size := by
  rw [MakeChecks.laidMetH_plain _ _ _ (by kernel_rfl)] at h
  have hT : Lib.TabIs Tryd.prog W "sumpter/crc.table" .u32 zs := Lib.tabIs_of_head (g := 0) (t := 40) (e := 22) (n := 16) (by kernel_rfl) (by kernel_rfl) (by kernel_rfl) (by kernel_rfl) (by kernel_rfl) (by kernel_rfl) h
  refine ⟨fun i hi => hT.cell (by kernel_rfl) i hi, ?_⟩
  have h0 := hT.cell (g := 0) (by kernel_rfl) 0 (by decide)
  by_cases hs : 0 < W.heap.size
  · exact hs
  · have e : W.heap[0]? = none := Array.getElem?_eq_none (by omega)
    unfold World.cell? at h0
    simp [e] at h0
end Go.Proofs.YtklacmafifaajaaDoor.Laid
