/-
  No cell of these rows narrows 'for every input' (looked for: loops, veiled, ifaces, maps, wideKeys, modest, calm, conditions, laid).
  DERIVED. THE GIVEN ROWS OF THIS SEAT. 12 by the template 'for every input the law returns true; each argument reads behind the call as it read before'; 0 by the template 'total and deterministic' (their statements: YtifidkeohcbdlaaTotals.lean).
  GIVEN WITH THE SEED: the statements are not yours to turn. If you find one false, say at which input.
  Laid BY PROGRAM, IN A SANDBOX (cutbox-rows.mjs): the forced cells as the released guide's own fill.sh prints them over the translation b72c6bb25855a82b… (all of the seat's roots in one cut). By AI agents, Wed Nov 11 2026. No macro, syntax, notation, axiom, sorry.
-/
import Derived.Test.YtifidkeohcbdlaaChecked
import GoSem.Claim
import GoSem.ClaimJoined
import GoSem.ClaimMapViews
import Derived.JoinedTies
import Derived.KernelRfl
namespace Go.Proofs.Ytifidkeohcbdlaa
/- THE CELL 'sum', in the pinned program and in every row, IS THE sha256 OF THE DUMP (.gsa) THAT YtifidkeohcbdlaaProg.lean LOADS. Nothing in Lean hashes anything: it is a label: what it is worth is what the hold of that sum in a sandbox is worth. -/
noncomputable def Try.pinned : Pinned := { name := "ytifidkeohcbdlaa", sum := "b72c6bb25855a82b516d3137b309b7ef8fe732e9f23fa42168583a311807abbe", checked := Try.checked }
namespace Rows
def none {H : Type} : Left H := { results := [], args := [] }

/-- 'sumpterlaw20.RttMakes': WHATEVER THE INPUT: true; the input reads as it did. -/
def rttMakesSpec : ChangeSpec := { name := "rttMakes", fn := fun _ => fun
  | [d] => { results := [.lit (.bool true)], args := [d] }
  | _ => none }
def rttMakesRow : OpenClaim := { program := "ytifidkeohcbdlaa", sum := "b72c6bb25855a82b516d3137b309b7ef8fe732e9f23fa42168583a311807abbe", func := "sumpter/sumpterlaw20.RttMakes", spec := "rttMakes", apart := false }
def RttMakesSaid : Prop := rttMakesRow.holds Try.pinned (OpenSpec.ofChange rttMakesSpec)

/-- ITS FALSE NEIGHBOUR: 'it returns false'. Refute it at one input. -/
def rttMakesWrong : ChangeSpec := { name := "rttMakes", fn := fun _ => fun
  | [d] => { results := [.lit (.bool false)], args := [d] }
  | _ => none }
def RttMakesWrongFalsely : Prop := rttMakesRow.holds Try.pinned (OpenSpec.ofChange rttMakesWrong)

/-- 'sumpterlaw20.RttSteady': WHATEVER THE INPUT: true; the input reads as it did. -/
def rttSteadySpec : ChangeSpec := { name := "rttSteady", fn := fun _ => fun
  | [d1, d2] => { results := [.lit (.bool true)], args := [d1, d2] }
  | _ => none }
def rttSteadyRow : OpenClaim := { program := "ytifidkeohcbdlaa", sum := "b72c6bb25855a82b516d3137b309b7ef8fe732e9f23fa42168583a311807abbe", func := "sumpter/sumpterlaw20.RttSteady", spec := "rttSteady", apart := false }
def RttSteadySaid : Prop := rttSteadyRow.holds Try.pinned (OpenSpec.ofChange rttSteadySpec)

/-- ITS FALSE NEIGHBOUR: 'it returns false'. Refute it at one input. -/
def rttSteadyWrong : ChangeSpec := { name := "rttSteady", fn := fun _ => fun
  | [d1, d2] => { results := [.lit (.bool false)], args := [d1, d2] }
  | _ => none }
def RttSteadyWrongFalsely : Prop := rttSteadyRow.holds Try.pinned (OpenSpec.ofChange rttSteadyWrong)

/-- 'sumpterlaw22.WindowRooms': WHATEVER THE INPUT: true; the input reads as it did. -/
def windowRoomsSpec : ChangeSpec := { name := "windowRooms", fn := fun _ => fun
  | [d1, d2] => { results := [.lit (.bool true)], args := [d1, d2] }
  | _ => none }
def windowRoomsRow : OpenClaim := { program := "ytifidkeohcbdlaa", sum := "b72c6bb25855a82b516d3137b309b7ef8fe732e9f23fa42168583a311807abbe", func := "sumpter/sumpterlaw22.WindowRooms", spec := "windowRooms", apart := false }
def WindowRoomsSaid : Prop := windowRoomsRow.holds Try.pinned (OpenSpec.ofChange windowRoomsSpec)

/-- ITS FALSE NEIGHBOUR: 'it returns false'. Refute it at one input. -/
def windowRoomsWrong : ChangeSpec := { name := "windowRooms", fn := fun _ => fun
  | [d1, d2] => { results := [.lit (.bool false)], args := [d1, d2] }
  | _ => none }
def WindowRoomsWrongFalsely : Prop := windowRoomsRow.holds Try.pinned (OpenSpec.ofChange windowRoomsWrong)

/-- 'sumpterlaw22.WindowStays': WHATEVER THE INPUT: true; the input reads as it did. -/
def windowStaysSpec : ChangeSpec := { name := "windowStays", fn := fun _ => fun
  | [d] => { results := [.lit (.bool true)], args := [d] }
  | _ => none }
def windowStaysRow : OpenClaim := { program := "ytifidkeohcbdlaa", sum := "b72c6bb25855a82b516d3137b309b7ef8fe732e9f23fa42168583a311807abbe", func := "sumpter/sumpterlaw22.WindowStays", spec := "windowStays", apart := false }
def WindowStaysSaid : Prop := windowStaysRow.holds Try.pinned (OpenSpec.ofChange windowStaysSpec)

/-- ITS FALSE NEIGHBOUR: 'it returns false'. Refute it at one input. -/
def windowStaysWrong : ChangeSpec := { name := "windowStays", fn := fun _ => fun
  | [d] => { results := [.lit (.bool false)], args := [d] }
  | _ => none }
def WindowStaysWrongFalsely : Prop := windowStaysRow.holds Try.pinned (OpenSpec.ofChange windowStaysWrong)

/-- 'sumpterlaw22.WindowOnce': WHATEVER THE INPUT: true; the input reads as it did. -/
def windowOnceSpec : ChangeSpec := { name := "windowOnce", fn := fun _ => fun
  | [d1, d2] => { results := [.lit (.bool true)], args := [d1, d2] }
  | _ => none }
def windowOnceRow : OpenClaim := { program := "ytifidkeohcbdlaa", sum := "b72c6bb25855a82b516d3137b309b7ef8fe732e9f23fa42168583a311807abbe", func := "sumpter/sumpterlaw22.WindowOnce", spec := "windowOnce", apart := false }
def WindowOnceSaid : Prop := windowOnceRow.holds Try.pinned (OpenSpec.ofChange windowOnceSpec)

/-- ITS FALSE NEIGHBOUR: 'it returns false'. Refute it at one input. -/
def windowOnceWrong : ChangeSpec := { name := "windowOnce", fn := fun _ => fun
  | [d1, d2] => { results := [.lit (.bool false)], args := [d1, d2] }
  | _ => none }
def WindowOnceWrongFalsely : Prop := windowOnceRow.holds Try.pinned (OpenSpec.ofChange windowOnceWrong)

/-- 'sumpterlaw22.WindowGrows': WHATEVER THE INPUT: true; the input reads as it did. -/
def windowGrowsSpec : ChangeSpec := { name := "windowGrows", fn := fun _ => fun
  | [d1, d2] => { results := [.lit (.bool true)], args := [d1, d2] }
  | _ => none }
def windowGrowsRow : OpenClaim := { program := "ytifidkeohcbdlaa", sum := "b72c6bb25855a82b516d3137b309b7ef8fe732e9f23fa42168583a311807abbe", func := "sumpter/sumpterlaw22.WindowGrows", spec := "windowGrows", apart := false }
def WindowGrowsSaid : Prop := windowGrowsRow.holds Try.pinned (OpenSpec.ofChange windowGrowsSpec)

/-- ITS FALSE NEIGHBOUR: 'it returns false'. Refute it at one input. -/
def windowGrowsWrong : ChangeSpec := { name := "windowGrows", fn := fun _ => fun
  | [d1, d2] => { results := [.lit (.bool false)], args := [d1, d2] }
  | _ => none }
def WindowGrowsWrongFalsely : Prop := windowGrowsRow.holds Try.pinned (OpenSpec.ofChange windowGrowsWrong)

/-- 'sumpterlaw25.StateSends': WHATEVER THE INPUT: true; the input reads as it did. -/
def stateSendsSpec : ChangeSpec := { name := "stateSends", fn := fun _ => fun
  | [d1, d2] => { results := [.lit (.bool true)], args := [d1, d2] }
  | _ => none }
def stateSendsRow : OpenClaim := { program := "ytifidkeohcbdlaa", sum := "b72c6bb25855a82b516d3137b309b7ef8fe732e9f23fa42168583a311807abbe", func := "sumpter/sumpterlaw25.StateSends", spec := "stateSends", apart := false }
def StateSendsSaid : Prop := stateSendsRow.holds Try.pinned (OpenSpec.ofChange stateSendsSpec)

/-- ITS FALSE NEIGHBOUR: 'it returns false'. Refute it at one input. -/
def stateSendsWrong : ChangeSpec := { name := "stateSends", fn := fun _ => fun
  | [d1, d2] => { results := [.lit (.bool false)], args := [d1, d2] }
  | _ => none }
def StateSendsWrongFalsely : Prop := stateSendsRow.holds Try.pinned (OpenSpec.ofChange stateSendsWrong)

/-- 'sumpterlaw25.StateReceives': WHATEVER THE INPUT: true; the input reads as it did. -/
def stateReceivesSpec : ChangeSpec := { name := "stateReceives", fn := fun _ => fun
  | [d1, d2] => { results := [.lit (.bool true)], args := [d1, d2] }
  | _ => none }
def stateReceivesRow : OpenClaim := { program := "ytifidkeohcbdlaa", sum := "b72c6bb25855a82b516d3137b309b7ef8fe732e9f23fa42168583a311807abbe", func := "sumpter/sumpterlaw25.StateReceives", spec := "stateReceives", apart := false }
def StateReceivesSaid : Prop := stateReceivesRow.holds Try.pinned (OpenSpec.ofChange stateReceivesSpec)

/-- ITS FALSE NEIGHBOUR: 'it returns false'. Refute it at one input. -/
def stateReceivesWrong : ChangeSpec := { name := "stateReceives", fn := fun _ => fun
  | [d1, d2] => { results := [.lit (.bool false)], args := [d1, d2] }
  | _ => none }
def StateReceivesWrongFalsely : Prop := stateReceivesRow.holds Try.pinned (OpenSpec.ofChange stateReceivesWrong)

/-- 'sumpterlaw25.StateEnds': WHATEVER THE INPUT: true; the input reads as it did. -/
def stateEndsSpec : ChangeSpec := { name := "stateEnds", fn := fun _ => fun
  | [d] => { results := [.lit (.bool true)], args := [d] }
  | _ => none }
def stateEndsRow : OpenClaim := { program := "ytifidkeohcbdlaa", sum := "b72c6bb25855a82b516d3137b309b7ef8fe732e9f23fa42168583a311807abbe", func := "sumpter/sumpterlaw25.StateEnds", spec := "stateEnds", apart := false }
def StateEndsSaid : Prop := stateEndsRow.holds Try.pinned (OpenSpec.ofChange stateEndsSpec)

/-- ITS FALSE NEIGHBOUR: 'it returns false'. Refute it at one input. -/
def stateEndsWrong : ChangeSpec := { name := "stateEnds", fn := fun _ => fun
  | [d] => { results := [.lit (.bool false)], args := [d] }
  | _ => none }
def StateEndsWrongFalsely : Prop := stateEndsRow.holds Try.pinned (OpenSpec.ofChange stateEndsWrong)

/-- 'sumpterlaw25.StateLooks': WHATEVER THE INPUT: true; the input reads as it did. -/
def stateLooksSpec : ChangeSpec := { name := "stateLooks", fn := fun _ => fun
  | [d] => { results := [.lit (.bool true)], args := [d] }
  | _ => none }
def stateLooksRow : OpenClaim := { program := "ytifidkeohcbdlaa", sum := "b72c6bb25855a82b516d3137b309b7ef8fe732e9f23fa42168583a311807abbe", func := "sumpter/sumpterlaw25.StateLooks", spec := "stateLooks", apart := false }
def StateLooksSaid : Prop := stateLooksRow.holds Try.pinned (OpenSpec.ofChange stateLooksSpec)

/-- ITS FALSE NEIGHBOUR: 'it returns false'. Refute it at one input. -/
def stateLooksWrong : ChangeSpec := { name := "stateLooks", fn := fun _ => fun
  | [d] => { results := [.lit (.bool false)], args := [d] }
  | _ => none }
def StateLooksWrongFalsely : Prop := stateLooksRow.holds Try.pinned (OpenSpec.ofChange stateLooksWrong)

/-- 'sumpterlaw25.StateReaches': WHATEVER THE INPUT: true; the input reads as it did. -/
def stateReachesSpec : ChangeSpec := { name := "stateReaches", fn := fun _ => fun
  | [d] => { results := [.lit (.bool true)], args := [d] }
  | _ => none }
def stateReachesRow : OpenClaim := { program := "ytifidkeohcbdlaa", sum := "b72c6bb25855a82b516d3137b309b7ef8fe732e9f23fa42168583a311807abbe", func := "sumpter/sumpterlaw25.StateReaches", spec := "stateReaches", apart := false }
def StateReachesSaid : Prop := stateReachesRow.holds Try.pinned (OpenSpec.ofChange stateReachesSpec)

/-- ITS FALSE NEIGHBOUR: 'it returns false'. Refute it at one input. -/
def stateReachesWrong : ChangeSpec := { name := "stateReaches", fn := fun _ => fun
  | [d] => { results := [.lit (.bool false)], args := [d] }
  | _ => none }
def StateReachesWrongFalsely : Prop := stateReachesRow.holds Try.pinned (OpenSpec.ofChange stateReachesWrong)

/-- 'sumpterlaw26.FlowKeeps': WHATEVER THE INPUT: true; the input reads as it did. -/
def flowKeepsSpec : ChangeSpec := { name := "flowKeeps", fn := fun _ => fun
  | [d1, d2] => { results := [.lit (.bool true)], args := [d1, d2] }
  | _ => none }
def flowKeepsRow : OpenClaim := { program := "ytifidkeohcbdlaa", sum := "b72c6bb25855a82b516d3137b309b7ef8fe732e9f23fa42168583a311807abbe", func := "sumpter/sumpterlaw26.FlowKeeps", spec := "flowKeeps", apart := false }
def FlowKeepsSaid : Prop := flowKeepsRow.holds Try.pinned (OpenSpec.ofChange flowKeepsSpec)

/-- ITS FALSE NEIGHBOUR: 'it returns false'. Refute it at one input. -/
def flowKeepsWrong : ChangeSpec := { name := "flowKeeps", fn := fun _ => fun
  | [d1, d2] => { results := [.lit (.bool false)], args := [d1, d2] }
  | _ => none }
def FlowKeepsWrongFalsely : Prop := flowKeepsRow.holds Try.pinned (OpenSpec.ofChange flowKeepsWrong)

/- THE SECOND FORM. 'bulk': how many values and letters a reading holds, each counted each time it is reached (what is shared counts as often as it is met; a slice's spare places count too). A statement '..UptoSaid' is the law's where the arguments, and the package variables that the reading takes, are together of bulk at most 1048576: NARROWER than '..Said'. Prove '..Said' where nothing that the law and all that it calls make is longer than what came in: it says more and counts as full. Else prove '..UptoSaid'. A law counts once. -/
mutual
def uptoBulk {H : Type} : DataW H → Nat
  | .lit (.string bytes) => bytes.length + 1
  | .lit _ => 1
  | .nil => 1
  | .ptr d => uptoBulk d + 1
  | .slice elems spare => uptoBulkAll elems + uptoBulkAll spare + 1
  | .agg parts => uptoBulkAll parts + 1
  | .iface _ d => uptoBulk d + 1
  | .map entries => uptoBulkEntries entries + 1
  | .held _ => 1
def uptoBulkAll {H : Type} : List (DataW H) → Nat
  | [] => 0
  | d :: r => uptoBulk d + uptoBulkAll r
def uptoBulkEntries {H : Type} : List (Lit × DataW H) → Nat
  | [] => 0
  | x :: r => uptoBulkEntry x + uptoBulkEntries r
def uptoBulkEntry {H : Type} : Lit × DataW H → Nat
  | (.string bytes, d) => bytes.length + uptoBulk d + 1
  | (_, d) => uptoBulk d + 1
 end
def uptoSmall : (H : Type) → List (DataW H) → Bool := fun _ ds => decide (uptoBulkAll ds ≤ 1048576)
def OpenSpec.upto (s : _root_.Go.ChangeSpec) : _root_.Go.OpenSpec := { _root_.Go.OpenSpec.ofChange s with cond := some uptoSmall }

/-- 'sumpterlaw20.RttMakes', WHERE WHAT IT READS IS OF BULK AT MOST 1048576: true; the input reads as it did. -/
def rttMakesUptoRow : OpenClaim := { program := "ytifidkeohcbdlaa", sum := "b72c6bb25855a82b516d3137b309b7ef8fe732e9f23fa42168583a311807abbe", func := "sumpter/sumpterlaw20.RttMakes", spec := "rttMakes", apart := false, narrowed := true }
def RttMakesUptoSaid : Prop := rttMakesUptoRow.holds Try.pinned (OpenSpec.upto rttMakesSpec)

/-- 'sumpterlaw20.RttSteady', WHERE WHAT IT READS IS OF BULK AT MOST 1048576: true; the input reads as it did. -/
def rttSteadyUptoRow : OpenClaim := { program := "ytifidkeohcbdlaa", sum := "b72c6bb25855a82b516d3137b309b7ef8fe732e9f23fa42168583a311807abbe", func := "sumpter/sumpterlaw20.RttSteady", spec := "rttSteady", apart := false, narrowed := true }
def RttSteadyUptoSaid : Prop := rttSteadyUptoRow.holds Try.pinned (OpenSpec.upto rttSteadySpec)

/-- 'sumpterlaw22.WindowRooms', WHERE WHAT IT READS IS OF BULK AT MOST 1048576: true; the input reads as it did. -/
def windowRoomsUptoRow : OpenClaim := { program := "ytifidkeohcbdlaa", sum := "b72c6bb25855a82b516d3137b309b7ef8fe732e9f23fa42168583a311807abbe", func := "sumpter/sumpterlaw22.WindowRooms", spec := "windowRooms", apart := false, narrowed := true }
def WindowRoomsUptoSaid : Prop := windowRoomsUptoRow.holds Try.pinned (OpenSpec.upto windowRoomsSpec)

/-- 'sumpterlaw22.WindowStays', WHERE WHAT IT READS IS OF BULK AT MOST 1048576: true; the input reads as it did. -/
def windowStaysUptoRow : OpenClaim := { program := "ytifidkeohcbdlaa", sum := "b72c6bb25855a82b516d3137b309b7ef8fe732e9f23fa42168583a311807abbe", func := "sumpter/sumpterlaw22.WindowStays", spec := "windowStays", apart := false, narrowed := true }
def WindowStaysUptoSaid : Prop := windowStaysUptoRow.holds Try.pinned (OpenSpec.upto windowStaysSpec)

/-- 'sumpterlaw22.WindowOnce', WHERE WHAT IT READS IS OF BULK AT MOST 1048576: true; the input reads as it did. -/
def windowOnceUptoRow : OpenClaim := { program := "ytifidkeohcbdlaa", sum := "b72c6bb25855a82b516d3137b309b7ef8fe732e9f23fa42168583a311807abbe", func := "sumpter/sumpterlaw22.WindowOnce", spec := "windowOnce", apart := false, narrowed := true }
def WindowOnceUptoSaid : Prop := windowOnceUptoRow.holds Try.pinned (OpenSpec.upto windowOnceSpec)

/-- 'sumpterlaw22.WindowGrows', WHERE WHAT IT READS IS OF BULK AT MOST 1048576: true; the input reads as it did. -/
def windowGrowsUptoRow : OpenClaim := { program := "ytifidkeohcbdlaa", sum := "b72c6bb25855a82b516d3137b309b7ef8fe732e9f23fa42168583a311807abbe", func := "sumpter/sumpterlaw22.WindowGrows", spec := "windowGrows", apart := false, narrowed := true }
def WindowGrowsUptoSaid : Prop := windowGrowsUptoRow.holds Try.pinned (OpenSpec.upto windowGrowsSpec)

/-- 'sumpterlaw25.StateSends', WHERE WHAT IT READS IS OF BULK AT MOST 1048576: true; the input reads as it did. -/
def stateSendsUptoRow : OpenClaim := { program := "ytifidkeohcbdlaa", sum := "b72c6bb25855a82b516d3137b309b7ef8fe732e9f23fa42168583a311807abbe", func := "sumpter/sumpterlaw25.StateSends", spec := "stateSends", apart := false, narrowed := true }
def StateSendsUptoSaid : Prop := stateSendsUptoRow.holds Try.pinned (OpenSpec.upto stateSendsSpec)

/-- 'sumpterlaw25.StateReceives', WHERE WHAT IT READS IS OF BULK AT MOST 1048576: true; the input reads as it did. -/
def stateReceivesUptoRow : OpenClaim := { program := "ytifidkeohcbdlaa", sum := "b72c6bb25855a82b516d3137b309b7ef8fe732e9f23fa42168583a311807abbe", func := "sumpter/sumpterlaw25.StateReceives", spec := "stateReceives", apart := false, narrowed := true }
def StateReceivesUptoSaid : Prop := stateReceivesUptoRow.holds Try.pinned (OpenSpec.upto stateReceivesSpec)

/-- 'sumpterlaw25.StateEnds', WHERE WHAT IT READS IS OF BULK AT MOST 1048576: true; the input reads as it did. -/
def stateEndsUptoRow : OpenClaim := { program := "ytifidkeohcbdlaa", sum := "b72c6bb25855a82b516d3137b309b7ef8fe732e9f23fa42168583a311807abbe", func := "sumpter/sumpterlaw25.StateEnds", spec := "stateEnds", apart := false, narrowed := true }
def StateEndsUptoSaid : Prop := stateEndsUptoRow.holds Try.pinned (OpenSpec.upto stateEndsSpec)

/-- 'sumpterlaw25.StateLooks', WHERE WHAT IT READS IS OF BULK AT MOST 1048576: true; the input reads as it did. -/
def stateLooksUptoRow : OpenClaim := { program := "ytifidkeohcbdlaa", sum := "b72c6bb25855a82b516d3137b309b7ef8fe732e9f23fa42168583a311807abbe", func := "sumpter/sumpterlaw25.StateLooks", spec := "stateLooks", apart := false, narrowed := true }
def StateLooksUptoSaid : Prop := stateLooksUptoRow.holds Try.pinned (OpenSpec.upto stateLooksSpec)

/-- 'sumpterlaw25.StateReaches', WHERE WHAT IT READS IS OF BULK AT MOST 1048576: true; the input reads as it did. -/
def stateReachesUptoRow : OpenClaim := { program := "ytifidkeohcbdlaa", sum := "b72c6bb25855a82b516d3137b309b7ef8fe732e9f23fa42168583a311807abbe", func := "sumpter/sumpterlaw25.StateReaches", spec := "stateReaches", apart := false, narrowed := true }
def StateReachesUptoSaid : Prop := stateReachesUptoRow.holds Try.pinned (OpenSpec.upto stateReachesSpec)

/-- 'sumpterlaw26.FlowKeeps', WHERE WHAT IT READS IS OF BULK AT MOST 1048576: true; the input reads as it did. -/
def flowKeepsUptoRow : OpenClaim := { program := "ytifidkeohcbdlaa", sum := "b72c6bb25855a82b516d3137b309b7ef8fe732e9f23fa42168583a311807abbe", func := "sumpter/sumpterlaw26.FlowKeeps", spec := "flowKeeps", apart := false, narrowed := true }
def FlowKeepsUptoSaid : Prop := flowKeepsUptoRow.holds Try.pinned (OpenSpec.upto flowKeepsSpec)

end Rows
end Go.Proofs.Ytifidkeohcbdlaa
