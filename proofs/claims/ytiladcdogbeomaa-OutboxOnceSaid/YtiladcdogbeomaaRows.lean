/-
  No cell of these rows narrows 'for every input' (looked for: loops, veiled, ifaces, maps, wideKeys, modest, calm, conditions, laid).
  DERIVED. THE GIVEN ROWS OF THIS SEAT. 9 by the template 'for every input the law returns true; each argument reads behind the call as it read before'; 0 by the template 'total and deterministic' (their statements: YtiladcdogbeomaaTotals.lean).
  GIVEN WITH THE SEED: the statements are not yours to turn. If you find one false, say at which input.
  Laid BY PROGRAM, IN A SANDBOX (cutbox-rows.mjs): the forced cells as the released guide's own fill.sh prints them over the translation 67157645ee8af6f7… (all of the seat's roots in one cut). By AI agents, Wed Nov 11 2026. No macro, syntax, notation, axiom, sorry.
-/
import Derived.Test.YtiladcdogbeomaaChecked
import GoSem.Claim
import GoSem.ClaimJoined
import GoSem.ClaimMapViews
import Derived.JoinedTies
import Derived.KernelRfl
namespace Go.Proofs.Ytiladcdogbeomaa
/- THE CELL 'sum', in the pinned program and in every row, IS THE sha256 OF THE DUMP (.gsa) THAT YtiladcdogbeomaaProg.lean LOADS. Nothing in Lean hashes anything: it is a label: what it is worth is what the hold of that sum in a sandbox is worth. -/
noncomputable def Try.pinned : Pinned := { name := "ytiladcdogbeomaa", sum := "67157645ee8af6f76ccc6d51ded547c9326f8abe20aa4056357c9398248b538e", checked := Try.checked }
namespace Rows
def none {H : Type} : Left H := { results := [], args := [] }

/-- 'sumpterlaw23.GatherBack': WHATEVER THE INPUT: true; the input reads as it did. -/
def gatherBackSpec : ChangeSpec := { name := "gatherBack", fn := fun _ => fun
  | [d1, d2, d3] => { results := [.lit (.bool true)], args := [d1, d2, d3] }
  | _ => none }
def gatherBackRow : OpenClaim := { program := "ytiladcdogbeomaa", sum := "67157645ee8af6f76ccc6d51ded547c9326f8abe20aa4056357c9398248b538e", func := "sumpter/sumpterlaw23.GatherBack", spec := "gatherBack", inPlace := ["slices.overlaps[sumpter/api.Span]", "internal/abi.NoEscape"], unfollowed := true, recurses := true, apart := false }
def GatherBackSaid : Prop := gatherBackRow.holds Try.pinned (OpenSpec.ofChange gatherBackSpec)

/-- ITS FALSE NEIGHBOUR: 'it returns false'. Refute it at one input. -/
def gatherBackWrong : ChangeSpec := { name := "gatherBack", fn := fun _ => fun
  | [d1, d2, d3] => { results := [.lit (.bool false)], args := [d1, d2, d3] }
  | _ => none }
def GatherBackWrongFalsely : Prop := gatherBackRow.holds Try.pinned (OpenSpec.ofChange gatherBackWrong)

/-- 'sumpterlaw24.OutboxOnce': WHATEVER THE INPUT: true; the input reads as it did. -/
def outboxOnceSpec : ChangeSpec := { name := "outboxOnce", fn := fun _ => fun
  | [d] => { results := [.lit (.bool true)], args := [d] }
  | _ => none }
def outboxOnceRow : OpenClaim := { program := "ytiladcdogbeomaa", sum := "67157645ee8af6f76ccc6d51ded547c9326f8abe20aa4056357c9398248b538e", func := "sumpter/sumpterlaw24.OutboxOnce", spec := "outboxOnce", inPlace := ["slices.overlaps[sumpter/api.Span]"], unfollowed := true, recurses := true, apart := false }
def OutboxOnceSaid : Prop := outboxOnceRow.holds Try.pinned (OpenSpec.ofChange outboxOnceSpec)

/-- ITS FALSE NEIGHBOUR: 'it returns false'. Refute it at one input. -/
def outboxOnceWrong : ChangeSpec := { name := "outboxOnce", fn := fun _ => fun
  | [d] => { results := [.lit (.bool false)], args := [d] }
  | _ => none }
def OutboxOnceWrongFalsely : Prop := outboxOnceRow.holds Try.pinned (OpenSpec.ofChange outboxOnceWrong)

/-- 'sumpterlaw23.GatherFinal': WHATEVER THE INPUT: true; the input reads as it did. -/
def gatherFinalSpec : ChangeSpec := { name := "gatherFinal", fn := fun _ => fun
  | [d1, d2] => { results := [.lit (.bool true)], args := [d1, d2] }
  | _ => none }
def gatherFinalRow : OpenClaim := { program := "ytiladcdogbeomaa", sum := "67157645ee8af6f76ccc6d51ded547c9326f8abe20aa4056357c9398248b538e", func := "sumpter/sumpterlaw23.GatherFinal", spec := "gatherFinal", inPlace := ["slices.overlaps[sumpter/api.Span]", "internal/abi.NoEscape"], unfollowed := true, recurses := true, apart := false }
def GatherFinalSaid : Prop := gatherFinalRow.holds Try.pinned (OpenSpec.ofChange gatherFinalSpec)

/-- ITS FALSE NEIGHBOUR: 'it returns false'. Refute it at one input. -/
def gatherFinalWrong : ChangeSpec := { name := "gatherFinal", fn := fun _ => fun
  | [d1, d2] => { results := [.lit (.bool false)], args := [d1, d2] }
  | _ => none }
def GatherFinalWrongFalsely : Prop := gatherFinalRow.holds Try.pinned (OpenSpec.ofChange gatherFinalWrong)

/-- 'sumpterlaw17.RangesOrder': WHATEVER THE INPUT: true; the input reads as it did. -/
def rangesOrderSpec : ChangeSpec := { name := "rangesOrder", fn := fun _ => fun
  | [d1, d2] => { results := [.lit (.bool true)], args := [d1, d2] }
  | _ => none }
def rangesOrderRow : OpenClaim := { program := "ytiladcdogbeomaa", sum := "67157645ee8af6f76ccc6d51ded547c9326f8abe20aa4056357c9398248b538e", func := "sumpter/sumpterlaw17.RangesOrder", spec := "rangesOrder", inPlace := ["slices.overlaps[sumpter/api.Span]"], unfollowed := true, recurses := true, apart := false }
def RangesOrderSaid : Prop := rangesOrderRow.holds Try.pinned (OpenSpec.ofChange rangesOrderSpec)

/-- ITS FALSE NEIGHBOUR: 'it returns false'. Refute it at one input. -/
def rangesOrderWrong : ChangeSpec := { name := "rangesOrder", fn := fun _ => fun
  | [d1, d2] => { results := [.lit (.bool false)], args := [d1, d2] }
  | _ => none }
def RangesOrderWrongFalsely : Prop := rangesOrderRow.holds Try.pinned (OpenSpec.ofChange rangesOrderWrong)

/-- 'sumpterlaw17.RangesBack': WHATEVER THE INPUT: true; the input reads as it did. -/
def rangesBackSpec : ChangeSpec := { name := "rangesBack", fn := fun _ => fun
  | [d1, d2, d3] => { results := [.lit (.bool true)], args := [d1, d2, d3] }
  | _ => none }
def rangesBackRow : OpenClaim := { program := "ytiladcdogbeomaa", sum := "67157645ee8af6f76ccc6d51ded547c9326f8abe20aa4056357c9398248b538e", func := "sumpter/sumpterlaw17.RangesBack", spec := "rangesBack", inPlace := ["slices.overlaps[sumpter/api.Span]"], unfollowed := true, recurses := true, apart := false }
def RangesBackSaid : Prop := rangesBackRow.holds Try.pinned (OpenSpec.ofChange rangesBackSpec)

/-- ITS FALSE NEIGHBOUR: 'it returns false'. Refute it at one input. -/
def rangesBackWrong : ChangeSpec := { name := "rangesBack", fn := fun _ => fun
  | [d1, d2, d3] => { results := [.lit (.bool false)], args := [d1, d2, d3] }
  | _ => none }
def RangesBackWrongFalsely : Prop := rangesBackRow.holds Try.pinned (OpenSpec.ofChange rangesBackWrong)

/-- 'sumpterlaw17.RangesPlays': WHATEVER THE INPUT: true; the input reads as it did. -/
def rangesPlaysSpec : ChangeSpec := { name := "rangesPlays", fn := fun _ => fun
  | [d1, d2] => { results := [.lit (.bool true)], args := [d1, d2] }
  | _ => none }
def rangesPlaysRow : OpenClaim := { program := "ytiladcdogbeomaa", sum := "67157645ee8af6f76ccc6d51ded547c9326f8abe20aa4056357c9398248b538e", func := "sumpter/sumpterlaw17.RangesPlays", spec := "rangesPlays", inPlace := ["slices.overlaps[sumpter/api.Span]"], unfollowed := true, recurses := true, apart := false }
def RangesPlaysSaid : Prop := rangesPlaysRow.holds Try.pinned (OpenSpec.ofChange rangesPlaysSpec)

/-- ITS FALSE NEIGHBOUR: 'it returns false'. Refute it at one input. -/
def rangesPlaysWrong : ChangeSpec := { name := "rangesPlays", fn := fun _ => fun
  | [d1, d2] => { results := [.lit (.bool false)], args := [d1, d2] }
  | _ => none }
def RangesPlaysWrongFalsely : Prop := rangesPlaysRow.holds Try.pinned (OpenSpec.ofChange rangesPlaysWrong)

/-- 'sumpterlaw17.RangesGaps': WHATEVER THE INPUT: true; the input reads as it did. -/
def rangesGapsSpec : ChangeSpec := { name := "rangesGaps", fn := fun _ => fun
  | [d1, d2] => { results := [.lit (.bool true)], args := [d1, d2] }
  | _ => none }
def rangesGapsRow : OpenClaim := { program := "ytiladcdogbeomaa", sum := "67157645ee8af6f76ccc6d51ded547c9326f8abe20aa4056357c9398248b538e", func := "sumpter/sumpterlaw17.RangesGaps", spec := "rangesGaps", inPlace := ["slices.overlaps[sumpter/api.Span]"], unfollowed := true, recurses := true, apart := false }
def RangesGapsSaid : Prop := rangesGapsRow.holds Try.pinned (OpenSpec.ofChange rangesGapsSpec)

/-- ITS FALSE NEIGHBOUR: 'it returns false'. Refute it at one input. -/
def rangesGapsWrong : ChangeSpec := { name := "rangesGaps", fn := fun _ => fun
  | [d1, d2] => { results := [.lit (.bool false)], args := [d1, d2] }
  | _ => none }
def RangesGapsWrongFalsely : Prop := rangesGapsRow.holds Try.pinned (OpenSpec.ofChange rangesGapsWrong)

/-- 'sumpterlaw17.RangesForks': WHATEVER THE INPUT: true; the input reads as it did. -/
def rangesForksSpec : ChangeSpec := { name := "rangesForks", fn := fun _ => fun
  | [d1, d2] => { results := [.lit (.bool true)], args := [d1, d2] }
  | _ => none }
def rangesForksRow : OpenClaim := { program := "ytiladcdogbeomaa", sum := "67157645ee8af6f76ccc6d51ded547c9326f8abe20aa4056357c9398248b538e", func := "sumpter/sumpterlaw17.RangesForks", spec := "rangesForks", inPlace := ["slices.overlaps[sumpter/api.Span]"], unfollowed := true, recurses := true, apart := false }
def RangesForksSaid : Prop := rangesForksRow.holds Try.pinned (OpenSpec.ofChange rangesForksSpec)

/-- ITS FALSE NEIGHBOUR: 'it returns false'. Refute it at one input. -/
def rangesForksWrong : ChangeSpec := { name := "rangesForks", fn := fun _ => fun
  | [d1, d2] => { results := [.lit (.bool false)], args := [d1, d2] }
  | _ => none }
def RangesForksWrongFalsely : Prop := rangesForksRow.holds Try.pinned (OpenSpec.ofChange rangesForksWrong)

/-- 'sumpterlaw24.OutboxComes': WHATEVER THE INPUT: true; the input reads as it did. -/
def outboxComesSpec : ChangeSpec := { name := "outboxComes", fn := fun _ => fun
  | [d1, d2, d3] => { results := [.lit (.bool true)], args := [d1, d2, d3] }
  | _ => none }
def outboxComesRow : OpenClaim := { program := "ytiladcdogbeomaa", sum := "67157645ee8af6f76ccc6d51ded547c9326f8abe20aa4056357c9398248b538e", func := "sumpter/sumpterlaw24.OutboxComes", spec := "outboxComes", inPlace := ["slices.overlaps[sumpter/api.Span]", "internal/abi.NoEscape"], unfollowed := true, recurses := true, apart := false }
def OutboxComesSaid : Prop := outboxComesRow.holds Try.pinned (OpenSpec.ofChange outboxComesSpec)

/-- ITS FALSE NEIGHBOUR: 'it returns false'. Refute it at one input. -/
def outboxComesWrong : ChangeSpec := { name := "outboxComes", fn := fun _ => fun
  | [d1, d2, d3] => { results := [.lit (.bool false)], args := [d1, d2, d3] }
  | _ => none }
def OutboxComesWrongFalsely : Prop := outboxComesRow.holds Try.pinned (OpenSpec.ofChange outboxComesWrong)

/- THE SECOND FORM. 'bulk': how many values and letters a reading holds, each counted each time it is reached (what is shared counts as often as it is met; a slice's spare places count too). A statement '..UptoSaid' is the law's where the arguments, and the package variables that the reading takes, are together of bulk at most 1048576: NARROWER than '..Said'. Prove '..Said' where nothing that the law and all that it calls make is longer than what came in: it says more and counts as full. Else prove '..UptoSaid'. A law counts once. -/
mutual
def uptoBulk {H : Type} : DataW H → Nat
  | .lit (.string bytes) => bytes.length + 1
  | .lit _ => 1
  | .nil => 1
  | .ptr d => uptoBulk d + 1
  | .slice elems spare => uptoBulkAll elems + uptoBulkAll spare + 1
  | .agg parts => uptoBulkAll parts + 1
  | .iface _ d => uptoBulk d + 1
  | .map entries => uptoBulkEntries entries + 1
  | .held _ => 1
def uptoBulkAll {H : Type} : List (DataW H) → Nat
  | [] => 0
  | d :: r => uptoBulk d + uptoBulkAll r
def uptoBulkEntries {H : Type} : List (Lit × DataW H) → Nat
  | [] => 0
  | x :: r => uptoBulkEntry x + uptoBulkEntries r
def uptoBulkEntry {H : Type} : Lit × DataW H → Nat
  | (.string bytes, d) => bytes.length + uptoBulk d + 1
  | (_, d) => uptoBulk d + 1
 end
def uptoSmall : (H : Type) → List (DataW H) → Bool := fun _ ds => decide (uptoBulkAll ds ≤ 1048576)
def OpenSpec.upto (s : _root_.Go.ChangeSpec) : _root_.Go.OpenSpec := { _root_.Go.OpenSpec.ofChange s with cond := some uptoSmall }

/-- 'sumpterlaw23.GatherBack', WHERE WHAT IT READS IS OF BULK AT MOST 1048576: true; the input reads as it did. -/
def gatherBackUptoRow : OpenClaim := { program := "ytiladcdogbeomaa", sum := "67157645ee8af6f76ccc6d51ded547c9326f8abe20aa4056357c9398248b538e", func := "sumpter/sumpterlaw23.GatherBack", spec := "gatherBack", inPlace := ["slices.overlaps[sumpter/api.Span]", "internal/abi.NoEscape"], unfollowed := true, recurses := true, apart := false, narrowed := true }
def GatherBackUptoSaid : Prop := gatherBackUptoRow.holds Try.pinned (OpenSpec.upto gatherBackSpec)

/-- 'sumpterlaw24.OutboxOnce', WHERE WHAT IT READS IS OF BULK AT MOST 1048576: true; the input reads as it did. -/
def outboxOnceUptoRow : OpenClaim := { program := "ytiladcdogbeomaa", sum := "67157645ee8af6f76ccc6d51ded547c9326f8abe20aa4056357c9398248b538e", func := "sumpter/sumpterlaw24.OutboxOnce", spec := "outboxOnce", inPlace := ["slices.overlaps[sumpter/api.Span]"], unfollowed := true, recurses := true, apart := false, narrowed := true }
def OutboxOnceUptoSaid : Prop := outboxOnceUptoRow.holds Try.pinned (OpenSpec.upto outboxOnceSpec)

/-- 'sumpterlaw23.GatherFinal', WHERE WHAT IT READS IS OF BULK AT MOST 1048576: true; the input reads as it did. -/
def gatherFinalUptoRow : OpenClaim := { program := "ytiladcdogbeomaa", sum := "67157645ee8af6f76ccc6d51ded547c9326f8abe20aa4056357c9398248b538e", func := "sumpter/sumpterlaw23.GatherFinal", spec := "gatherFinal", inPlace := ["slices.overlaps[sumpter/api.Span]", "internal/abi.NoEscape"], unfollowed := true, recurses := true, apart := false, narrowed := true }
def GatherFinalUptoSaid : Prop := gatherFinalUptoRow.holds Try.pinned (OpenSpec.upto gatherFinalSpec)

/-- 'sumpterlaw17.RangesOrder', WHERE WHAT IT READS IS OF BULK AT MOST 1048576: true; the input reads as it did. -/
def rangesOrderUptoRow : OpenClaim := { program := "ytiladcdogbeomaa", sum := "67157645ee8af6f76ccc6d51ded547c9326f8abe20aa4056357c9398248b538e", func := "sumpter/sumpterlaw17.RangesOrder", spec := "rangesOrder", inPlace := ["slices.overlaps[sumpter/api.Span]"], unfollowed := true, recurses := true, apart := false, narrowed := true }
def RangesOrderUptoSaid : Prop := rangesOrderUptoRow.holds Try.pinned (OpenSpec.upto rangesOrderSpec)

/-- 'sumpterlaw17.RangesBack', WHERE WHAT IT READS IS OF BULK AT MOST 1048576: true; the input reads as it did. -/
def rangesBackUptoRow : OpenClaim := { program := "ytiladcdogbeomaa", sum := "67157645ee8af6f76ccc6d51ded547c9326f8abe20aa4056357c9398248b538e", func := "sumpter/sumpterlaw17.RangesBack", spec := "rangesBack", inPlace := ["slices.overlaps[sumpter/api.Span]"], unfollowed := true, recurses := true, apart := false, narrowed := true }
def RangesBackUptoSaid : Prop := rangesBackUptoRow.holds Try.pinned (OpenSpec.upto rangesBackSpec)

/-- 'sumpterlaw17.RangesPlays', WHERE WHAT IT READS IS OF BULK AT MOST 1048576: true; the input reads as it did. -/
def rangesPlaysUptoRow : OpenClaim := { program := "ytiladcdogbeomaa", sum := "67157645ee8af6f76ccc6d51ded547c9326f8abe20aa4056357c9398248b538e", func := "sumpter/sumpterlaw17.RangesPlays", spec := "rangesPlays", inPlace := ["slices.overlaps[sumpter/api.Span]"], unfollowed := true, recurses := true, apart := false, narrowed := true }
def RangesPlaysUptoSaid : Prop := rangesPlaysUptoRow.holds Try.pinned (OpenSpec.upto rangesPlaysSpec)

/-- 'sumpterlaw17.RangesGaps', WHERE WHAT IT READS IS OF BULK AT MOST 1048576: true; the input reads as it did. -/
def rangesGapsUptoRow : OpenClaim := { program := "ytiladcdogbeomaa", sum := "67157645ee8af6f76ccc6d51ded547c9326f8abe20aa4056357c9398248b538e", func := "sumpter/sumpterlaw17.RangesGaps", spec := "rangesGaps", inPlace := ["slices.overlaps[sumpter/api.Span]"], unfollowed := true, recurses := true, apart := false, narrowed := true }
def RangesGapsUptoSaid : Prop := rangesGapsUptoRow.holds Try.pinned (OpenSpec.upto rangesGapsSpec)

/-- 'sumpterlaw17.RangesForks', WHERE WHAT IT READS IS OF BULK AT MOST 1048576: true; the input reads as it did. -/
def rangesForksUptoRow : OpenClaim := { program := "ytiladcdogbeomaa", sum := "67157645ee8af6f76ccc6d51ded547c9326f8abe20aa4056357c9398248b538e", func := "sumpter/sumpterlaw17.RangesForks", spec := "rangesForks", inPlace := ["slices.overlaps[sumpter/api.Span]"], unfollowed := true, recurses := true, apart := false, narrowed := true }
def RangesForksUptoSaid : Prop := rangesForksUptoRow.holds Try.pinned (OpenSpec.upto rangesForksSpec)

/-- 'sumpterlaw24.OutboxComes', WHERE WHAT IT READS IS OF BULK AT MOST 1048576: true; the input reads as it did. -/
def outboxComesUptoRow : OpenClaim := { program := "ytiladcdogbeomaa", sum := "67157645ee8af6f76ccc6d51ded547c9326f8abe20aa4056357c9398248b538e", func := "sumpter/sumpterlaw24.OutboxComes", spec := "outboxComes", inPlace := ["slices.overlaps[sumpter/api.Span]", "internal/abi.NoEscape"], unfollowed := true, recurses := true, apart := false, narrowed := true }
def OutboxComesUptoSaid : Prop := outboxComesUptoRow.holds Try.pinned (OpenSpec.upto outboxComesSpec)

end Rows
end Go.Proofs.Ytiladcdogbeomaa
