/-
  NARROWER THAN 'FOR EVERY INPUT', by the rows' own cells (each row's printed sentence says how): TokenPuts: laid · TokenGets: laid · TokenBack: laid · TokenItems: laid · RecordPuts: laid · RecordPlays: laid · RecordBack: laid · RecordRises: laid · RecordImaged: laid · ManifestBack: laid · ManifestTells: laid.
  DERIVED. THE GIVEN ROWS OF THIS SEAT. 11 by the template 'for every input the law returns true; each argument reads behind the call as it read before'; 0 by the template 'total and deterministic' (their statements: YtiohgpcbdefokaaDoorTotals.lean).
  GIVEN WITH THE SEED: the statements are not yours to turn. If you find one false, say at which input.
  Laid BY PROGRAM, IN A SANDBOX (cutbox-rows.mjs): the forced cells as the released guide's own fill.sh prints them over the translation 82979931679c19aa… (all of the seat's roots in one cut). By AI agents, Wed Nov 11 2026. No macro, syntax, notation, axiom, sorry.
-/
import Derived.Test.YtiohgpcbdefokaaDoorChecked
import GoSem.PinnedTables
import GoSem.Claim
import GoSem.ClaimJoined
import GoSem.ClaimMapViews
import Derived.JoinedTies
import Derived.KernelRfl
namespace Go.Proofs.YtiohgpcbdefokaaDoor
/- THE CELL 'sum', in the pinned program and in every row, IS THE sha256 OF THE DUMP (.gsa) THAT YtiohgpcbdefokaaDoorProg.lean LOADS. Nothing in Lean hashes anything: it is a label: what it is worth is what the hold of that sum in a sandbox is worth. -/
noncomputable def Tryd.pinned : Pinned := { name := "ytiohgpcbdefokaadoor", sum := "82979931679c19aa3b087151b0b025622c3c2bcb69586dc592918ec04c80f296", checked := Tryd.checked }
namespace Rows
def none {H : Type} : Left H := { results := [], args := [] }

/- WHAT THE LISTED PACKAGE-LEVEL VARIABLES READ AS WHEN THE CALL BEGINS. Each datum BY PROGRAM (the guide's laid-datum.mjs) off the statement by which the dump's own 'gosem.cut.vars' lays the variable. In a bare row this is a premise. The card (YtiohgpcbdefokaaDoorCards.lean) ties it to the program's text. -/
def laid_unicode_utf8_acceptRanges {H : Type} : DataW H := .agg [.agg [.lit (.int .u8 128), .lit (.int .u8 191)], .agg [.lit (.int .u8 160), .lit (.int .u8 191)], .agg [.lit (.int .u8 128), .lit (.int .u8 159)], .agg [.lit (.int .u8 144), .lit (.int .u8 191)], .agg [.lit (.int .u8 128), .lit (.int .u8 143)], .agg [.lit (.int .u8 0), .lit (.int .u8 0)], .agg [.lit (.int .u8 0), .lit (.int .u8 0)], .agg [.lit (.int .u8 0), .lit (.int .u8 0)], .agg [.lit (.int .u8 0), .lit (.int .u8 0)], .agg [.lit (.int .u8 0), .lit (.int .u8 0)], .agg [.lit (.int .u8 0), .lit (.int .u8 0)], .agg [.lit (.int .u8 0), .lit (.int .u8 0)], .agg [.lit (.int .u8 0), .lit (.int .u8 0)], .agg [.lit (.int .u8 0), .lit (.int .u8 0)], .agg [.lit (.int .u8 0), .lit (.int .u8 0)], .agg [.lit (.int .u8 0), .lit (.int .u8 0)]]
def laid_sumpter_sha_rounds {H : Type} : DataW H := .agg [.lit (.int .u32 1116352408), .lit (.int .u32 1899447441), .lit (.int .u32 3049323471), .lit (.int .u32 3921009573), .lit (.int .u32 961987163), .lit (.int .u32 1508970993), .lit (.int .u32 2453635748), .lit (.int .u32 2870763221), .lit (.int .u32 3624381080), .lit (.int .u32 310598401), .lit (.int .u32 607225278), .lit (.int .u32 1426881987), .lit (.int .u32 1925078388), .lit (.int .u32 2162078206), .lit (.int .u32 2614888103), .lit (.int .u32 3248222580), .lit (.int .u32 3835390401), .lit (.int .u32 4022224774), .lit (.int .u32 264347078), .lit (.int .u32 604807628), .lit (.int .u32 770255983), .lit (.int .u32 1249150122), .lit (.int .u32 1555081692), .lit (.int .u32 1996064986), .lit (.int .u32 2554220882), .lit (.int .u32 2821834349), .lit (.int .u32 2952996808), .lit (.int .u32 3210313671), .lit (.int .u32 3336571891), .lit (.int .u32 3584528711), .lit (.int .u32 113926993), .lit (.int .u32 338241895), .lit (.int .u32 666307205), .lit (.int .u32 773529912), .lit (.int .u32 1294757372), .lit (.int .u32 1396182291), .lit (.int .u32 1695183700), .lit (.int .u32 1986661051), .lit (.int .u32 2177026350), .lit (.int .u32 2456956037), .lit (.int .u32 2730485921), .lit (.int .u32 2820302411), .lit (.int .u32 3259730800), .lit (.int .u32 3345764771), .lit (.int .u32 3516065817), .lit (.int .u32 3600352804), .lit (.int .u32 4094571909), .lit (.int .u32 275423344), .lit (.int .u32 430227734), .lit (.int .u32 506948616), .lit (.int .u32 659060556), .lit (.int .u32 883997877), .lit (.int .u32 958139571), .lit (.int .u32 1322822218), .lit (.int .u32 1537002063), .lit (.int .u32 1747873779), .lit (.int .u32 1955562222), .lit (.int .u32 2024104815), .lit (.int .u32 2227730452), .lit (.int .u32 2361852424), .lit (.int .u32 2428436474), .lit (.int .u32 2756734187), .lit (.int .u32 3204031479), .lit (.int .u32 3329325298)]
/-- One of Go's own tables, pinned by name: the form's constant. -/
def laid_unicode_utf8_first : DataW Unit := Go.Pinned.utf8First
def laid_sumpter_crc_table {H : Type} : DataW H := .agg [.lit (.int .u32 0), .lit (.int .u32 498536548), .lit (.int .u32 997073096), .lit (.int .u32 651767980), .lit (.int .u32 1994146192), .lit (.int .u32 1802195444), .lit (.int .u32 1303535960), .lit (.int .u32 1342533948), .lit (.int .u32 3988292384), .lit (.int .u32 4027552580), .lit (.int .u32 3604390888), .lit (.int .u32 3412177804), .lit (.int .u32 2607071920), .lit (.int .u32 2262029012), .lit (.int .u32 2685067896), .lit (.int .u32 3183342108)]

/-- 'sumpterlaw28.TokenPuts': WHATEVER THE INPUT: true; the input reads as it did. -/
def tokenPutsSpec : ChangeSpec := { name := "tokenPuts", fn := fun _ => fun
  | [d1, d2, d3] => { results := [.lit (.bool true)], args := [d1, d2, d3] }
  | _ => none }
def tokenPutsRow : OpenClaim := { program := "ytiohgpcbdefokaadoor", sum := "82979931679c19aa3b087151b0b025622c3c2bcb69586dc592918ec04c80f296", func := "sumpter/sumpterlaw28.TokenPuts", spec := "tokenPuts", inPlace := ["internal/bytealg.CountString", "internal/bytealg.IndexByteString", "internal/bytealg.IndexString"], unfollowed := true, recurses := true, named := ["unicode/utf8.first", "unicode/utf8.acceptRanges", "internal/bytealg.MaxLen", "sumpter/sha.rounds"], apart := false, laid := [("unicode/utf8.acceptRanges", laid_unicode_utf8_acceptRanges), ("sumpter/sha.rounds", laid_sumpter_sha_rounds), ("unicode/utf8.first", laid_unicode_utf8_first)] }
def TokenPutsSaid : Prop := tokenPutsRow.holds Tryd.pinned (OpenSpec.ofChange tokenPutsSpec)

/-- ITS FALSE NEIGHBOUR: 'it returns false'. Refute it at one input. -/
def tokenPutsWrong : ChangeSpec := { name := "tokenPuts", fn := fun _ => fun
  | [d1, d2, d3] => { results := [.lit (.bool false)], args := [d1, d2, d3] }
  | _ => none }
def TokenPutsWrongFalsely : Prop := tokenPutsRow.holds Tryd.pinned (OpenSpec.ofChange tokenPutsWrong)

/-- 'sumpterlaw28.TokenGets': WHATEVER THE INPUT: true; the input reads as it did. -/
def tokenGetsSpec : ChangeSpec := { name := "tokenGets", fn := fun _ => fun
  | [d1, d2] => { results := [.lit (.bool true)], args := [d1, d2] }
  | _ => none }
def tokenGetsRow : OpenClaim := { program := "ytiohgpcbdefokaadoor", sum := "82979931679c19aa3b087151b0b025622c3c2bcb69586dc592918ec04c80f296", func := "sumpter/sumpterlaw28.TokenGets", spec := "tokenGets", inPlace := ["internal/bytealg.CountString", "internal/bytealg.IndexByteString", "internal/bytealg.IndexString"], unfollowed := true, recurses := true, named := ["unicode/utf8.first", "unicode/utf8.acceptRanges", "internal/bytealg.MaxLen", "sumpter/sha.rounds"], apart := false, laid := [("unicode/utf8.acceptRanges", laid_unicode_utf8_acceptRanges), ("sumpter/sha.rounds", laid_sumpter_sha_rounds), ("unicode/utf8.first", laid_unicode_utf8_first)] }
def TokenGetsSaid : Prop := tokenGetsRow.holds Tryd.pinned (OpenSpec.ofChange tokenGetsSpec)

/-- ITS FALSE NEIGHBOUR: 'it returns false'. Refute it at one input. -/
def tokenGetsWrong : ChangeSpec := { name := "tokenGets", fn := fun _ => fun
  | [d1, d2] => { results := [.lit (.bool false)], args := [d1, d2] }
  | _ => none }
def TokenGetsWrongFalsely : Prop := tokenGetsRow.holds Tryd.pinned (OpenSpec.ofChange tokenGetsWrong)

/-- 'sumpterlaw28.TokenBack': WHATEVER THE INPUT: true; the input reads as it did. -/
def tokenBackSpec : ChangeSpec := { name := "tokenBack", fn := fun _ => fun
  | [d1, d2, d3] => { results := [.lit (.bool true)], args := [d1, d2, d3] }
  | _ => none }
def tokenBackRow : OpenClaim := { program := "ytiohgpcbdefokaadoor", sum := "82979931679c19aa3b087151b0b025622c3c2bcb69586dc592918ec04c80f296", func := "sumpter/sumpterlaw28.TokenBack", spec := "tokenBack", inPlace := ["internal/bytealg.CountString", "internal/bytealg.IndexByteString", "internal/bytealg.IndexString"], unfollowed := true, recurses := true, named := ["unicode/utf8.first", "unicode/utf8.acceptRanges", "internal/bytealg.MaxLen", "sumpter/sha.rounds"], apart := false, laid := [("unicode/utf8.acceptRanges", laid_unicode_utf8_acceptRanges), ("sumpter/sha.rounds", laid_sumpter_sha_rounds), ("unicode/utf8.first", laid_unicode_utf8_first)] }
def TokenBackSaid : Prop := tokenBackRow.holds Tryd.pinned (OpenSpec.ofChange tokenBackSpec)

/-- ITS FALSE NEIGHBOUR: 'it returns false'. Refute it at one input. -/
def tokenBackWrong : ChangeSpec := { name := "tokenBack", fn := fun _ => fun
  | [d1, d2, d3] => { results := [.lit (.bool false)], args := [d1, d2, d3] }
  | _ => none }
def TokenBackWrongFalsely : Prop := tokenBackRow.holds Tryd.pinned (OpenSpec.ofChange tokenBackWrong)

/-- 'sumpterlaw28.TokenItems': WHATEVER THE INPUT: true; the input reads as it did. -/
def tokenItemsSpec : ChangeSpec := { name := "tokenItems", fn := fun _ => fun
  | [d1, d2] => { results := [.lit (.bool true)], args := [d1, d2] }
  | _ => none }
def tokenItemsRow : OpenClaim := { program := "ytiohgpcbdefokaadoor", sum := "82979931679c19aa3b087151b0b025622c3c2bcb69586dc592918ec04c80f296", func := "sumpter/sumpterlaw28.TokenItems", spec := "tokenItems", inPlace := ["internal/bytealg.CountString", "internal/bytealg.IndexByteString", "internal/bytealg.IndexString"], unfollowed := true, recurses := true, named := ["unicode/utf8.first", "unicode/utf8.acceptRanges", "internal/bytealg.MaxLen", "sumpter/sha.rounds"], apart := false, laid := [("unicode/utf8.acceptRanges", laid_unicode_utf8_acceptRanges), ("sumpter/sha.rounds", laid_sumpter_sha_rounds), ("unicode/utf8.first", laid_unicode_utf8_first)] }
def TokenItemsSaid : Prop := tokenItemsRow.holds Tryd.pinned (OpenSpec.ofChange tokenItemsSpec)

/-- ITS FALSE NEIGHBOUR: 'it returns false'. Refute it at one input. -/
def tokenItemsWrong : ChangeSpec := { name := "tokenItems", fn := fun _ => fun
  | [d1, d2] => { results := [.lit (.bool false)], args := [d1, d2] }
  | _ => none }
def TokenItemsWrongFalsely : Prop := tokenItemsRow.holds Tryd.pinned (OpenSpec.ofChange tokenItemsWrong)

/-- 'sumpterlaw15.RecordPuts': WHATEVER THE INPUT: true; the input reads as it did. -/
def recordPutsSpec : ChangeSpec := { name := "recordPuts", fn := fun _ => fun
  | [d] => { results := [.lit (.bool true)], args := [d] }
  | _ => none }
def recordPutsRow : OpenClaim := { program := "ytiohgpcbdefokaadoor", sum := "82979931679c19aa3b087151b0b025622c3c2bcb69586dc592918ec04c80f296", func := "sumpter/sumpterlaw15.RecordPuts", spec := "recordPuts", inPlace := ["internal/bytealg.CountString", "internal/bytealg.IndexByteString", "internal/bytealg.IndexString"], unfollowed := true, recurses := true, named := ["unicode/utf8.first", "unicode/utf8.acceptRanges", "internal/bytealg.MaxLen", "sumpter/crc.table"], apart := false, laid := [("unicode/utf8.acceptRanges", laid_unicode_utf8_acceptRanges), ("sumpter/crc.table", laid_sumpter_crc_table), ("unicode/utf8.first", laid_unicode_utf8_first)] }
def RecordPutsSaid : Prop := recordPutsRow.holds Tryd.pinned (OpenSpec.ofChange recordPutsSpec)

/-- ITS FALSE NEIGHBOUR: 'it returns false'. Refute it at one input. -/
def recordPutsWrong : ChangeSpec := { name := "recordPuts", fn := fun _ => fun
  | [d] => { results := [.lit (.bool false)], args := [d] }
  | _ => none }
def RecordPutsWrongFalsely : Prop := recordPutsRow.holds Tryd.pinned (OpenSpec.ofChange recordPutsWrong)

/-- 'sumpterlaw15.RecordPlays': WHATEVER THE INPUT: true; the input reads as it did. -/
def recordPlaysSpec : ChangeSpec := { name := "recordPlays", fn := fun _ => fun
  | [d1, d2] => { results := [.lit (.bool true)], args := [d1, d2] }
  | _ => none }
def recordPlaysRow : OpenClaim := { program := "ytiohgpcbdefokaadoor", sum := "82979931679c19aa3b087151b0b025622c3c2bcb69586dc592918ec04c80f296", func := "sumpter/sumpterlaw15.RecordPlays", spec := "recordPlays", inPlace := ["internal/bytealg.CountString", "internal/bytealg.IndexByteString", "internal/bytealg.IndexString"], unfollowed := true, recurses := true, named := ["unicode/utf8.first", "unicode/utf8.acceptRanges", "internal/bytealg.MaxLen", "sumpter/crc.table"], apart := false, laid := [("unicode/utf8.acceptRanges", laid_unicode_utf8_acceptRanges), ("sumpter/crc.table", laid_sumpter_crc_table), ("unicode/utf8.first", laid_unicode_utf8_first)] }
def RecordPlaysSaid : Prop := recordPlaysRow.holds Tryd.pinned (OpenSpec.ofChange recordPlaysSpec)

/-- ITS FALSE NEIGHBOUR: 'it returns false'. Refute it at one input. -/
def recordPlaysWrong : ChangeSpec := { name := "recordPlays", fn := fun _ => fun
  | [d1, d2] => { results := [.lit (.bool false)], args := [d1, d2] }
  | _ => none }
def RecordPlaysWrongFalsely : Prop := recordPlaysRow.holds Tryd.pinned (OpenSpec.ofChange recordPlaysWrong)

/-- 'sumpterlaw15.RecordBack': WHATEVER THE INPUT: true; the input reads as it did. -/
def recordBackSpec : ChangeSpec := { name := "recordBack", fn := fun _ => fun
  | [d1, d2] => { results := [.lit (.bool true)], args := [d1, d2] }
  | _ => none }
def recordBackRow : OpenClaim := { program := "ytiohgpcbdefokaadoor", sum := "82979931679c19aa3b087151b0b025622c3c2bcb69586dc592918ec04c80f296", func := "sumpter/sumpterlaw15.RecordBack", spec := "recordBack", inPlace := ["internal/bytealg.CountString", "internal/bytealg.IndexByteString", "internal/bytealg.IndexString"], unfollowed := true, recurses := true, named := ["unicode/utf8.first", "unicode/utf8.acceptRanges", "internal/bytealg.MaxLen", "sumpter/crc.table"], apart := false, laid := [("unicode/utf8.acceptRanges", laid_unicode_utf8_acceptRanges), ("sumpter/crc.table", laid_sumpter_crc_table), ("unicode/utf8.first", laid_unicode_utf8_first)] }
def RecordBackSaid : Prop := recordBackRow.holds Tryd.pinned (OpenSpec.ofChange recordBackSpec)

/-- ITS FALSE NEIGHBOUR: 'it returns false'. Refute it at one input. -/
def recordBackWrong : ChangeSpec := { name := "recordBack", fn := fun _ => fun
  | [d1, d2] => { results := [.lit (.bool false)], args := [d1, d2] }
  | _ => none }
def RecordBackWrongFalsely : Prop := recordBackRow.holds Tryd.pinned (OpenSpec.ofChange recordBackWrong)

/-- 'sumpterlaw15.RecordRises': WHATEVER THE INPUT: true; the input reads as it did. -/
def recordRisesSpec : ChangeSpec := { name := "recordRises", fn := fun _ => fun
  | [d] => { results := [.lit (.bool true)], args := [d] }
  | _ => none }
def recordRisesRow : OpenClaim := { program := "ytiohgpcbdefokaadoor", sum := "82979931679c19aa3b087151b0b025622c3c2bcb69586dc592918ec04c80f296", func := "sumpter/sumpterlaw15.RecordRises", spec := "recordRises", inPlace := ["internal/bytealg.CountString", "internal/bytealg.IndexByteString", "internal/bytealg.IndexString"], unfollowed := true, recurses := true, named := ["unicode/utf8.first", "unicode/utf8.acceptRanges", "internal/bytealg.MaxLen", "sumpter/crc.table"], apart := false, laid := [("unicode/utf8.acceptRanges", laid_unicode_utf8_acceptRanges), ("sumpter/crc.table", laid_sumpter_crc_table), ("unicode/utf8.first", laid_unicode_utf8_first)] }
def RecordRisesSaid : Prop := recordRisesRow.holds Tryd.pinned (OpenSpec.ofChange recordRisesSpec)

/-- ITS FALSE NEIGHBOUR: 'it returns false'. Refute it at one input. -/
def recordRisesWrong : ChangeSpec := { name := "recordRises", fn := fun _ => fun
  | [d] => { results := [.lit (.bool false)], args := [d] }
  | _ => none }
def RecordRisesWrongFalsely : Prop := recordRisesRow.holds Tryd.pinned (OpenSpec.ofChange recordRisesWrong)

/-- 'sumpterlaw15.RecordImaged': WHATEVER THE INPUT: true; the input reads as it did. -/
def recordImagedSpec : ChangeSpec := { name := "recordImaged", fn := fun _ => fun
  | [d] => { results := [.lit (.bool true)], args := [d] }
  | _ => none }
def recordImagedRow : OpenClaim := { program := "ytiohgpcbdefokaadoor", sum := "82979931679c19aa3b087151b0b025622c3c2bcb69586dc592918ec04c80f296", func := "sumpter/sumpterlaw15.RecordImaged", spec := "recordImaged", inPlace := ["internal/bytealg.CountString", "internal/bytealg.IndexByteString", "internal/bytealg.IndexString"], unfollowed := true, recurses := true, named := ["unicode/utf8.first", "unicode/utf8.acceptRanges", "internal/bytealg.MaxLen", "sumpter/crc.table"], apart := false, laid := [("unicode/utf8.acceptRanges", laid_unicode_utf8_acceptRanges), ("sumpter/crc.table", laid_sumpter_crc_table), ("unicode/utf8.first", laid_unicode_utf8_first)] }
def RecordImagedSaid : Prop := recordImagedRow.holds Tryd.pinned (OpenSpec.ofChange recordImagedSpec)

/-- ITS FALSE NEIGHBOUR: 'it returns false'. Refute it at one input. -/
def recordImagedWrong : ChangeSpec := { name := "recordImaged", fn := fun _ => fun
  | [d] => { results := [.lit (.bool false)], args := [d] }
  | _ => none }
def RecordImagedWrongFalsely : Prop := recordImagedRow.holds Tryd.pinned (OpenSpec.ofChange recordImagedWrong)

/-- 'sumpterlaw10.ManifestBack': WHATEVER THE INPUT: true; the input reads as it did. -/
def manifestBackSpec : ChangeSpec := { name := "manifestBack", fn := fun _ => fun
  | [d1, d2] => { results := [.lit (.bool true)], args := [d1, d2] }
  | _ => none }
def manifestBackRow : OpenClaim := { program := "ytiohgpcbdefokaadoor", sum := "82979931679c19aa3b087151b0b025622c3c2bcb69586dc592918ec04c80f296", func := "sumpter/sumpterlaw10.ManifestBack", spec := "manifestBack", inPlace := ["internal/bytealg.CountString", "internal/bytealg.IndexByteString", "internal/bytealg.IndexString"], unfollowed := true, recurses := true, named := ["unicode/utf8.first", "unicode/utf8.acceptRanges", "internal/bytealg.MaxLen", "sumpter/sha.rounds"], apart := false, laid := [("unicode/utf8.acceptRanges", laid_unicode_utf8_acceptRanges), ("sumpter/sha.rounds", laid_sumpter_sha_rounds), ("unicode/utf8.first", laid_unicode_utf8_first)] }
def ManifestBackSaid : Prop := manifestBackRow.holds Tryd.pinned (OpenSpec.ofChange manifestBackSpec)

/-- ITS FALSE NEIGHBOUR: 'it returns false'. Refute it at one input. -/
def manifestBackWrong : ChangeSpec := { name := "manifestBack", fn := fun _ => fun
  | [d1, d2] => { results := [.lit (.bool false)], args := [d1, d2] }
  | _ => none }
def ManifestBackWrongFalsely : Prop := manifestBackRow.holds Tryd.pinned (OpenSpec.ofChange manifestBackWrong)

/-- 'sumpterlaw10.ManifestTells': WHATEVER THE INPUT: true; the input reads as it did. -/
def manifestTellsSpec : ChangeSpec := { name := "manifestTells", fn := fun _ => fun
  | [d1, d2] => { results := [.lit (.bool true)], args := [d1, d2] }
  | _ => none }
def manifestTellsRow : OpenClaim := { program := "ytiohgpcbdefokaadoor", sum := "82979931679c19aa3b087151b0b025622c3c2bcb69586dc592918ec04c80f296", func := "sumpter/sumpterlaw10.ManifestTells", spec := "manifestTells", inPlace := ["internal/bytealg.CountString", "internal/bytealg.IndexByteString", "internal/bytealg.IndexString"], unfollowed := true, recurses := true, named := ["unicode/utf8.first", "unicode/utf8.acceptRanges", "internal/bytealg.MaxLen", "sumpter/sha.rounds"], apart := false, laid := [("unicode/utf8.acceptRanges", laid_unicode_utf8_acceptRanges), ("sumpter/sha.rounds", laid_sumpter_sha_rounds), ("unicode/utf8.first", laid_unicode_utf8_first)] }
def ManifestTellsSaid : Prop := manifestTellsRow.holds Tryd.pinned (OpenSpec.ofChange manifestTellsSpec)

/-- ITS FALSE NEIGHBOUR: 'it returns false'. Refute it at one input. -/
def manifestTellsWrong : ChangeSpec := { name := "manifestTells", fn := fun _ => fun
  | [d1, d2] => { results := [.lit (.bool false)], args := [d1, d2] }
  | _ => none }
def ManifestTellsWrongFalsely : Prop := manifestTellsRow.holds Tryd.pinned (OpenSpec.ofChange manifestTellsWrong)

/- THE SECOND FORM. 'bulk': how many values and letters a reading holds, each counted each time it is reached (what is shared counts as often as it is met; a slice's spare places count too). A statement '..UptoSaid' is the law's where the arguments, and the package variables that the reading takes, are together of bulk at most 1048576: NARROWER than '..Said'. Prove '..Said' where nothing that the law and all that it calls make is longer than what came in: it says more and counts as full. Else prove '..UptoSaid'. A law counts once. -/
mutual
def uptoBulk {H : Type} : DataW H → Nat
  | .lit (.string bytes) => bytes.length + 1
  | .lit _ => 1
  | .nil => 1
  | .ptr d => uptoBulk d + 1
  | .slice elems spare => uptoBulkAll elems + uptoBulkAll spare + 1
  | .agg parts => uptoBulkAll parts + 1
  | .iface _ d => uptoBulk d + 1
  | .map entries => uptoBulkEntries entries + 1
  | .held _ => 1
def uptoBulkAll {H : Type} : List (DataW H) → Nat
  | [] => 0
  | d :: r => uptoBulk d + uptoBulkAll r
def uptoBulkEntries {H : Type} : List (Lit × DataW H) → Nat
  | [] => 0
  | x :: r => uptoBulkEntry x + uptoBulkEntries r
def uptoBulkEntry {H : Type} : Lit × DataW H → Nat
  | (.string bytes, d) => bytes.length + uptoBulk d + 1
  | (_, d) => uptoBulk d + 1
 end
def uptoSmall : (H : Type) → List (DataW H) → Bool := fun _ ds => decide (uptoBulkAll ds ≤ 1048576)
def OpenSpec.upto (s : _root_.Go.ChangeSpec) : _root_.Go.OpenSpec := { _root_.Go.OpenSpec.ofChange s with cond := some uptoSmall }

/-- 'sumpterlaw28.TokenPuts', WHERE WHAT IT READS IS OF BULK AT MOST 1048576: true; the input reads as it did. -/
def tokenPutsUptoRow : OpenClaim := { program := "ytiohgpcbdefokaadoor", sum := "82979931679c19aa3b087151b0b025622c3c2bcb69586dc592918ec04c80f296", func := "sumpter/sumpterlaw28.TokenPuts", spec := "tokenPuts", inPlace := ["internal/bytealg.CountString", "internal/bytealg.IndexByteString", "internal/bytealg.IndexString"], unfollowed := true, recurses := true, named := ["unicode/utf8.first", "unicode/utf8.acceptRanges", "internal/bytealg.MaxLen", "sumpter/sha.rounds"], apart := false, laid := [("unicode/utf8.acceptRanges", laid_unicode_utf8_acceptRanges), ("sumpter/sha.rounds", laid_sumpter_sha_rounds), ("unicode/utf8.first", laid_unicode_utf8_first)], narrowed := true }
def TokenPutsUptoSaid : Prop := tokenPutsUptoRow.holds Tryd.pinned (OpenSpec.upto tokenPutsSpec)

/-- 'sumpterlaw28.TokenGets', WHERE WHAT IT READS IS OF BULK AT MOST 1048576: true; the input reads as it did. -/
def tokenGetsUptoRow : OpenClaim := { program := "ytiohgpcbdefokaadoor", sum := "82979931679c19aa3b087151b0b025622c3c2bcb69586dc592918ec04c80f296", func := "sumpter/sumpterlaw28.TokenGets", spec := "tokenGets", inPlace := ["internal/bytealg.CountString", "internal/bytealg.IndexByteString", "internal/bytealg.IndexString"], unfollowed := true, recurses := true, named := ["unicode/utf8.first", "unicode/utf8.acceptRanges", "internal/bytealg.MaxLen", "sumpter/sha.rounds"], apart := false, laid := [("unicode/utf8.acceptRanges", laid_unicode_utf8_acceptRanges), ("sumpter/sha.rounds", laid_sumpter_sha_rounds), ("unicode/utf8.first", laid_unicode_utf8_first)], narrowed := true }
def TokenGetsUptoSaid : Prop := tokenGetsUptoRow.holds Tryd.pinned (OpenSpec.upto tokenGetsSpec)

/-- 'sumpterlaw28.TokenBack', WHERE WHAT IT READS IS OF BULK AT MOST 1048576: true; the input reads as it did. -/
def tokenBackUptoRow : OpenClaim := { program := "ytiohgpcbdefokaadoor", sum := "82979931679c19aa3b087151b0b025622c3c2bcb69586dc592918ec04c80f296", func := "sumpter/sumpterlaw28.TokenBack", spec := "tokenBack", inPlace := ["internal/bytealg.CountString", "internal/bytealg.IndexByteString", "internal/bytealg.IndexString"], unfollowed := true, recurses := true, named := ["unicode/utf8.first", "unicode/utf8.acceptRanges", "internal/bytealg.MaxLen", "sumpter/sha.rounds"], apart := false, laid := [("unicode/utf8.acceptRanges", laid_unicode_utf8_acceptRanges), ("sumpter/sha.rounds", laid_sumpter_sha_rounds), ("unicode/utf8.first", laid_unicode_utf8_first)], narrowed := true }
def TokenBackUptoSaid : Prop := tokenBackUptoRow.holds Tryd.pinned (OpenSpec.upto tokenBackSpec)

/-- 'sumpterlaw28.TokenItems', WHERE WHAT IT READS IS OF BULK AT MOST 1048576: true; the input reads as it did. -/
def tokenItemsUptoRow : OpenClaim := { program := "ytiohgpcbdefokaadoor", sum := "82979931679c19aa3b087151b0b025622c3c2bcb69586dc592918ec04c80f296", func := "sumpter/sumpterlaw28.TokenItems", spec := "tokenItems", inPlace := ["internal/bytealg.CountString", "internal/bytealg.IndexByteString", "internal/bytealg.IndexString"], unfollowed := true, recurses := true, named := ["unicode/utf8.first", "unicode/utf8.acceptRanges", "internal/bytealg.MaxLen", "sumpter/sha.rounds"], apart := false, laid := [("unicode/utf8.acceptRanges", laid_unicode_utf8_acceptRanges), ("sumpter/sha.rounds", laid_sumpter_sha_rounds), ("unicode/utf8.first", laid_unicode_utf8_first)], narrowed := true }
def TokenItemsUptoSaid : Prop := tokenItemsUptoRow.holds Tryd.pinned (OpenSpec.upto tokenItemsSpec)

/-- 'sumpterlaw15.RecordPuts', WHERE WHAT IT READS IS OF BULK AT MOST 1048576: true; the input reads as it did. -/
def recordPutsUptoRow : OpenClaim := { program := "ytiohgpcbdefokaadoor", sum := "82979931679c19aa3b087151b0b025622c3c2bcb69586dc592918ec04c80f296", func := "sumpter/sumpterlaw15.RecordPuts", spec := "recordPuts", inPlace := ["internal/bytealg.CountString", "internal/bytealg.IndexByteString", "internal/bytealg.IndexString"], unfollowed := true, recurses := true, named := ["unicode/utf8.first", "unicode/utf8.acceptRanges", "internal/bytealg.MaxLen", "sumpter/crc.table"], apart := false, laid := [("unicode/utf8.acceptRanges", laid_unicode_utf8_acceptRanges), ("sumpter/crc.table", laid_sumpter_crc_table), ("unicode/utf8.first", laid_unicode_utf8_first)], narrowed := true }
def RecordPutsUptoSaid : Prop := recordPutsUptoRow.holds Tryd.pinned (OpenSpec.upto recordPutsSpec)

/-- 'sumpterlaw15.RecordPlays', WHERE WHAT IT READS IS OF BULK AT MOST 1048576: true; the input reads as it did. -/
def recordPlaysUptoRow : OpenClaim := { program := "ytiohgpcbdefokaadoor", sum := "82979931679c19aa3b087151b0b025622c3c2bcb69586dc592918ec04c80f296", func := "sumpter/sumpterlaw15.RecordPlays", spec := "recordPlays", inPlace := ["internal/bytealg.CountString", "internal/bytealg.IndexByteString", "internal/bytealg.IndexString"], unfollowed := true, recurses := true, named := ["unicode/utf8.first", "unicode/utf8.acceptRanges", "internal/bytealg.MaxLen", "sumpter/crc.table"], apart := false, laid := [("unicode/utf8.acceptRanges", laid_unicode_utf8_acceptRanges), ("sumpter/crc.table", laid_sumpter_crc_table), ("unicode/utf8.first", laid_unicode_utf8_first)], narrowed := true }
def RecordPlaysUptoSaid : Prop := recordPlaysUptoRow.holds Tryd.pinned (OpenSpec.upto recordPlaysSpec)

/-- 'sumpterlaw15.RecordBack', WHERE WHAT IT READS IS OF BULK AT MOST 1048576: true; the input reads as it did. -/
def recordBackUptoRow : OpenClaim := { program := "ytiohgpcbdefokaadoor", sum := "82979931679c19aa3b087151b0b025622c3c2bcb69586dc592918ec04c80f296", func := "sumpter/sumpterlaw15.RecordBack", spec := "recordBack", inPlace := ["internal/bytealg.CountString", "internal/bytealg.IndexByteString", "internal/bytealg.IndexString"], unfollowed := true, recurses := true, named := ["unicode/utf8.first", "unicode/utf8.acceptRanges", "internal/bytealg.MaxLen", "sumpter/crc.table"], apart := false, laid := [("unicode/utf8.acceptRanges", laid_unicode_utf8_acceptRanges), ("sumpter/crc.table", laid_sumpter_crc_table), ("unicode/utf8.first", laid_unicode_utf8_first)], narrowed := true }
def RecordBackUptoSaid : Prop := recordBackUptoRow.holds Tryd.pinned (OpenSpec.upto recordBackSpec)

/-- 'sumpterlaw15.RecordRises', WHERE WHAT IT READS IS OF BULK AT MOST 1048576: true; the input reads as it did. -/
def recordRisesUptoRow : OpenClaim := { program := "ytiohgpcbdefokaadoor", sum := "82979931679c19aa3b087151b0b025622c3c2bcb69586dc592918ec04c80f296", func := "sumpter/sumpterlaw15.RecordRises", spec := "recordRises", inPlace := ["internal/bytealg.CountString", "internal/bytealg.IndexByteString", "internal/bytealg.IndexString"], unfollowed := true, recurses := true, named := ["unicode/utf8.first", "unicode/utf8.acceptRanges", "internal/bytealg.MaxLen", "sumpter/crc.table"], apart := false, laid := [("unicode/utf8.acceptRanges", laid_unicode_utf8_acceptRanges), ("sumpter/crc.table", laid_sumpter_crc_table), ("unicode/utf8.first", laid_unicode_utf8_first)], narrowed := true }
def RecordRisesUptoSaid : Prop := recordRisesUptoRow.holds Tryd.pinned (OpenSpec.upto recordRisesSpec)

/-- 'sumpterlaw15.RecordImaged', WHERE WHAT IT READS IS OF BULK AT MOST 1048576: true; the input reads as it did. -/
def recordImagedUptoRow : OpenClaim := { program := "ytiohgpcbdefokaadoor", sum := "82979931679c19aa3b087151b0b025622c3c2bcb69586dc592918ec04c80f296", func := "sumpter/sumpterlaw15.RecordImaged", spec := "recordImaged", inPlace := ["internal/bytealg.CountString", "internal/bytealg.IndexByteString", "internal/bytealg.IndexString"], unfollowed := true, recurses := true, named := ["unicode/utf8.first", "unicode/utf8.acceptRanges", "internal/bytealg.MaxLen", "sumpter/crc.table"], apart := false, laid := [("unicode/utf8.acceptRanges", laid_unicode_utf8_acceptRanges), ("sumpter/crc.table", laid_sumpter_crc_table), ("unicode/utf8.first", laid_unicode_utf8_first)], narrowed := true }
def RecordImagedUptoSaid : Prop := recordImagedUptoRow.holds Tryd.pinned (OpenSpec.upto recordImagedSpec)

/-- 'sumpterlaw10.ManifestBack', WHERE WHAT IT READS IS OF BULK AT MOST 1048576: true; the input reads as it did. -/
def manifestBackUptoRow : OpenClaim := { program := "ytiohgpcbdefokaadoor", sum := "82979931679c19aa3b087151b0b025622c3c2bcb69586dc592918ec04c80f296", func := "sumpter/sumpterlaw10.ManifestBack", spec := "manifestBack", inPlace := ["internal/bytealg.CountString", "internal/bytealg.IndexByteString", "internal/bytealg.IndexString"], unfollowed := true, recurses := true, named := ["unicode/utf8.first", "unicode/utf8.acceptRanges", "internal/bytealg.MaxLen", "sumpter/sha.rounds"], apart := false, laid := [("unicode/utf8.acceptRanges", laid_unicode_utf8_acceptRanges), ("sumpter/sha.rounds", laid_sumpter_sha_rounds), ("unicode/utf8.first", laid_unicode_utf8_first)], narrowed := true }
def ManifestBackUptoSaid : Prop := manifestBackUptoRow.holds Tryd.pinned (OpenSpec.upto manifestBackSpec)

/-- 'sumpterlaw10.ManifestTells', WHERE WHAT IT READS IS OF BULK AT MOST 1048576: true; the input reads as it did. -/
def manifestTellsUptoRow : OpenClaim := { program := "ytiohgpcbdefokaadoor", sum := "82979931679c19aa3b087151b0b025622c3c2bcb69586dc592918ec04c80f296", func := "sumpter/sumpterlaw10.ManifestTells", spec := "manifestTells", inPlace := ["internal/bytealg.CountString", "internal/bytealg.IndexByteString", "internal/bytealg.IndexString"], unfollowed := true, recurses := true, named := ["unicode/utf8.first", "unicode/utf8.acceptRanges", "internal/bytealg.MaxLen", "sumpter/sha.rounds"], apart := false, laid := [("unicode/utf8.acceptRanges", laid_unicode_utf8_acceptRanges), ("sumpter/sha.rounds", laid_sumpter_sha_rounds), ("unicode/utf8.first", laid_unicode_utf8_first)], narrowed := true }
def ManifestTellsUptoSaid : Prop := manifestTellsUptoRow.holds Tryd.pinned (OpenSpec.upto manifestTellsSpec)

end Rows
end Go.Proofs.YtiohgpcbdefokaaDoor
