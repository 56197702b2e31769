/- Contracts and plain laws for the statement RecordBack, part b: several texts of this session behind one another. No condition. -/
import Derived.Test.YtiohgpcbdefokaaDoorMRecordBacka
import Derived.Test.YtiohgpcbdefokaaDoorWEqStruct
import Derived.Stop.BytesEq
import Derived.Lib.Hide
import Derived.WalkSpells
import Derived.Laws.CopyOwn
import Derived.Laws.AppendOwn
import Derived.Lib.AppendZerosOnto
import Derived.Lib.Overlaps
import Derived.Below
import Derived.WalkKit
import Derived.StillTailTactics
import Derived.Deep.RegionHeld3
import Derived.Test.YtiohgpcbdefokaaDoorWLast
import Derived.Test.YtiohgpcbdefokaaDoorWMore
import Derived.Deep.DeepCutAuto
import Derived.Lib.Split
import Derived.Lib.SplitLaws
import Derived.Lib.IndexBytes
import Derived.Lib.IndexLaws
import Derived.Lib.Join
import Derived.Lib.Strings
import Derived.RowKit
import Derived.OpenShut
import Derived.Laws.Bits128
import Derived.Laws.BytesArg
import Derived.Laws.BitsLemmas
import Derived.Lib.Bytes
import Derived.WalkLawsBesides
/- Structs that bear 32 bytes, as lists of cells that stay shut: what a load, a store, a field, a literal and '==' make of them. No condition. -/
namespace Go.Proofs.YtiohgpcbdefokaaDoor.B
open Go.RowKit Go.Proofs.YtiohgpcbdefokaaDoorW.PrintWords
/-- 32 bytes. -/
def Hs : Type := { l : List UInt8 // l.length = 32 }
instance : DecidableEq Hs := fun a b => if h : a.1 = b.1 then .isTrue (Subtype.ext h) else .isFalse (fun e => h (by rw [e]))
def Hs.zero : Hs := ⟨List.replicate 32 0, by simp⟩
instance : Inhabited Hs := ⟨Hs.zero⟩
def hsL (h : Hs) : List Value := h.1.map Extern.Stop.cell
theorem hs_lit (h : Hs) : ∃ b0 b1 b2 b3 b4 b5 b6 b7 b8 b9 b10 b11 b12 b13 b14 b15 b16 b17 b18 b19 b20 b21 b22 b23 b24 b25 b26 b27 b28 b29 b30 b31 : UInt8, hsL h = [Extern.Stop.cell b0, Extern.Stop.cell b1, Extern.Stop.cell b2, Extern.Stop.cell b3, Extern.Stop.cell b4, Extern.Stop.cell b5, Extern.Stop.cell b6, Extern.Stop.cell b7, Extern.Stop.cell b8, Extern.Stop.cell b9, Extern.Stop.cell b10, Extern.Stop.cell b11, Extern.Stop.cell b12, Extern.Stop.cell b13, Extern.Stop.cell b14, Extern.Stop.cell b15, Extern.Stop.cell b16, Extern.Stop.cell b17, Extern.Stop.cell b18, Extern.Stop.cell b19, Extern.Stop.cell b20, Extern.Stop.cell b21, Extern.Stop.cell b22, Extern.Stop.cell b23, Extern.Stop.cell b24, Extern.Stop.cell b25, Extern.Stop.cell b26, Extern.Stop.cell b27, Extern.Stop.cell b28, Extern.Stop.cell b29, Extern.Stop.cell b30, Extern.Stop.cell b31] := by
  obtain ⟨l, hl⟩ := h
  match l, hl with
  | [b0, b1, b2, b3, b4, b5, b6, b7, b8, b9, b10, b11, b12, b13, b14, b15, b16, b17, b18, b19, b20, b21, b22, b23, b24, b25, b26, b27, b28, b29, b30, b31], _ => exact ⟨b0, b1, b2, b3, b4, b5, b6, b7, b8, b9, b10, b11, b12, b13, b14, b15, b16, b17, b18, b19, b20, b21, b22, b23, b24, b25, b26, b27, b28, b29, b30, b31, rfl⟩
theorem hsL_len (h : Hs) : (hsL h).length = 32 := by simp [hsL, h.2]
theorem hsL_one (h : Hs) : ∀ v ∈ hsL h, v.oneCell' = true := by
  intro v hv
  obtain ⟨x, _, rfl⟩ := List.mem_map.1 hv
  rfl
theorem okL_hs (h : Hs) : okL (hsL h) 32 = true := by unfold okL; simp [hsL_len]; exact hsL_one h
theorem beq_hs (a b : Hs) : (a.1 == b.1) = decide (a = b) := by
  by_cases h : a = b
  · subst h; simp
  · have : a.1 ≠ b.1 := fun e => h (Subtype.ext e)
    simp [h, this]
theorem eqA_hs (d : Nat) (a b : Hs) (w : World) : (Op.equalIn (d + 2) 24 (.agg (hsL a).toArray) (.agg (hsL b).toArray)).run Tryd.prog w = .ok (decide (a = b)) w := by
  rw [← beq_hs]
  exact run_equalIn_bytes w d 24 5 32 (by kernel_rfl) (by kernel_rfl) (fun w => Tryd.sizeOf5 w) a.1 b.1 a.2 b.2
theorem str_eq (a b : ByteArray) : (a.toList == b.toList) = decide (a = b) := by
  rw [ByteArray.toList_eq, ByteArray.toList_eq]
  by_cases h : a = b
  · subst h; simp
  · have : a.data.toList ≠ b.data.toList := fun e => h (ByteArray.ext (Array.ext' e))
    simp only [h, decide_false, beq_eq_false_iff_ne]; exact this
theorem beq_bool (a b : Bool) : (a == b) = decide (a = b) := by cases a <;> cases b <;> rfl
theorem lvO_hs (a : Addr) : loadVar 24 a = lvRow 24 a := rfl
theorem ldV_hs (a : Addr) (w : World) : (lvRow 24 a).run Tryd.prog w = rowRun Tryd.prog 24 a w (rowAt w a 32) := loadVar_row Tryd.underlying24 rfl (by kernel_rfl) a w
theorem ldO_hs (v : Value) : Instr.loadAt 24 v = ldRow 24 v := rfl
theorem stO_hs (p v : Value) : Instr.storeAt 24 p v = stRow 24 p v := rfl
theorem ldA_hs (a : Addr) (w : World) : (ldRow 24 (.pointer (some a))).run Tryd.prog w = rowRun Tryd.prog 24 a w (rowAt w a 32) := loadAt_row Tryd.underlying24 rfl (by kernel_rfl) a w
theorem stA_hs (g : Nat) (l : List Value) (w : World) (h1 : isRow w g 32 = true) (h2 : okL l 32 = true) : (stRow 24 (.pointer (some ⟨g, 0, none⟩)) (.agg l.toArray)).run Tryd.prog w = .ok () (w.setRow g l.toArray) := storeAt_row (by kernel_rfl) g l w h1 h2

/-- A struct by value. -/
structure Pt where
  id : Int
  path : ByteArray
  sum : Hs
  size : Int
  off : Int
deriving DecidableEq
def Pt.zero : Pt := ⟨0, ByteArray.empty, Hs.zero, 0, 0⟩
instance : Inhabited Pt := ⟨Pt.zero⟩
def ptL (x : Pt) : List Value := [.int .i64 x.id, .string x.path] ++ (hsL x.sum ++ ([.int .i64 x.size, .int .i64 x.off]))
theorem ptL_len (x : Pt) : (ptL x).length = 36 := by simp [ptL, hsL_len]
theorem ptL_one (x : Pt) : ∀ v ∈ ptL x, v.oneCell' = true := by
  intro v hv
  simp only [ptL, List.mem_append, List.mem_cons, List.not_mem_nil, or_false] at hv
  rcases hv with (rfl | rfl) | (hv | (rfl | rfl)) <;> first | rfl | exact hsL_one _ v hv
theorem okL_pt (x : Pt) : okL (ptL x) 36 = true := by unfold okL; simp only [ptL_len, beq_self_eq_true, Bool.true_and, List.all_eq_true]; exact ptL_one x
theorem size_pt (x : Pt) : (ptL x).toArray.size = 36 := by simp [ptL_len]
theorem get_pt_id (x : Pt) : (ptL x)[0]? = some (.int .i64 x.id) := by
  simp [ptL]
theorem get_pt_path (x : Pt) : (ptL x)[1]? = some (.string x.path) := by
  simp [ptL]
theorem cut_pt_sum (x : Pt) : cutL (ptL x).toArray 2 32 = some (hsL x.sum) := by
  obtain ⟨a0, a1, a2, a3, a4, a5, a6, a7, a8, a9, a10, a11, a12, a13, a14, a15, a16, a17, a18, a19, a20, a21, a22, a23, a24, a25, a26, a27, a28, a29, a30, a31, e0⟩ := hs_lit x.sum
  simp [cutL, ptL, e0]
theorem get_pt_size (x : Pt) : (ptL x)[34]? = some (.int .i64 x.size) := by
  obtain ⟨a0, a1, a2, a3, a4, a5, a6, a7, a8, a9, a10, a11, a12, a13, a14, a15, a16, a17, a18, a19, a20, a21, a22, a23, a24, a25, a26, a27, a28, a29, a30, a31, e0⟩ := hs_lit x.sum
  simp [ptL, e0]
theorem get_pt_off (x : Pt) : (ptL x)[35]? = some (.int .i64 x.off) := by
  obtain ⟨a0, a1, a2, a3, a4, a5, a6, a7, a8, a9, a10, a11, a12, a13, a14, a15, a16, a17, a18, a19, a20, a21, a22, a23, a24, a25, a26, a27, a28, a29, a30, a31, e0⟩ := hs_lit x.sum
  simp [ptL, e0]
theorem cut_pt (x : Pt) : cutL (ptL x).toArray 0 36 = some (ptL x) := by simp [cutL, ptL_len, List.take_of_length_le (Nat.le_of_eq (ptL_len x))]
theorem eta_pt (x : Pt) : Pt.mk x.id x.path x.sum x.size x.off = x := rfl
theorem lenb_pt (x : Pt) : ((ptL x).length == 36) = true := by simp [ptL_len]
theorem lvO_pt (a : Addr) : loadVar 75 a = lvRow 75 a := rfl
theorem ldV_pt (a : Addr) (w : World) : (lvRow 75 a).run Tryd.prog w = rowRun Tryd.prog 75 a w (rowAt w a 36) := loadVar_row Tryd.underlying75 rfl (by kernel_rfl) a w
theorem ldO_pt (v : Value) : Instr.loadAt 75 v = ldRow 75 v := rfl
theorem stO_pt (p v : Value) : Instr.storeAt 75 p v = stRow 75 p v := rfl
theorem ldA_pt (a : Addr) (w : World) : (ldRow 75 (.pointer (some a))).run Tryd.prog w = rowRun Tryd.prog 75 a w (rowAt w a 36) := loadAt_row Tryd.underlying75 rfl (by kernel_rfl) a w
theorem stA_pt (g : Nat) (l : List Value) (w : World) (h1 : isRow w g 36 = true) (h2 : okL l 36 = true) : (stRow 75 (.pointer (some ⟨g, 0, none⟩)) (.agg l.toArray)).run Tryd.prog w = .ok () (w.setRow g l.toArray) := storeAt_row (by kernel_rfl) g l w h1 h2
theorem lv_pt {a : Addr} {w : World} {l : List Value} (h : rowAt w a 36 = some l) : (loadVar 75 a).run Tryd.prog w = .ok (.agg l.toArray) w := by rw [loadVar_row Tryd.underlying75 rfl (by kernel_rfl) a w, h, rowRun_some]
theorem zero_pt (w : World) : (zeroValue 75).run Tryd.prog w = .ok (.agg (ptL Pt.zero).toArray) w := by kernel_rfl
theorem part_pt_id (x : Pt) (w : World) : (part 3 (ptL x).toArray 0).run Tryd.prog w = .ok (.int .i64 x.id) w := by
  obtain ⟨a0, a1, a2, a3, a4, a5, a6, a7, a8, a9, a10, a11, a12, a13, a14, a15, a16, a17, a18, a19, a20, a21, a22, a23, a24, a25, a26, a27, a28, a29, a30, a31, e0⟩ := hs_lit x.sum
  simp only [ptL, e0]
  kernel_rfl
theorem part_pt_path (x : Pt) (w : World) : (part 9 (ptL x).toArray 1).run Tryd.prog w = .ok (.string x.path) w := by
  obtain ⟨a0, a1, a2, a3, a4, a5, a6, a7, a8, a9, a10, a11, a12, a13, a14, a15, a16, a17, a18, a19, a20, a21, a22, a23, a24, a25, a26, a27, a28, a29, a30, a31, e0⟩ := hs_lit x.sum
  simp only [ptL, e0]
  kernel_rfl
theorem part_pt_sum (x : Pt) (w : World) : (part 24 (ptL x).toArray 2).run Tryd.prog w = .ok (.agg (hsL x.sum).toArray) w := by
  obtain ⟨a0, a1, a2, a3, a4, a5, a6, a7, a8, a9, a10, a11, a12, a13, a14, a15, a16, a17, a18, a19, a20, a21, a22, a23, a24, a25, a26, a27, a28, a29, a30, a31, e0⟩ := hs_lit x.sum
  simp only [ptL, e0]
  kernel_rfl
theorem part_pt_size (x : Pt) (w : World) : (part 3 (ptL x).toArray 34).run Tryd.prog w = .ok (.int .i64 x.size) w := by
  obtain ⟨a0, a1, a2, a3, a4, a5, a6, a7, a8, a9, a10, a11, a12, a13, a14, a15, a16, a17, a18, a19, a20, a21, a22, a23, a24, a25, a26, a27, a28, a29, a30, a31, e0⟩ := hs_lit x.sum
  simp only [ptL, e0]
  kernel_rfl
theorem part_pt_off (x : Pt) (w : World) : (part 3 (ptL x).toArray 35).run Tryd.prog w = .ok (.int .i64 x.off) w := by
  obtain ⟨a0, a1, a2, a3, a4, a5, a6, a7, a8, a9, a10, a11, a12, a13, a14, a15, a16, a17, a18, a19, a20, a21, a22, a23, a24, a25, a26, a27, a28, a29, a30, a31, e0⟩ := hs_lit x.sum
  simp only [ptL, e0]
  kernel_rfl
theorem eqA_pt (d : Nat) (a b : Pt) (w : World) : (Op.equalIn (d + 4) 75 (.agg (ptL a).toArray) (.agg (ptL b).toArray)).run Tryd.prog w = .ok (decide (a = b)) w := by
  have e : decide (a = b) = (decide (a.id = b.id) && (decide (a.path = b.path) && (decide (a.sum = b.sum) && (decide (a.size = b.size) && (decide (a.off = b.off)))))) := by
    cases a; cases b; simp
  rw [e]
  refine eqA_of Tryd.underlying75 (by kernel_rfl) ?_
  refine eqf_cons (by rfl) (part_pt_id a w) (part_pt_id b w) (by go_simp; rfl) ?_
  refine eqf_cons (by rfl) (part_pt_path a w) (part_pt_path b w) (by rw [← str_eq]; go_simp) ?_
  refine eqf_cons (by rfl) (part_pt_sum a w) (part_pt_sum b w) (eqA_hs (d + 1) a.sum b.sum w) ?_
  refine eqf_cons (by rfl) (part_pt_size a w) (part_pt_size b w) (by go_simp; rfl) ?_
  exact eqf_last (by rfl) (part_pt_off a w) (part_pt_off b w) (by go_simp; rfl)
theorem lvO_ptR (a : Addr) : loadVar 78 a = lvRow 78 a := rfl
theorem ldV_ptR (a : Addr) (w : World) : (lvRow 78 a).run Tryd.prog w = rowRun Tryd.prog 78 a w (rowAt w a 36) := loadVar_row Tryd.underlying78 rfl (by kernel_rfl) a w
theorem ldO_ptR (v : Value) : Instr.loadAt 78 v = ldRow 78 v := rfl
theorem stO_ptR (p v : Value) : Instr.storeAt 78 p v = stRow 78 p v := rfl
theorem ldA_ptR (a : Addr) (w : World) : (ldRow 78 (.pointer (some a))).run Tryd.prog w = rowRun Tryd.prog 78 a w (rowAt w a 36) := loadAt_row Tryd.underlying78 rfl (by kernel_rfl) a w
theorem stA_ptR (g : Nat) (l : List Value) (w : World) (h1 : isRow w g 36 = true) (h2 : okL l 36 = true) : (stRow 78 (.pointer (some ⟨g, 0, none⟩)) (.agg l.toArray)).run Tryd.prog w = .ok () (w.setRow g l.toArray) := storeAt_row (by kernel_rfl) g l w h1 h2
theorem zero_ptR (w : World) : (zeroValue 78).run Tryd.prog w = .ok (.agg (ptL Pt.zero).toArray) w := by kernel_rfl
theorem part_ptR_id (x : Pt) (w : World) : (part 3 (ptL x).toArray 0).run Tryd.prog w = .ok (.int .i64 x.id) w := by
  obtain ⟨a0, a1, a2, a3, a4, a5, a6, a7, a8, a9, a10, a11, a12, a13, a14, a15, a16, a17, a18, a19, a20, a21, a22, a23, a24, a25, a26, a27, a28, a29, a30, a31, e0⟩ := hs_lit x.sum
  simp only [ptL, e0]
  kernel_rfl
theorem part_ptR_path (x : Pt) (w : World) : (part 9 (ptL x).toArray 1).run Tryd.prog w = .ok (.string x.path) w := by
  obtain ⟨a0, a1, a2, a3, a4, a5, a6, a7, a8, a9, a10, a11, a12, a13, a14, a15, a16, a17, a18, a19, a20, a21, a22, a23, a24, a25, a26, a27, a28, a29, a30, a31, e0⟩ := hs_lit x.sum
  simp only [ptL, e0]
  kernel_rfl
theorem part_ptR_sum (x : Pt) (w : World) : (part 24 (ptL x).toArray 2).run Tryd.prog w = .ok (.agg (hsL x.sum).toArray) w := by
  obtain ⟨a0, a1, a2, a3, a4, a5, a6, a7, a8, a9, a10, a11, a12, a13, a14, a15, a16, a17, a18, a19, a20, a21, a22, a23, a24, a25, a26, a27, a28, a29, a30, a31, e0⟩ := hs_lit x.sum
  simp only [ptL, e0]
  kernel_rfl
theorem part_ptR_size (x : Pt) (w : World) : (part 3 (ptL x).toArray 34).run Tryd.prog w = .ok (.int .i64 x.size) w := by
  obtain ⟨a0, a1, a2, a3, a4, a5, a6, a7, a8, a9, a10, a11, a12, a13, a14, a15, a16, a17, a18, a19, a20, a21, a22, a23, a24, a25, a26, a27, a28, a29, a30, a31, e0⟩ := hs_lit x.sum
  simp only [ptL, e0]
  kernel_rfl
theorem part_ptR_off (x : Pt) (w : World) : (part 3 (ptL x).toArray 35).run Tryd.prog w = .ok (.int .i64 x.off) w := by
  obtain ⟨a0, a1, a2, a3, a4, a5, a6, a7, a8, a9, a10, a11, a12, a13, a14, a15, a16, a17, a18, a19, a20, a21, a22, a23, a24, a25, a26, a27, a28, a29, a30, a31, e0⟩ := hs_lit x.sum
  simp only [ptL, e0]
  kernel_rfl
theorem eqA_ptR (d : Nat) (a b : Pt) (w : World) : (Op.equalIn (d + 4) 78 (.agg (ptL a).toArray) (.agg (ptL b).toArray)).run Tryd.prog w = .ok (decide (a = b)) w := by
  have e : decide (a = b) = (decide (a.id = b.id) && (decide (a.path = b.path) && (decide (a.sum = b.sum) && (decide (a.size = b.size) && (decide (a.off = b.off)))))) := by
    cases a; cases b; simp
  rw [e]
  refine eqA_of Tryd.underlying78 (by kernel_rfl) ?_
  refine eqf_cons (by rfl) (part_ptR_id a w) (part_ptR_id b w) (by go_simp; rfl) ?_
  refine eqf_cons (by rfl) (part_ptR_path a w) (part_ptR_path b w) (by rw [← str_eq]; go_simp) ?_
  refine eqf_cons (by rfl) (part_ptR_sum a w) (part_ptR_sum b w) (eqA_hs (d + 1) a.sum b.sum w) ?_
  refine eqf_cons (by rfl) (part_ptR_size a w) (part_ptR_size b w) (by go_simp; rfl) ?_
  exact eqf_last (by rfl) (part_ptR_off a w) (part_ptR_off b w) (by go_simp; rfl)
/-- A struct by value. -/
structure Rc where
  kind : Int
  id : Int
  path : ByteArray
  sum : Hs
  size : Int
  off : Int
deriving DecidableEq
def Rc.zero : Rc := ⟨0, 0, ByteArray.empty, Hs.zero, 0, 0⟩
instance : Inhabited Rc := ⟨Rc.zero⟩
def rcL (x : Rc) : List Value := [.int .u8 x.kind, .int .i64 x.id, .string x.path] ++ (hsL x.sum ++ ([.int .i64 x.size, .int .i64 x.off]))
theorem rcL_len (x : Rc) : (rcL x).length = 37 := by simp [rcL, hsL_len]
theorem rcL_one (x : Rc) : ∀ v ∈ rcL x, v.oneCell' = true := by
  intro v hv
  simp only [rcL, List.mem_append, List.mem_cons, List.not_mem_nil, or_false] at hv
  rcases hv with (rfl | rfl | rfl) | (hv | (rfl | rfl)) <;> first | rfl | exact hsL_one _ v hv
theorem okL_rc (x : Rc) : okL (rcL x) 37 = true := by unfold okL; simp only [rcL_len, beq_self_eq_true, Bool.true_and, List.all_eq_true]; exact rcL_one x
theorem size_rc (x : Rc) : (rcL x).toArray.size = 37 := by simp [rcL_len]
theorem get_rc_kind (x : Rc) : (rcL x)[0]? = some (.int .u8 x.kind) := by
  simp [rcL]
theorem get_rc_id (x : Rc) : (rcL x)[1]? = some (.int .i64 x.id) := by
  simp [rcL]
theorem get_rc_path (x : Rc) : (rcL x)[2]? = some (.string x.path) := by
  simp [rcL]
theorem cut_rc_sum (x : Rc) : cutL (rcL x).toArray 3 32 = some (hsL x.sum) := by
  obtain ⟨a0, a1, a2, a3, a4, a5, a6, a7, a8, a9, a10, a11, a12, a13, a14, a15, a16, a17, a18, a19, a20, a21, a22, a23, a24, a25, a26, a27, a28, a29, a30, a31, e0⟩ := hs_lit x.sum
  simp [cutL, rcL, e0]
theorem get_rc_size (x : Rc) : (rcL x)[35]? = some (.int .i64 x.size) := by
  obtain ⟨a0, a1, a2, a3, a4, a5, a6, a7, a8, a9, a10, a11, a12, a13, a14, a15, a16, a17, a18, a19, a20, a21, a22, a23, a24, a25, a26, a27, a28, a29, a30, a31, e0⟩ := hs_lit x.sum
  simp [rcL, e0]
theorem get_rc_off (x : Rc) : (rcL x)[36]? = some (.int .i64 x.off) := by
  obtain ⟨a0, a1, a2, a3, a4, a5, a6, a7, a8, a9, a10, a11, a12, a13, a14, a15, a16, a17, a18, a19, a20, a21, a22, a23, a24, a25, a26, a27, a28, a29, a30, a31, e0⟩ := hs_lit x.sum
  simp [rcL, e0]
theorem cut_rc (x : Rc) : cutL (rcL x).toArray 0 37 = some (rcL x) := by simp [cutL, rcL_len, List.take_of_length_le (Nat.le_of_eq (rcL_len x))]
theorem eta_rc (x : Rc) : Rc.mk x.kind x.id x.path x.sum x.size x.off = x := rfl
theorem lenb_rc (x : Rc) : ((rcL x).length == 37) = true := by simp [rcL_len]
theorem lvO_rc (a : Addr) : loadVar 51 a = lvRow 51 a := rfl
theorem ldV_rc (a : Addr) (w : World) : (lvRow 51 a).run Tryd.prog w = rowRun Tryd.prog 51 a w (rowAt w a 37) := loadVar_row Tryd.underlying51 rfl (by kernel_rfl) a w
theorem ldO_rc (v : Value) : Instr.loadAt 51 v = ldRow 51 v := rfl
theorem stO_rc (p v : Value) : Instr.storeAt 51 p v = stRow 51 p v := rfl
theorem ldA_rc (a : Addr) (w : World) : (ldRow 51 (.pointer (some a))).run Tryd.prog w = rowRun Tryd.prog 51 a w (rowAt w a 37) := loadAt_row Tryd.underlying51 rfl (by kernel_rfl) a w
theorem stA_rc (g : Nat) (l : List Value) (w : World) (h1 : isRow w g 37 = true) (h2 : okL l 37 = true) : (stRow 51 (.pointer (some ⟨g, 0, none⟩)) (.agg l.toArray)).run Tryd.prog w = .ok () (w.setRow g l.toArray) := storeAt_row (by kernel_rfl) g l w h1 h2
theorem lv_rc {a : Addr} {w : World} {l : List Value} (h : rowAt w a 37 = some l) : (loadVar 51 a).run Tryd.prog w = .ok (.agg l.toArray) w := by rw [loadVar_row Tryd.underlying51 rfl (by kernel_rfl) a w, h, rowRun_some]
theorem zero_rc (w : World) : (zeroValue 51).run Tryd.prog w = .ok (.agg (rcL Rc.zero).toArray) w := by kernel_rfl
theorem part_rc_kind (x : Rc) (w : World) : (part 49 (rcL x).toArray 0).run Tryd.prog w = .ok (.int .u8 x.kind) w := by
  obtain ⟨a0, a1, a2, a3, a4, a5, a6, a7, a8, a9, a10, a11, a12, a13, a14, a15, a16, a17, a18, a19, a20, a21, a22, a23, a24, a25, a26, a27, a28, a29, a30, a31, e0⟩ := hs_lit x.sum
  simp only [rcL, e0]
  kernel_rfl
theorem part_rc_id (x : Rc) (w : World) : (part 3 (rcL x).toArray 1).run Tryd.prog w = .ok (.int .i64 x.id) w := by
  obtain ⟨a0, a1, a2, a3, a4, a5, a6, a7, a8, a9, a10, a11, a12, a13, a14, a15, a16, a17, a18, a19, a20, a21, a22, a23, a24, a25, a26, a27, a28, a29, a30, a31, e0⟩ := hs_lit x.sum
  simp only [rcL, e0]
  kernel_rfl
theorem part_rc_path (x : Rc) (w : World) : (part 9 (rcL x).toArray 2).run Tryd.prog w = .ok (.string x.path) w := by
  obtain ⟨a0, a1, a2, a3, a4, a5, a6, a7, a8, a9, a10, a11, a12, a13, a14, a15, a16, a17, a18, a19, a20, a21, a22, a23, a24, a25, a26, a27, a28, a29, a30, a31, e0⟩ := hs_lit x.sum
  simp only [rcL, e0]
  kernel_rfl
theorem part_rc_sum (x : Rc) (w : World) : (part 24 (rcL x).toArray 3).run Tryd.prog w = .ok (.agg (hsL x.sum).toArray) w := by
  obtain ⟨a0, a1, a2, a3, a4, a5, a6, a7, a8, a9, a10, a11, a12, a13, a14, a15, a16, a17, a18, a19, a20, a21, a22, a23, a24, a25, a26, a27, a28, a29, a30, a31, e0⟩ := hs_lit x.sum
  simp only [rcL, e0]
  kernel_rfl
theorem part_rc_size (x : Rc) (w : World) : (part 3 (rcL x).toArray 35).run Tryd.prog w = .ok (.int .i64 x.size) w := by
  obtain ⟨a0, a1, a2, a3, a4, a5, a6, a7, a8, a9, a10, a11, a12, a13, a14, a15, a16, a17, a18, a19, a20, a21, a22, a23, a24, a25, a26, a27, a28, a29, a30, a31, e0⟩ := hs_lit x.sum
  simp only [rcL, e0]
  kernel_rfl
theorem part_rc_off (x : Rc) (w : World) : (part 3 (rcL x).toArray 36).run Tryd.prog w = .ok (.int .i64 x.off) w := by
  obtain ⟨a0, a1, a2, a3, a4, a5, a6, a7, a8, a9, a10, a11, a12, a13, a14, a15, a16, a17, a18, a19, a20, a21, a22, a23, a24, a25, a26, a27, a28, a29, a30, a31, e0⟩ := hs_lit x.sum
  simp only [rcL, e0]
  kernel_rfl
theorem eqA_rc (d : Nat) (a b : Rc) (w : World) : (Op.equalIn (d + 4) 51 (.agg (rcL a).toArray) (.agg (rcL b).toArray)).run Tryd.prog w = .ok (decide (a = b)) w := by
  have e : decide (a = b) = (decide (a.kind = b.kind) && (decide (a.id = b.id) && (decide (a.path = b.path) && (decide (a.sum = b.sum) && (decide (a.size = b.size) && (decide (a.off = b.off))))))) := by
    cases a; cases b; simp
  rw [e]
  refine eqA_of Tryd.underlying51 (by kernel_rfl) ?_
  refine eqf_cons (by rfl) (part_rc_kind a w) (part_rc_kind b w) (by go_simp; rfl) ?_
  refine eqf_cons (by rfl) (part_rc_id a w) (part_rc_id b w) (by go_simp; rfl) ?_
  refine eqf_cons (by rfl) (part_rc_path a w) (part_rc_path b w) (by rw [← str_eq]; go_simp) ?_
  refine eqf_cons (by rfl) (part_rc_sum a w) (part_rc_sum b w) (eqA_hs (d + 1) a.sum b.sum w) ?_
  refine eqf_cons (by rfl) (part_rc_size a w) (part_rc_size b w) (by go_simp; rfl) ?_
  exact eqf_last (by rfl) (part_rc_off a w) (part_rc_off b w) (by go_simp; rfl)
theorem lvO_rcR (a : Addr) : loadVar 47 a = lvRow 47 a := rfl
theorem ldV_rcR (a : Addr) (w : World) : (lvRow 47 a).run Tryd.prog w = rowRun Tryd.prog 47 a w (rowAt w a 37) := loadVar_row Tryd.underlying47 rfl (by kernel_rfl) a w
theorem ldO_rcR (v : Value) : Instr.loadAt 47 v = ldRow 47 v := rfl
theorem stO_rcR (p v : Value) : Instr.storeAt 47 p v = stRow 47 p v := rfl
theorem ldA_rcR (a : Addr) (w : World) : (ldRow 47 (.pointer (some a))).run Tryd.prog w = rowRun Tryd.prog 47 a w (rowAt w a 37) := loadAt_row Tryd.underlying47 rfl (by kernel_rfl) a w
theorem stA_rcR (g : Nat) (l : List Value) (w : World) (h1 : isRow w g 37 = true) (h2 : okL l 37 = true) : (stRow 47 (.pointer (some ⟨g, 0, none⟩)) (.agg l.toArray)).run Tryd.prog w = .ok () (w.setRow g l.toArray) := storeAt_row (by kernel_rfl) g l w h1 h2
theorem lv_rcR {a : Addr} {w : World} {l : List Value} (h : rowAt w a 37 = some l) : (loadVar 47 a).run Tryd.prog w = .ok (.agg l.toArray) w := by rw [loadVar_row Tryd.underlying47 rfl (by kernel_rfl) a w, h, rowRun_some]
theorem zero_rcR (w : World) : (zeroValue 47).run Tryd.prog w = .ok (.agg (rcL Rc.zero).toArray) w := by kernel_rfl
theorem part_rcR_kind (x : Rc) (w : World) : (part 5 (rcL x).toArray 0).run Tryd.prog w = .ok (.int .u8 x.kind) w := by
  obtain ⟨a0, a1, a2, a3, a4, a5, a6, a7, a8, a9, a10, a11, a12, a13, a14, a15, a16, a17, a18, a19, a20, a21, a22, a23, a24, a25, a26, a27, a28, a29, a30, a31, e0⟩ := hs_lit x.sum
  simp only [rcL, e0]
  kernel_rfl
theorem part_rcR_id (x : Rc) (w : World) : (part 3 (rcL x).toArray 1).run Tryd.prog w = .ok (.int .i64 x.id) w := by
  obtain ⟨a0, a1, a2, a3, a4, a5, a6, a7, a8, a9, a10, a11, a12, a13, a14, a15, a16, a17, a18, a19, a20, a21, a22, a23, a24, a25, a26, a27, a28, a29, a30, a31, e0⟩ := hs_lit x.sum
  simp only [rcL, e0]
  kernel_rfl
theorem part_rcR_path (x : Rc) (w : World) : (part 9 (rcL x).toArray 2).run Tryd.prog w = .ok (.string x.path) w := by
  obtain ⟨a0, a1, a2, a3, a4, a5, a6, a7, a8, a9, a10, a11, a12, a13, a14, a15, a16, a17, a18, a19, a20, a21, a22, a23, a24, a25, a26, a27, a28, a29, a30, a31, e0⟩ := hs_lit x.sum
  simp only [rcL, e0]
  kernel_rfl
theorem part_rcR_sum (x : Rc) (w : World) : (part 24 (rcL x).toArray 3).run Tryd.prog w = .ok (.agg (hsL x.sum).toArray) w := by
  obtain ⟨a0, a1, a2, a3, a4, a5, a6, a7, a8, a9, a10, a11, a12, a13, a14, a15, a16, a17, a18, a19, a20, a21, a22, a23, a24, a25, a26, a27, a28, a29, a30, a31, e0⟩ := hs_lit x.sum
  simp only [rcL, e0]
  kernel_rfl
theorem part_rcR_size (x : Rc) (w : World) : (part 3 (rcL x).toArray 35).run Tryd.prog w = .ok (.int .i64 x.size) w := by
  obtain ⟨a0, a1, a2, a3, a4, a5, a6, a7, a8, a9, a10, a11, a12, a13, a14, a15, a16, a17, a18, a19, a20, a21, a22, a23, a24, a25, a26, a27, a28, a29, a30, a31, e0⟩ := hs_lit x.sum
  simp only [rcL, e0]
  kernel_rfl
theorem part_rcR_off (x : Rc) (w : World) : (part 3 (rcL x).toArray 36).run Tryd.prog w = .ok (.int .i64 x.off) w := by
  obtain ⟨a0, a1, a2, a3, a4, a5, a6, a7, a8, a9, a10, a11, a12, a13, a14, a15, a16, a17, a18, a19, a20, a21, a22, a23, a24, a25, a26, a27, a28, a29, a30, a31, e0⟩ := hs_lit x.sum
  simp only [rcL, e0]
  kernel_rfl
theorem eqA_rcR (d : Nat) (a b : Rc) (w : World) : (Op.equalIn (d + 4) 47 (.agg (rcL a).toArray) (.agg (rcL b).toArray)).run Tryd.prog w = .ok (decide (a = b)) w := by
  have e : decide (a = b) = (decide (a.kind = b.kind) && (decide (a.id = b.id) && (decide (a.path = b.path) && (decide (a.sum = b.sum) && (decide (a.size = b.size) && (decide (a.off = b.off))))))) := by
    cases a; cases b; simp
  rw [e]
  refine eqA_of Tryd.underlying47 (by kernel_rfl) ?_
  refine eqf_cons (by rfl) (part_rcR_kind a w) (part_rcR_kind b w) (by go_simp; rfl) ?_
  refine eqf_cons (by rfl) (part_rcR_id a w) (part_rcR_id b w) (by go_simp; rfl) ?_
  refine eqf_cons (by rfl) (part_rcR_path a w) (part_rcR_path b w) (by rw [← str_eq]; go_simp) ?_
  refine eqf_cons (by rfl) (part_rcR_sum a w) (part_rcR_sum b w) (eqA_hs (d + 1) a.sum b.sum w) ?_
  refine eqf_cons (by rfl) (part_rcR_size a w) (part_rcR_size b w) (by go_simp; rfl) ?_
  exact eqf_last (by rfl) (part_rcR_off a w) (part_rcR_off b w) (by go_simp; rfl)
/-- A struct by value. -/
structure Tk where
  path : ByteArray
  sum : Hs
  size : Int
  off : Int
  old : Hs
deriving DecidableEq
def Tk.zero : Tk := ⟨ByteArray.empty, Hs.zero, 0, 0, Hs.zero⟩
instance : Inhabited Tk := ⟨Tk.zero⟩
def tkL (x : Tk) : List Value := [.string x.path] ++ (hsL x.sum ++ ([.int .i64 x.size, .int .i64 x.off] ++ (hsL x.old)))
theorem tkL_len (x : Tk) : (tkL x).length = 67 := by simp [tkL, hsL_len]
theorem tkL_one (x : Tk) : ∀ v ∈ tkL x, v.oneCell' = true := by
  intro v hv
  simp only [tkL, List.mem_append, List.mem_cons, List.not_mem_nil, or_false] at hv
  rcases hv with rfl | (hv | ((rfl | rfl) | (hv))) <;> first | rfl | exact hsL_one _ v hv
theorem okL_tk (x : Tk) : okL (tkL x) 67 = true := by unfold okL; simp only [tkL_len, beq_self_eq_true, Bool.true_and, List.all_eq_true]; exact tkL_one x
theorem size_tk (x : Tk) : (tkL x).toArray.size = 67 := by simp [tkL_len]
theorem get_tk_path (x : Tk) : (tkL x)[0]? = some (.string x.path) := by
  simp [tkL]
theorem cut_tk_sum (x : Tk) : cutL (tkL x).toArray 1 32 = some (hsL x.sum) := by
  obtain ⟨a0, a1, a2, a3, a4, a5, a6, a7, a8, a9, a10, a11, a12, a13, a14, a15, a16, a17, a18, a19, a20, a21, a22, a23, a24, a25, a26, a27, a28, a29, a30, a31, e0⟩ := hs_lit x.sum; obtain ⟨b0, b1, b2, b3, b4, b5, b6, b7, b8, b9, b10, b11, b12, b13, b14, b15, b16, b17, b18, b19, b20, b21, b22, b23, b24, b25, b26, b27, b28, b29, b30, b31, e1⟩ := hs_lit x.old
  simp [cutL, tkL, e0, e1]
theorem get_tk_size (x : Tk) : (tkL x)[33]? = some (.int .i64 x.size) := by
  obtain ⟨a0, a1, a2, a3, a4, a5, a6, a7, a8, a9, a10, a11, a12, a13, a14, a15, a16, a17, a18, a19, a20, a21, a22, a23, a24, a25, a26, a27, a28, a29, a30, a31, e0⟩ := hs_lit x.sum; obtain ⟨b0, b1, b2, b3, b4, b5, b6, b7, b8, b9, b10, b11, b12, b13, b14, b15, b16, b17, b18, b19, b20, b21, b22, b23, b24, b25, b26, b27, b28, b29, b30, b31, e1⟩ := hs_lit x.old
  simp [tkL, e0, e1]
theorem get_tk_off (x : Tk) : (tkL x)[34]? = some (.int .i64 x.off) := by
  obtain ⟨a0, a1, a2, a3, a4, a5, a6, a7, a8, a9, a10, a11, a12, a13, a14, a15, a16, a17, a18, a19, a20, a21, a22, a23, a24, a25, a26, a27, a28, a29, a30, a31, e0⟩ := hs_lit x.sum; obtain ⟨b0, b1, b2, b3, b4, b5, b6, b7, b8, b9, b10, b11, b12, b13, b14, b15, b16, b17, b18, b19, b20, b21, b22, b23, b24, b25, b26, b27, b28, b29, b30, b31, e1⟩ := hs_lit x.old
  simp [tkL, e0, e1]
theorem cut_tk_old (x : Tk) : cutL (tkL x).toArray 35 32 = some (hsL x.old) := by
  obtain ⟨a0, a1, a2, a3, a4, a5, a6, a7, a8, a9, a10, a11, a12, a13, a14, a15, a16, a17, a18, a19, a20, a21, a22, a23, a24, a25, a26, a27, a28, a29, a30, a31, e0⟩ := hs_lit x.sum; obtain ⟨b0, b1, b2, b3, b4, b5, b6, b7, b8, b9, b10, b11, b12, b13, b14, b15, b16, b17, b18, b19, b20, b21, b22, b23, b24, b25, b26, b27, b28, b29, b30, b31, e1⟩ := hs_lit x.old
  simp [cutL, tkL, e0, e1]
theorem cut_tk (x : Tk) : cutL (tkL x).toArray 0 67 = some (tkL x) := by simp [cutL, tkL_len, List.take_of_length_le (Nat.le_of_eq (tkL_len x))]
theorem eta_tk (x : Tk) : Tk.mk x.path x.sum x.size x.off x.old = x := rfl
theorem lenb_tk (x : Tk) : ((tkL x).length == 67) = true := by simp [tkL_len]
theorem lvO_tk (a : Addr) : loadVar 33 a = lvRow 33 a := rfl
theorem ldV_tk (a : Addr) (w : World) : (lvRow 33 a).run Tryd.prog w = rowRun Tryd.prog 33 a w (rowAt w a 67) := loadVar_row Tryd.underlying33 rfl (by kernel_rfl) a w
theorem ldO_tk (v : Value) : Instr.loadAt 33 v = ldRow 33 v := rfl
theorem stO_tk (p v : Value) : Instr.storeAt 33 p v = stRow 33 p v := rfl
theorem ldA_tk (a : Addr) (w : World) : (ldRow 33 (.pointer (some a))).run Tryd.prog w = rowRun Tryd.prog 33 a w (rowAt w a 67) := loadAt_row Tryd.underlying33 rfl (by kernel_rfl) a w
theorem stA_tk (g : Nat) (l : List Value) (w : World) (h1 : isRow w g 67 = true) (h2 : okL l 67 = true) : (stRow 33 (.pointer (some ⟨g, 0, none⟩)) (.agg l.toArray)).run Tryd.prog w = .ok () (w.setRow g l.toArray) := storeAt_row (by kernel_rfl) g l w h1 h2
theorem zero_tk (w : World) : (zeroValue 33).run Tryd.prog w = .ok (.agg (tkL Tk.zero).toArray) w := by kernel_rfl
theorem part_tk_path (x : Tk) (w : World) : (part 9 (tkL x).toArray 0).run Tryd.prog w = .ok (.string x.path) w := by
  obtain ⟨a0, a1, a2, a3, a4, a5, a6, a7, a8, a9, a10, a11, a12, a13, a14, a15, a16, a17, a18, a19, a20, a21, a22, a23, a24, a25, a26, a27, a28, a29, a30, a31, e0⟩ := hs_lit x.sum; obtain ⟨b0, b1, b2, b3, b4, b5, b6, b7, b8, b9, b10, b11, b12, b13, b14, b15, b16, b17, b18, b19, b20, b21, b22, b23, b24, b25, b26, b27, b28, b29, b30, b31, e1⟩ := hs_lit x.old
  simp only [tkL, e0, e1]
  kernel_rfl
theorem part_tk_sum (x : Tk) (w : World) : (part 24 (tkL x).toArray 1).run Tryd.prog w = .ok (.agg (hsL x.sum).toArray) w := by
  obtain ⟨a0, a1, a2, a3, a4, a5, a6, a7, a8, a9, a10, a11, a12, a13, a14, a15, a16, a17, a18, a19, a20, a21, a22, a23, a24, a25, a26, a27, a28, a29, a30, a31, e0⟩ := hs_lit x.sum; obtain ⟨b0, b1, b2, b3, b4, b5, b6, b7, b8, b9, b10, b11, b12, b13, b14, b15, b16, b17, b18, b19, b20, b21, b22, b23, b24, b25, b26, b27, b28, b29, b30, b31, e1⟩ := hs_lit x.old
  simp only [tkL, e0, e1]
  kernel_rfl
theorem part_tk_size (x : Tk) (w : World) : (part 3 (tkL x).toArray 33).run Tryd.prog w = .ok (.int .i64 x.size) w := by
  obtain ⟨a0, a1, a2, a3, a4, a5, a6, a7, a8, a9, a10, a11, a12, a13, a14, a15, a16, a17, a18, a19, a20, a21, a22, a23, a24, a25, a26, a27, a28, a29, a30, a31, e0⟩ := hs_lit x.sum; obtain ⟨b0, b1, b2, b3, b4, b5, b6, b7, b8, b9, b10, b11, b12, b13, b14, b15, b16, b17, b18, b19, b20, b21, b22, b23, b24, b25, b26, b27, b28, b29, b30, b31, e1⟩ := hs_lit x.old
  simp only [tkL, e0, e1]
  kernel_rfl
theorem part_tk_off (x : Tk) (w : World) : (part 3 (tkL x).toArray 34).run Tryd.prog w = .ok (.int .i64 x.off) w := by
  obtain ⟨a0, a1, a2, a3, a4, a5, a6, a7, a8, a9, a10, a11, a12, a13, a14, a15, a16, a17, a18, a19, a20, a21, a22, a23, a24, a25, a26, a27, a28, a29, a30, a31, e0⟩ := hs_lit x.sum; obtain ⟨b0, b1, b2, b3, b4, b5, b6, b7, b8, b9, b10, b11, b12, b13, b14, b15, b16, b17, b18, b19, b20, b21, b22, b23, b24, b25, b26, b27, b28, b29, b30, b31, e1⟩ := hs_lit x.old
  simp only [tkL, e0, e1]
  kernel_rfl
theorem part_tk_old (x : Tk) (w : World) : (part 24 (tkL x).toArray 35).run Tryd.prog w = .ok (.agg (hsL x.old).toArray) w := by
  obtain ⟨a0, a1, a2, a3, a4, a5, a6, a7, a8, a9, a10, a11, a12, a13, a14, a15, a16, a17, a18, a19, a20, a21, a22, a23, a24, a25, a26, a27, a28, a29, a30, a31, e0⟩ := hs_lit x.sum; obtain ⟨b0, b1, b2, b3, b4, b5, b6, b7, b8, b9, b10, b11, b12, b13, b14, b15, b16, b17, b18, b19, b20, b21, b22, b23, b24, b25, b26, b27, b28, b29, b30, b31, e1⟩ := hs_lit x.old
  simp only [tkL, e0, e1]
  kernel_rfl
theorem eqA_tk (d : Nat) (a b : Tk) (w : World) : (Op.equalIn (d + 4) 33 (.agg (tkL a).toArray) (.agg (tkL b).toArray)).run Tryd.prog w = .ok (decide (a = b)) w := by
  have e : decide (a = b) = (decide (a.path = b.path) && (decide (a.sum = b.sum) && (decide (a.size = b.size) && (decide (a.off = b.off) && (decide (a.old = b.old)))))) := by
    cases a; cases b; simp
  rw [e]
  refine eqA_of Tryd.underlying33 (by kernel_rfl) ?_
  refine eqf_cons (by rfl) (part_tk_path a w) (part_tk_path b w) (by rw [← str_eq]; go_simp) ?_
  refine eqf_cons (by rfl) (part_tk_sum a w) (part_tk_sum b w) (eqA_hs (d + 1) a.sum b.sum w) ?_
  refine eqf_cons (by rfl) (part_tk_size a w) (part_tk_size b w) (by go_simp; rfl) ?_
  refine eqf_cons (by rfl) (part_tk_off a w) (part_tk_off b w) (by go_simp; rfl) ?_
  exact eqf_last (by rfl) (part_tk_old a w) (part_tk_old b w) (eqA_hs (d + 1) a.old b.old w)
theorem lvO_tkR (a : Addr) : loadVar 26 a = lvRow 26 a := rfl
theorem ldV_tkR (a : Addr) (w : World) : (lvRow 26 a).run Tryd.prog w = rowRun Tryd.prog 26 a w (rowAt w a 67) := loadVar_row Tryd.underlying26 rfl (by kernel_rfl) a w
theorem ldO_tkR (v : Value) : Instr.loadAt 26 v = ldRow 26 v := rfl
theorem stO_tkR (p v : Value) : Instr.storeAt 26 p v = stRow 26 p v := rfl
theorem ldA_tkR (a : Addr) (w : World) : (ldRow 26 (.pointer (some a))).run Tryd.prog w = rowRun Tryd.prog 26 a w (rowAt w a 67) := loadAt_row Tryd.underlying26 rfl (by kernel_rfl) a w
theorem stA_tkR (g : Nat) (l : List Value) (w : World) (h1 : isRow w g 67 = true) (h2 : okL l 67 = true) : (stRow 26 (.pointer (some ⟨g, 0, none⟩)) (.agg l.toArray)).run Tryd.prog w = .ok () (w.setRow g l.toArray) := storeAt_row (by kernel_rfl) g l w h1 h2
theorem zero_tkR (w : World) : (zeroValue 26).run Tryd.prog w = .ok (.agg (tkL Tk.zero).toArray) w := by kernel_rfl
theorem part_tkR_path (x : Tk) (w : World) : (part 9 (tkL x).toArray 0).run Tryd.prog w = .ok (.string x.path) w := by
  obtain ⟨a0, a1, a2, a3, a4, a5, a6, a7, a8, a9, a10, a11, a12, a13, a14, a15, a16, a17, a18, a19, a20, a21, a22, a23, a24, a25, a26, a27, a28, a29, a30, a31, e0⟩ := hs_lit x.sum; obtain ⟨b0, b1, b2, b3, b4, b5, b6, b7, b8, b9, b10, b11, b12, b13, b14, b15, b16, b17, b18, b19, b20, b21, b22, b23, b24, b25, b26, b27, b28, b29, b30, b31, e1⟩ := hs_lit x.old
  simp only [tkL, e0, e1]
  kernel_rfl
theorem part_tkR_sum (x : Tk) (w : World) : (part 24 (tkL x).toArray 1).run Tryd.prog w = .ok (.agg (hsL x.sum).toArray) w := by
  obtain ⟨a0, a1, a2, a3, a4, a5, a6, a7, a8, a9, a10, a11, a12, a13, a14, a15, a16, a17, a18, a19, a20, a21, a22, a23, a24, a25, a26, a27, a28, a29, a30, a31, e0⟩ := hs_lit x.sum; obtain ⟨b0, b1, b2, b3, b4, b5, b6, b7, b8, b9, b10, b11, b12, b13, b14, b15, b16, b17, b18, b19, b20, b21, b22, b23, b24, b25, b26, b27, b28, b29, b30, b31, e1⟩ := hs_lit x.old
  simp only [tkL, e0, e1]
  kernel_rfl
theorem part_tkR_size (x : Tk) (w : World) : (part 3 (tkL x).toArray 33).run Tryd.prog w = .ok (.int .i64 x.size) w := by
  obtain ⟨a0, a1, a2, a3, a4, a5, a6, a7, a8, a9, a10, a11, a12, a13, a14, a15, a16, a17, a18, a19, a20, a21, a22, a23, a24, a25, a26, a27, a28, a29, a30, a31, e0⟩ := hs_lit x.sum; obtain ⟨b0, b1, b2, b3, b4, b5, b6, b7, b8, b9, b10, b11, b12, b13, b14, b15, b16, b17, b18, b19, b20, b21, b22, b23, b24, b25, b26, b27, b28, b29, b30, b31, e1⟩ := hs_lit x.old
  simp only [tkL, e0, e1]
  kernel_rfl
theorem part_tkR_off (x : Tk) (w : World) : (part 3 (tkL x).toArray 34).run Tryd.prog w = .ok (.int .i64 x.off) w := by
  obtain ⟨a0, a1, a2, a3, a4, a5, a6, a7, a8, a9, a10, a11, a12, a13, a14, a15, a16, a17, a18, a19, a20, a21, a22, a23, a24, a25, a26, a27, a28, a29, a30, a31, e0⟩ := hs_lit x.sum; obtain ⟨b0, b1, b2, b3, b4, b5, b6, b7, b8, b9, b10, b11, b12, b13, b14, b15, b16, b17, b18, b19, b20, b21, b22, b23, b24, b25, b26, b27, b28, b29, b30, b31, e1⟩ := hs_lit x.old
  simp only [tkL, e0, e1]
  kernel_rfl
theorem part_tkR_old (x : Tk) (w : World) : (part 24 (tkL x).toArray 35).run Tryd.prog w = .ok (.agg (hsL x.old).toArray) w := by
  obtain ⟨a0, a1, a2, a3, a4, a5, a6, a7, a8, a9, a10, a11, a12, a13, a14, a15, a16, a17, a18, a19, a20, a21, a22, a23, a24, a25, a26, a27, a28, a29, a30, a31, e0⟩ := hs_lit x.sum; obtain ⟨b0, b1, b2, b3, b4, b5, b6, b7, b8, b9, b10, b11, b12, b13, b14, b15, b16, b17, b18, b19, b20, b21, b22, b23, b24, b25, b26, b27, b28, b29, b30, b31, e1⟩ := hs_lit x.old
  simp only [tkL, e0, e1]
  kernel_rfl
theorem eqA_tkR (d : Nat) (a b : Tk) (w : World) : (Op.equalIn (d + 4) 26 (.agg (tkL a).toArray) (.agg (tkL b).toArray)).run Tryd.prog w = .ok (decide (a = b)) w := by
  have e : decide (a = b) = (decide (a.path = b.path) && (decide (a.sum = b.sum) && (decide (a.size = b.size) && (decide (a.off = b.off) && (decide (a.old = b.old)))))) := by
    cases a; cases b; simp
  rw [e]
  refine eqA_of Tryd.underlying26 (by kernel_rfl) ?_
  refine eqf_cons (by rfl) (part_tkR_path a w) (part_tkR_path b w) (by rw [← str_eq]; go_simp) ?_
  refine eqf_cons (by rfl) (part_tkR_sum a w) (part_tkR_sum b w) (eqA_hs (d + 1) a.sum b.sum w) ?_
  refine eqf_cons (by rfl) (part_tkR_size a w) (part_tkR_size b w) (by go_simp; rfl) ?_
  refine eqf_cons (by rfl) (part_tkR_off a w) (part_tkR_off b w) (by go_simp; rfl) ?_
  exact eqf_last (by rfl) (part_tkR_old a w) (part_tkR_old b w) (eqA_hs (d + 1) a.old b.old w)
/-- A struct by value. -/
structure It where
  path : ByteArray
  dir : Bool
  size : Int
  sum : Hs
deriving DecidableEq
def It.zero : It := ⟨ByteArray.empty, false, 0, Hs.zero⟩
instance : Inhabited It := ⟨It.zero⟩
def itL (x : It) : List Value := [.string x.path, .bool x.dir, .int .i64 x.size] ++ (hsL x.sum)
theorem itL_len (x : It) : (itL x).length = 35 := by simp [itL, hsL_len]
theorem itL_one (x : It) : ∀ v ∈ itL x, v.oneCell' = true := by
  intro v hv
  simp only [itL, List.mem_append, List.mem_cons, List.not_mem_nil, or_false] at hv
  rcases hv with (rfl | rfl | rfl) | (hv) <;> first | rfl | exact hsL_one _ v hv
theorem okL_it (x : It) : okL (itL x) 35 = true := by unfold okL; simp only [itL_len, beq_self_eq_true, Bool.true_and, List.all_eq_true]; exact itL_one x
theorem size_it (x : It) : (itL x).toArray.size = 35 := by simp [itL_len]
theorem get_it_path (x : It) : (itL x)[0]? = some (.string x.path) := by
  simp [itL]
theorem get_it_dir (x : It) : (itL x)[1]? = some (.bool x.dir) := by
  simp [itL]
theorem get_it_size (x : It) : (itL x)[2]? = some (.int .i64 x.size) := by
  simp [itL]
theorem cut_it_sum (x : It) : cutL (itL x).toArray 3 32 = some (hsL x.sum) := by
  obtain ⟨a0, a1, a2, a3, a4, a5, a6, a7, a8, a9, a10, a11, a12, a13, a14, a15, a16, a17, a18, a19, a20, a21, a22, a23, a24, a25, a26, a27, a28, a29, a30, a31, e0⟩ := hs_lit x.sum
  simp [cutL, itL, e0]
theorem cut_it (x : It) : cutL (itL x).toArray 0 35 = some (itL x) := by simp [cutL, itL_len, List.take_of_length_le (Nat.le_of_eq (itL_len x))]
theorem eta_it (x : It) : It.mk x.path x.dir x.size x.sum = x := rfl
theorem lenb_it (x : It) : ((itL x).length == 35) = true := by simp [itL_len]
theorem lvO_it (a : Addr) : loadVar 28 a = lvRow 28 a := rfl
theorem ldV_it (a : Addr) (w : World) : (lvRow 28 a).run Tryd.prog w = rowRun Tryd.prog 28 a w (rowAt w a 35) := loadVar_row Tryd.underlying28 rfl (by kernel_rfl) a w
theorem ldO_it (v : Value) : Instr.loadAt 28 v = ldRow 28 v := rfl
theorem stO_it (p v : Value) : Instr.storeAt 28 p v = stRow 28 p v := rfl
theorem ldA_it (a : Addr) (w : World) : (ldRow 28 (.pointer (some a))).run Tryd.prog w = rowRun Tryd.prog 28 a w (rowAt w a 35) := loadAt_row Tryd.underlying28 rfl (by kernel_rfl) a w
theorem stA_it (g : Nat) (l : List Value) (w : World) (h1 : isRow w g 35 = true) (h2 : okL l 35 = true) : (stRow 28 (.pointer (some ⟨g, 0, none⟩)) (.agg l.toArray)).run Tryd.prog w = .ok () (w.setRow g l.toArray) := storeAt_row (by kernel_rfl) g l w h1 h2
theorem zero_it (w : World) : (zeroValue 28).run Tryd.prog w = .ok (.agg (itL It.zero).toArray) w := by kernel_rfl
theorem part_it_path (x : It) (w : World) : (part 9 (itL x).toArray 0).run Tryd.prog w = .ok (.string x.path) w := by
  obtain ⟨a0, a1, a2, a3, a4, a5, a6, a7, a8, a9, a10, a11, a12, a13, a14, a15, a16, a17, a18, a19, a20, a21, a22, a23, a24, a25, a26, a27, a28, a29, a30, a31, e0⟩ := hs_lit x.sum
  simp only [itL, e0]
  kernel_rfl
theorem part_it_dir (x : It) (w : World) : (part 4 (itL x).toArray 1).run Tryd.prog w = .ok (.bool x.dir) w := by
  obtain ⟨a0, a1, a2, a3, a4, a5, a6, a7, a8, a9, a10, a11, a12, a13, a14, a15, a16, a17, a18, a19, a20, a21, a22, a23, a24, a25, a26, a27, a28, a29, a30, a31, e0⟩ := hs_lit x.sum
  simp only [itL, e0]
  kernel_rfl
theorem part_it_size (x : It) (w : World) : (part 3 (itL x).toArray 2).run Tryd.prog w = .ok (.int .i64 x.size) w := by
  obtain ⟨a0, a1, a2, a3, a4, a5, a6, a7, a8, a9, a10, a11, a12, a13, a14, a15, a16, a17, a18, a19, a20, a21, a22, a23, a24, a25, a26, a27, a28, a29, a30, a31, e0⟩ := hs_lit x.sum
  simp only [itL, e0]
  kernel_rfl
theorem part_it_sum (x : It) (w : World) : (part 24 (itL x).toArray 3).run Tryd.prog w = .ok (.agg (hsL x.sum).toArray) w := by
  obtain ⟨a0, a1, a2, a3, a4, a5, a6, a7, a8, a9, a10, a11, a12, a13, a14, a15, a16, a17, a18, a19, a20, a21, a22, a23, a24, a25, a26, a27, a28, a29, a30, a31, e0⟩ := hs_lit x.sum
  simp only [itL, e0]
  kernel_rfl
theorem eqA_it (d : Nat) (a b : It) (w : World) : (Op.equalIn (d + 4) 28 (.agg (itL a).toArray) (.agg (itL b).toArray)).run Tryd.prog w = .ok (decide (a = b)) w := by
  have e : decide (a = b) = (decide (a.path = b.path) && (decide (a.dir = b.dir) && (decide (a.size = b.size) && (decide (a.sum = b.sum))))) := by
    cases a; cases b; simp
  rw [e]
  refine eqA_of Tryd.underlying28 (by kernel_rfl) ?_
  refine eqf_cons (by rfl) (part_it_path a w) (part_it_path b w) (by rw [← str_eq]; go_simp) ?_
  refine eqf_cons (by rfl) (part_it_dir a w) (part_it_dir b w) (by go_simp; exact beq_bool _ _) ?_
  refine eqf_cons (by rfl) (part_it_size a w) (part_it_size b w) (by go_simp; rfl) ?_
  exact eqf_last (by rfl) (part_it_sum a w) (part_it_sum b w) (eqA_hs (d + 1) a.sum b.sum w)
theorem bld_pt_01234 (x0 : Int) (x1 : ByteArray) (x2 : Hs) (x3 : Int) (x4 : Int) (w : World) : (bldRow 75 #[(0, .int .i64 x0), (1, .string x1), (2, .agg (hsL x2).toArray), (3, .int .i64 x3), (4, .int .i64 x4)]).run Tryd.prog w = .ok (.agg (ptL ⟨x0, x1, x2, x3, x4⟩).toArray) w := by
  obtain ⟨a0, a1, a2, a3, a4, a5, a6, a7, a8, a9, a10, a11, a12, a13, a14, a15, a16, a17, a18, a19, a20, a21, a22, a23, a24, a25, a26, a27, a28, a29, a30, a31, e0⟩ := hs_lit x2
  simp only [ptL, e0]
  kernel_rfl
theorem bld_pt_0123 (x0 : Int) (x1 : ByteArray) (x2 : Hs) (x3 : Int) (w : World) : (bldRow 75 #[(0, .int .i64 x0), (1, .string x1), (2, .agg (hsL x2).toArray), (3, .int .i64 x3)]).run Tryd.prog w = .ok (.agg (ptL ⟨x0, x1, x2, x3, 0⟩).toArray) w := by
  obtain ⟨a0, a1, a2, a3, a4, a5, a6, a7, a8, a9, a10, a11, a12, a13, a14, a15, a16, a17, a18, a19, a20, a21, a22, a23, a24, a25, a26, a27, a28, a29, a30, a31, e0⟩ := hs_lit x2
  simp only [ptL, e0]
  kernel_rfl
theorem bld_pt_z  (w : World) : (bldRow 75 #[]).run Tryd.prog w = .ok (.agg (ptL ⟨0, ByteArray.empty, Hs.zero, 0, 0⟩).toArray) w := by
  simp only [ptL]
  kernel_rfl
theorem blO_pt (ps : Array (Nat × Value)) : Instr.build 75 ps = bldRow 75 ps := rfl
theorem bld_ptR_01234 (x0 : Int) (x1 : ByteArray) (x2 : Hs) (x3 : Int) (x4 : Int) (w : World) : (bldRow 78 #[(0, .int .i64 x0), (1, .string x1), (2, .agg (hsL x2).toArray), (3, .int .i64 x3), (4, .int .i64 x4)]).run Tryd.prog w = .ok (.agg (ptL ⟨x0, x1, x2, x3, x4⟩).toArray) w := by
  obtain ⟨a0, a1, a2, a3, a4, a5, a6, a7, a8, a9, a10, a11, a12, a13, a14, a15, a16, a17, a18, a19, a20, a21, a22, a23, a24, a25, a26, a27, a28, a29, a30, a31, e0⟩ := hs_lit x2
  simp only [ptL, e0]
  kernel_rfl
theorem bld_ptR_0123 (x0 : Int) (x1 : ByteArray) (x2 : Hs) (x3 : Int) (w : World) : (bldRow 78 #[(0, .int .i64 x0), (1, .string x1), (2, .agg (hsL x2).toArray), (3, .int .i64 x3)]).run Tryd.prog w = .ok (.agg (ptL ⟨x0, x1, x2, x3, 0⟩).toArray) w := by
  obtain ⟨a0, a1, a2, a3, a4, a5, a6, a7, a8, a9, a10, a11, a12, a13, a14, a15, a16, a17, a18, a19, a20, a21, a22, a23, a24, a25, a26, a27, a28, a29, a30, a31, e0⟩ := hs_lit x2
  simp only [ptL, e0]
  kernel_rfl
theorem bld_ptR_z  (w : World) : (bldRow 78 #[]).run Tryd.prog w = .ok (.agg (ptL ⟨0, ByteArray.empty, Hs.zero, 0, 0⟩).toArray) w := by
  simp only [ptL]
  kernel_rfl
theorem blO_ptR (ps : Array (Nat × Value)) : Instr.build 78 ps = bldRow 78 ps := rfl
theorem bld_rc_012345 (x0 : Int) (x1 : Int) (x2 : ByteArray) (x3 : Hs) (x4 : Int) (x5 : Int) (w : World) : (bldRow 51 #[(0, .int .u8 x0), (1, .int .i64 x1), (2, .string x2), (3, .agg (hsL x3).toArray), (4, .int .i64 x4), (5, .int .i64 x5)]).run Tryd.prog w = .ok (.agg (rcL ⟨x0, x1, x2, x3, x4, x5⟩).toArray) w := by
  obtain ⟨a0, a1, a2, a3, a4, a5, a6, a7, a8, a9, a10, a11, a12, a13, a14, a15, a16, a17, a18, a19, a20, a21, a22, a23, a24, a25, a26, a27, a28, a29, a30, a31, e0⟩ := hs_lit x3
  simp only [rcL, e0]
  kernel_rfl
theorem bld_rc_015 (x0 : Int) (x1 : Int) (x5 : Int) (w : World) : (bldRow 51 #[(0, .int .u8 x0), (1, .int .i64 x1), (5, .int .i64 x5)]).run Tryd.prog w = .ok (.agg (rcL ⟨x0, x1, ByteArray.empty, Hs.zero, 0, x5⟩).toArray) w := by
  simp only [rcL]
  kernel_rfl
theorem bld_rc_01 (x0 : Int) (x1 : Int) (w : World) : (bldRow 51 #[(0, .int .u8 x0), (1, .int .i64 x1)]).run Tryd.prog w = .ok (.agg (rcL ⟨x0, x1, ByteArray.empty, Hs.zero, 0, 0⟩).toArray) w := by
  simp only [rcL]
  kernel_rfl
theorem bld_rc_z  (w : World) : (bldRow 51 #[]).run Tryd.prog w = .ok (.agg (rcL ⟨0, 0, ByteArray.empty, Hs.zero, 0, 0⟩).toArray) w := by
  simp only [rcL]
  kernel_rfl
theorem bld_rc_01234 (x0 : Int) (x1 : Int) (x2 : ByteArray) (x3 : Hs) (x4 : Int) (w : World) : (bldRow 51 #[(0, .int .u8 x0), (1, .int .i64 x1), (2, .string x2), (3, .agg (hsL x3).toArray), (4, .int .i64 x4)]).run Tryd.prog w = .ok (.agg (rcL ⟨x0, x1, x2, x3, x4, 0⟩).toArray) w := by
  obtain ⟨a0, a1, a2, a3, a4, a5, a6, a7, a8, a9, a10, a11, a12, a13, a14, a15, a16, a17, a18, a19, a20, a21, a22, a23, a24, a25, a26, a27, a28, a29, a30, a31, e0⟩ := hs_lit x3
  simp only [rcL, e0]
  kernel_rfl
theorem bld_rc_24 (x2 : ByteArray) (x4 : Int) (w : World) : (bldRow 51 #[(2, .string x2), (4, .int .i64 x4)]).run Tryd.prog w = .ok (.agg (rcL ⟨0, 0, x2, Hs.zero, x4, 0⟩).toArray) w := by
  simp only [rcL]
  kernel_rfl
theorem bld_rc_05 (x0 : Int) (x5 : Int) (w : World) : (bldRow 51 #[(0, .int .u8 x0), (5, .int .i64 x5)]).run Tryd.prog w = .ok (.agg (rcL ⟨x0, 0, ByteArray.empty, Hs.zero, 0, x5⟩).toArray) w := by
  simp only [rcL]
  kernel_rfl
theorem bld_rc_0 (x0 : Int) (w : World) : (bldRow 51 #[(0, .int .u8 x0)]).run Tryd.prog w = .ok (.agg (rcL ⟨x0, 0, ByteArray.empty, Hs.zero, 0, 0⟩).toArray) w := by
  simp only [rcL]
  kernel_rfl
theorem blO_rc (ps : Array (Nat × Value)) : Instr.build 51 ps = bldRow 51 ps := rfl
theorem bld_rcR_012345 (x0 : Int) (x1 : Int) (x2 : ByteArray) (x3 : Hs) (x4 : Int) (x5 : Int) (w : World) : (bldRow 47 #[(0, .int .u8 x0), (1, .int .i64 x1), (2, .string x2), (3, .agg (hsL x3).toArray), (4, .int .i64 x4), (5, .int .i64 x5)]).run Tryd.prog w = .ok (.agg (rcL ⟨x0, x1, x2, x3, x4, x5⟩).toArray) w := by
  obtain ⟨a0, a1, a2, a3, a4, a5, a6, a7, a8, a9, a10, a11, a12, a13, a14, a15, a16, a17, a18, a19, a20, a21, a22, a23, a24, a25, a26, a27, a28, a29, a30, a31, e0⟩ := hs_lit x3
  simp only [rcL, e0]
  kernel_rfl
theorem bld_rcR_015 (x0 : Int) (x1 : Int) (x5 : Int) (w : World) : (bldRow 47 #[(0, .int .u8 x0), (1, .int .i64 x1), (5, .int .i64 x5)]).run Tryd.prog w = .ok (.agg (rcL ⟨x0, x1, ByteArray.empty, Hs.zero, 0, x5⟩).toArray) w := by
  simp only [rcL]
  kernel_rfl
theorem bld_rcR_01 (x0 : Int) (x1 : Int) (w : World) : (bldRow 47 #[(0, .int .u8 x0), (1, .int .i64 x1)]).run Tryd.prog w = .ok (.agg (rcL ⟨x0, x1, ByteArray.empty, Hs.zero, 0, 0⟩).toArray) w := by
  simp only [rcL]
  kernel_rfl
theorem bld_rcR_z  (w : World) : (bldRow 47 #[]).run Tryd.prog w = .ok (.agg (rcL ⟨0, 0, ByteArray.empty, Hs.zero, 0, 0⟩).toArray) w := by
  simp only [rcL]
  kernel_rfl
theorem bld_rcR_01234 (x0 : Int) (x1 : Int) (x2 : ByteArray) (x3 : Hs) (x4 : Int) (w : World) : (bldRow 47 #[(0, .int .u8 x0), (1, .int .i64 x1), (2, .string x2), (3, .agg (hsL x3).toArray), (4, .int .i64 x4)]).run Tryd.prog w = .ok (.agg (rcL ⟨x0, x1, x2, x3, x4, 0⟩).toArray) w := by
  obtain ⟨a0, a1, a2, a3, a4, a5, a6, a7, a8, a9, a10, a11, a12, a13, a14, a15, a16, a17, a18, a19, a20, a21, a22, a23, a24, a25, a26, a27, a28, a29, a30, a31, e0⟩ := hs_lit x3
  simp only [rcL, e0]
  kernel_rfl
theorem bld_rcR_24 (x2 : ByteArray) (x4 : Int) (w : World) : (bldRow 47 #[(2, .string x2), (4, .int .i64 x4)]).run Tryd.prog w = .ok (.agg (rcL ⟨0, 0, x2, Hs.zero, x4, 0⟩).toArray) w := by
  simp only [rcL]
  kernel_rfl
theorem bld_rcR_05 (x0 : Int) (x5 : Int) (w : World) : (bldRow 47 #[(0, .int .u8 x0), (5, .int .i64 x5)]).run Tryd.prog w = .ok (.agg (rcL ⟨x0, 0, ByteArray.empty, Hs.zero, 0, x5⟩).toArray) w := by
  simp only [rcL]
  kernel_rfl
theorem bld_rcR_0 (x0 : Int) (w : World) : (bldRow 47 #[(0, .int .u8 x0)]).run Tryd.prog w = .ok (.agg (rcL ⟨x0, 0, ByteArray.empty, Hs.zero, 0, 0⟩).toArray) w := by
  simp only [rcL]
  kernel_rfl
theorem blO_rcR (ps : Array (Nat × Value)) : Instr.build 47 ps = bldRow 47 ps := rfl
theorem bld_tk_01234 (x0 : ByteArray) (x1 : Hs) (x2 : Int) (x3 : Int) (x4 : Hs) (w : World) : (bldRow 33 #[(0, .string x0), (1, .agg (hsL x1).toArray), (2, .int .i64 x2), (3, .int .i64 x3), (4, .agg (hsL x4).toArray)]).run Tryd.prog w = .ok (.agg (tkL ⟨x0, x1, x2, x3, x4⟩).toArray) w := by
  obtain ⟨a0, a1, a2, a3, a4, a5, a6, a7, a8, a9, a10, a11, a12, a13, a14, a15, a16, a17, a18, a19, a20, a21, a22, a23, a24, a25, a26, a27, a28, a29, a30, a31, e0⟩ := hs_lit x1
  obtain ⟨b0, b1, b2, b3, b4, b5, b6, b7, b8, b9, b10, b11, b12, b13, b14, b15, b16, b17, b18, b19, b20, b21, b22, b23, b24, b25, b26, b27, b28, b29, b30, b31, e1⟩ := hs_lit x4
  simp only [tkL, e0, e1]
  kernel_rfl
theorem bld_tk_0 (x0 : ByteArray) (w : World) : (bldRow 33 #[(0, .string x0)]).run Tryd.prog w = .ok (.agg (tkL ⟨x0, Hs.zero, 0, 0, Hs.zero⟩).toArray) w := by
  simp only [tkL]
  kernel_rfl
theorem bld_tk_z  (w : World) : (bldRow 33 #[]).run Tryd.prog w = .ok (.agg (tkL ⟨ByteArray.empty, Hs.zero, 0, 0, Hs.zero⟩).toArray) w := by
  simp only [tkL]
  kernel_rfl
theorem blO_tk (ps : Array (Nat × Value)) : Instr.build 33 ps = bldRow 33 ps := rfl
theorem bld_tkR_01234 (x0 : ByteArray) (x1 : Hs) (x2 : Int) (x3 : Int) (x4 : Hs) (w : World) : (bldRow 26 #[(0, .string x0), (1, .agg (hsL x1).toArray), (2, .int .i64 x2), (3, .int .i64 x3), (4, .agg (hsL x4).toArray)]).run Tryd.prog w = .ok (.agg (tkL ⟨x0, x1, x2, x3, x4⟩).toArray) w := by
  obtain ⟨a0, a1, a2, a3, a4, a5, a6, a7, a8, a9, a10, a11, a12, a13, a14, a15, a16, a17, a18, a19, a20, a21, a22, a23, a24, a25, a26, a27, a28, a29, a30, a31, e0⟩ := hs_lit x1
  obtain ⟨b0, b1, b2, b3, b4, b5, b6, b7, b8, b9, b10, b11, b12, b13, b14, b15, b16, b17, b18, b19, b20, b21, b22, b23, b24, b25, b26, b27, b28, b29, b30, b31, e1⟩ := hs_lit x4
  simp only [tkL, e0, e1]
  kernel_rfl
theorem bld_tkR_0 (x0 : ByteArray) (w : World) : (bldRow 26 #[(0, .string x0)]).run Tryd.prog w = .ok (.agg (tkL ⟨x0, Hs.zero, 0, 0, Hs.zero⟩).toArray) w := by
  simp only [tkL]
  kernel_rfl
theorem bld_tkR_z  (w : World) : (bldRow 26 #[]).run Tryd.prog w = .ok (.agg (tkL ⟨ByteArray.empty, Hs.zero, 0, 0, Hs.zero⟩).toArray) w := by
  simp only [tkL]
  kernel_rfl
theorem blO_tkR (ps : Array (Nat × Value)) : Instr.build 26 ps = bldRow 26 ps := rfl
theorem bld_it_0123 (x0 : ByteArray) (x1 : Bool) (x2 : Int) (x3 : Hs) (w : World) : (bldRow 28 #[(0, .string x0), (1, .bool x1), (2, .int .i64 x2), (3, .agg (hsL x3).toArray)]).run Tryd.prog w = .ok (.agg (itL ⟨x0, x1, x2, x3⟩).toArray) w := by
  obtain ⟨a0, a1, a2, a3, a4, a5, a6, a7, a8, a9, a10, a11, a12, a13, a14, a15, a16, a17, a18, a19, a20, a21, a22, a23, a24, a25, a26, a27, a28, a29, a30, a31, e0⟩ := hs_lit x3
  simp only [itL, e0]
  kernel_rfl
theorem bld_it_023 (x0 : ByteArray) (x2 : Int) (x3 : Hs) (w : World) : (bldRow 28 #[(0, .string x0), (2, .int .i64 x2), (3, .agg (hsL x3).toArray)]).run Tryd.prog w = .ok (.agg (itL ⟨x0, false, x2, x3⟩).toArray) w := by
  obtain ⟨a0, a1, a2, a3, a4, a5, a6, a7, a8, a9, a10, a11, a12, a13, a14, a15, a16, a17, a18, a19, a20, a21, a22, a23, a24, a25, a26, a27, a28, a29, a30, a31, e0⟩ := hs_lit x3
  simp only [itL, e0]
  kernel_rfl
theorem bld_it_01 (x0 : ByteArray) (x1 : Bool) (w : World) : (bldRow 28 #[(0, .string x0), (1, .bool x1)]).run Tryd.prog w = .ok (.agg (itL ⟨x0, x1, 0, Hs.zero⟩).toArray) w := by
  simp only [itL]
  kernel_rfl
theorem bld_it_0 (x0 : ByteArray) (w : World) : (bldRow 28 #[(0, .string x0)]).run Tryd.prog w = .ok (.agg (itL ⟨x0, false, 0, Hs.zero⟩).toArray) w := by
  simp only [itL]
  kernel_rfl
theorem bld_it_z  (w : World) : (bldRow 28 #[]).run Tryd.prog w = .ok (.agg (itL ⟨ByteArray.empty, false, 0, Hs.zero⟩).toArray) w := by
  simp only [itL]
  kernel_rfl
theorem blO_it (ps : Array (Nat × Value)) : Instr.build 28 ps = bldRow 28 ps := rfl
theorem bsO_pt (n : Nat) (ps : Array (Nat × Value)) : Instr.buildSlice 58 n ps = bslRow 58 n ps := rfl
theorem bs0_pt (w : World) : (bslRow 58 0 #[]).run Tryd.prog w = .ok (.slice (some ⟨w.heap.size, 0, none⟩) 0 0) (w.alloc (.cells #[] 75)) := by kernel_rfl
theorem bs1_pt (x : Pt) (w : World) : (bslRow 58 1 #[(0, .agg (ptL x).toArray)]).run Tryd.prog w = .ok (.slice (some ⟨w.heap.size, 0, none⟩) 1 1) (w.alloc (.cells (ptL x).toArray 75)) := by
  obtain ⟨a0, a1, a2, a3, a4, a5, a6, a7, a8, a9, a10, a11, a12, a13, a14, a15, a16, a17, a18, a19, a20, a21, a22, a23, a24, a25, a26, a27, a28, a29, a30, a31, e0⟩ := hs_lit x.sum
  simp only [ptL, e0]
  kernel_rfl
theorem bsO_ptR (n : Nat) (ps : Array (Nat × Value)) : Instr.buildSlice 61 n ps = bslRow 61 n ps := rfl
theorem bs0_ptR (w : World) : (bslRow 61 0 #[]).run Tryd.prog w = .ok (.slice (some ⟨w.heap.size, 0, none⟩) 0 0) (w.alloc (.cells #[] 78)) := by kernel_rfl
theorem bs1_ptR (x : Pt) (w : World) : (bslRow 61 1 #[(0, .agg (ptL x).toArray)]).run Tryd.prog w = .ok (.slice (some ⟨w.heap.size, 0, none⟩) 1 1) (w.alloc (.cells (ptL x).toArray 78)) := by
  obtain ⟨a0, a1, a2, a3, a4, a5, a6, a7, a8, a9, a10, a11, a12, a13, a14, a15, a16, a17, a18, a19, a20, a21, a22, a23, a24, a25, a26, a27, a28, a29, a30, a31, e0⟩ := hs_lit x.sum
  simp only [ptL, e0]
  kernel_rfl
theorem bsO_rc (n : Nat) (ps : Array (Nat × Value)) : Instr.buildSlice 57 n ps = bslRow 57 n ps := rfl
theorem bs0_rc (w : World) : (bslRow 57 0 #[]).run Tryd.prog w = .ok (.slice (some ⟨w.heap.size, 0, none⟩) 0 0) (w.alloc (.cells #[] 51)) := by kernel_rfl
theorem bs1_rc (x : Rc) (w : World) : (bslRow 57 1 #[(0, .agg (rcL x).toArray)]).run Tryd.prog w = .ok (.slice (some ⟨w.heap.size, 0, none⟩) 1 1) (w.alloc (.cells (rcL x).toArray 51)) := by
  obtain ⟨a0, a1, a2, a3, a4, a5, a6, a7, a8, a9, a10, a11, a12, a13, a14, a15, a16, a17, a18, a19, a20, a21, a22, a23, a24, a25, a26, a27, a28, a29, a30, a31, e0⟩ := hs_lit x.sum
  simp only [rcL, e0]
  kernel_rfl
theorem bsO_rcR (n : Nat) (ps : Array (Nat × Value)) : Instr.buildSlice 56 n ps = bslRow 56 n ps := rfl
theorem bs0_rcR (w : World) : (bslRow 56 0 #[]).run Tryd.prog w = .ok (.slice (some ⟨w.heap.size, 0, none⟩) 0 0) (w.alloc (.cells #[] 47)) := by kernel_rfl
theorem bs1_rcR (x : Rc) (w : World) : (bslRow 56 1 #[(0, .agg (rcL x).toArray)]).run Tryd.prog w = .ok (.slice (some ⟨w.heap.size, 0, none⟩) 1 1) (w.alloc (.cells (rcL x).toArray 47)) := by
  obtain ⟨a0, a1, a2, a3, a4, a5, a6, a7, a8, a9, a10, a11, a12, a13, a14, a15, a16, a17, a18, a19, a20, a21, a22, a23, a24, a25, a26, a27, a28, a29, a30, a31, e0⟩ := hs_lit x.sum
  simp only [rcL, e0]
  kernel_rfl
theorem bsO_it (n : Nat) (ps : Array (Nat × Value)) : Instr.buildSlice 91 n ps = bslRow 91 n ps := rfl
theorem bs0_it (w : World) : (bslRow 91 0 #[]).run Tryd.prog w = .ok (.slice (some ⟨w.heap.size, 0, none⟩) 0 0) (w.alloc (.cells #[] 28)) := by kernel_rfl
theorem bs1_it (x : It) (w : World) : (bslRow 91 1 #[(0, .agg (itL x).toArray)]).run Tryd.prog w = .ok (.slice (some ⟨w.heap.size, 0, none⟩) 1 1) (w.alloc (.cells (itL x).toArray 28)) := by
  obtain ⟨a0, a1, a2, a3, a4, a5, a6, a7, a8, a9, a10, a11, a12, a13, a14, a15, a16, a17, a18, a19, a20, a21, a22, a23, a24, a25, a26, a27, a28, a29, a30, a31, e0⟩ := hs_lit x.sum
  simp only [itL, e0]
  kernel_rfl
end Go.Proofs.YtiohgpcbdefokaaDoor.B
/- Records and the states that they make, in plain words; the kinds of their rows in memory. No condition. -/
namespace Go.Proofs.YtiohgpcbdefokaaDoor.B
open Go.RowKit Go.Proofs.YtiohgpcbdefokaaDoorW.PrintWords
theorem adds (a : Addr) (i j : Nat) : (a.add i).add j = a.add (i + j) := by
  obtain ⟨b, o, s⟩ := a
  cases s <;> unfold Addr.add <;> (repeat' split) <;> simp_all <;> omega
/-- A kind whose elements are lists of cells of one length. -/
def flat {α : Type} (n : Nat) (enc : α → List Value) (hl : ∀ x, (enc x).length = n) (h1 : ∀ x, ∀ v ∈ enc x, v.oneCell' = true) : Kd α where
  sz := n
  E := []
  K := fun _ x cs => cs = enc x
  M := fun _ _ _ x cs => cs = enc x
  K_len := fun h => by rw [h]; exact hl _
  K_one := fun h u hu => by rw [h] at hu; exact h1 _ u hu
  K_below := fun _ h => h
  K_of_M := fun h => h
  M_mono := fun _ h => h
  M_bound := fun h => h
  M_move := fun _ h => h
  M_lower := fun _ h => h
def kPt : Kd Pt := flat 36 ptL ptL_len ptL_one
def kRc : Kd Rc := flat 37 rcL rcL_len rcL_one
theorem flat_row {α : Type} {n : Nat} {enc : α → List Value} {hl : ∀ x, (enc x).length = n} {h1 : ∀ x, ∀ v ∈ enc x, v.oneCell' = true} {w : World} {A : Option Addr} {m : Nat} {xs : List α} (h : Kd.C (flat n enc hl h1) w A m xs) (i : Nat) (hi : i < m) :
    ∃ ad, A = some ad ∧ ∀ (hi' : i < xs.length), rowAt w (ad.add (i * n)) n = some (enc xs[i]) := by
  obtain ⟨h0, _, h2⟩ := h
  obtain ⟨ad, rfl, hc⟩ := h2 (by omega)
  refine ⟨ad, rfl, fun hi' => ?_⟩
  obtain ⟨cs, hcl, hk, hu⟩ := hc i xs[i] (List.getElem?_eq_getElem hi')
  have hk : cs = enc xs[i] := hk
  subst hk
  exact rowAt_of (hl _) fun j v hv => by rw [adds]; exact hu j v hv
/-- A slice that reads: its address is plain, its elements lie there. -/
theorem flat_at {α : Type} {n : Nat} {enc : α → List Value} {hl : ∀ x, (enc x).length = n} {h1 : ∀ x, ∀ v ∈ enc x, v.oneCell' = true} {w : World} {A : Option Addr} {m : Nat} {xs : List α} (h : Kd.C (flat n enc hl h1) w A m xs) (hn : 0 < n) (hm : 0 < m) :
    ∃ b o, A = some ⟨b, o, none⟩ ∧ b < w.heap.size ∧ ∀ i (hi : i < xs.length), rowAt w ⟨b, o + i * n, none⟩ n = some (enc xs[i]) ∧ ∀ j v, (enc xs[i])[j]? = some v → w.cell? ⟨b, o + i * n + j, none⟩ = some v := by
  have hx := h.1
  obtain ⟨ad, rfl, hr⟩ := flat_row h 0 hm
  have h0 := (rowAt_some (hr (by omega))).2 0 _ (List.getElem?_eq_getElem (show 0 < (enc xs[0]).length by rw [hl]; exact hn))
  have e0 : (ad.add (0 * n)).add 0 = ad := by simp [Addr.add]
  rw [e0] at h0
  have hsp : ad.spot = none := by
    unfold World.cell? at h0
    split at h0
    · split at h0
      · cases h0
      · rename_i hs; simpa using hs
    · cases h0
  obtain ⟨b, o, sp⟩ := ad
  obtain rfl : sp = none := hsp
  refine ⟨b, o, rfl, World.block_lt_of_cell? _ _ h0, fun i hi => ?_⟩
  obtain ⟨ad2, e2, hr2⟩ := flat_row h i (by omega)
  injection e2 with e2
  subst e2
  have := hr2 hi
  rw [Addr.add_mid] at this
  refine ⟨this, fun j v hv => ?_⟩
  have h3 := (rowAt_some this).2 j v hv
  rwa [Addr.add_mid] at h3
end Go.Proofs.YtiohgpcbdefokaaDoor.B
/- How law 15's arguments are read: a row of records. No condition. -/
namespace Go.Proofs.YtiohgpcbdefokaaDoor.B
open Go.RowKit Go.Proofs.YtiohgpcbdefokaaDoorW.PrintWords Go.Proofs.YtiohgpcbdefokaaDoor.Opens Go.ChangeShapes Go.WideShapes
def kHs : Kd Hs := flat 32 hsL hsL_len hsL_one
theorem hs_of {cs : List Value} (hl : cs.length = 32) (h : ∀ i (hi : i < cs.length), ∃ b : UInt8, cs[i] = Extern.Stop.cell b) : ∃ x : Hs, hsL x = cs := by
  have hh : ∀ i : Fin 32, ∃ b : UInt8, cs[i.1]'(by omega) = Extern.Stop.cell b := fun i => h i.1 (by omega)
  let f : Fin 32 → UInt8 := fun i => Classical.choose (hh i)
  have hf : ∀ i : Fin 32, cs[i.1]'(by omega) = Extern.Stop.cell (f i) := fun i => Classical.choose_spec (hh i)
  obtain ⟨y, hy⟩ : ∃ y : Hs, y.1 = List.ofFn f := ⟨⟨List.ofFn f, by simp⟩, rfl⟩
  refine ⟨y, ?_⟩
  have e : hsL y = (List.ofFn f).map Extern.Stop.cell := by unfold hsL; rw [hy]
  rw [e]
  refine List.ext_getElem (by simp [hl]) fun i h1 h2 => ?_
  have hi : i < 32 := by rw [hl] at h2; exact h2
  rw [List.getElem_map, List.getElem_ofFn]
  exact (hf ⟨i, hi⟩).symm
set_option maxRecDepth 100000 in
theorem opens_hs : Opens Tryd.prog 24 kHs (fun _ => True) := by
  intro H enc W base spare held fuel cs x hx
  cases fuel with
  | zero => simp [DataW.trod] at hx
  | succ n =>
    unfold DataW.trod at hx
    rw [Tryd.underlying24] at hx
    simp only at hx
    split at hx
    · rename_i hl
      obtain ⟨xs, hxs, _⟩ := Option.map_eq_some_iff.1 hx
      have hl32 : cs.length = 32 := by
        have : Tryd.prog.cellsOf 24 = 32 := by kernel_rfl
        simpa [this] using hl
      have he : Tryd.prog.cellsOf 5 = 1 := by kernel_rfl
      obtain ⟨y, hy⟩ := hs_of hl32 fun i hi => by
        obtain ⟨z, hz⟩ := mapM_each hxs i (by simp; omega)
        simp only [he, Nat.mul_one] at hz
        obtain ⟨m, hm, _, hw⟩ := DataW.trod_int Tryd.underlying5 hz
        have e1 : cs[i] = .int .u8 m := by
          have : (cs.drop i).take 1 = [cs[i]] := by rw [List.drop_eq_getElem_cons hi]; rfl
          rw [this] at hm
          injection hm
        have h8 := bounds_u8 hw
        refine ⟨m.toNat.toUInt8, ?_⟩
        rw [e1]
        show Value.int .u8 m = Value.int .u8 ((m.toNat.toUInt8).toNat : Int)
        congr 1
        rw [UInt8.toNat_ofNat']
        omega
      exact ⟨y, hy.symm, trivial⟩
    · cases hx
abbrev RcT := Int × Int × ByteArray × Hs × Int × Int
def toRc (x : RcT) : Rc := ⟨x.1, x.2.1, x.2.2.1, x.2.2.2.1, x.2.2.2.2.1, x.2.2.2.2.2⟩
def kRT : Kd RcT := Kd.pair (Kd.int .u8) (Kd.pair (Kd.int .i64) (Kd.pair Kd.string (Kd.pair kHs (Kd.pair (Kd.int .i64) (Kd.int .i64)))))
def okRT (x : RcT) : Prop := (Lit.int .u8 x.1).wf = true ∧ (Lit.int .i64 x.2.1).wf = true ∧ x.2.2.1.size ≤ 9223372036854775807 ∧ True ∧ (Lit.int .i64 x.2.2.2.2.1).wf = true ∧ (Lit.int .i64 x.2.2.2.2.2).wf = true
theorem kRT_open {w : World} {x : RcT} {cs : List Value} (h : kRT.K w x cs) : cs = rcL (toRc x) := by
  obtain ⟨c1, c2, e, h1, c3, c4, e2, h2, c5, c6, e3, h3, c7, c8, e4, h4, c9, c10, e5, h5, h6⟩ := h
  have h1' : c1 = [.int .u8 x.1] := h1
  have h2' : c3 = [.int .i64 x.2.1] := h2
  have h3' : c5 = [.string x.2.2.1] := h3
  have h4' : c7 = hsL x.2.2.2.1 := h4
  have h5' : c9 = [.int .i64 x.2.2.2.2.1] := h5
  have h6' : c10 = [.int .i64 x.2.2.2.2.2] := h6
  rw [e, e2, e3, e4, e5, h1', h2', h3', h4', h5', h6']
  simp [rcL, toRc]
theorem opens_rc : Opens Tryd.prog 47 kRT okRT :=
  opens_struct (fun x : RcT => x) (fun y => y) (fun _ => rfl) Tryd.underlying47 (by kernel_rfl) (at_cons (off := 0) (off' := 1) (opens_int Tryd.underlying5) (at_cons (off := 1) (off' := 2) (opens_int Tryd.underlying3) (at_cons (off := 2) (off' := 3) (opens_string Tryd.underlying9) (at_cons (off := 3) (off' := 35) opens_hs (at_cons (off := 35) (off' := 36) (opens_int Tryd.underlying3) (at_last (off := 36) (opens_int Tryd.underlying3) (by kernel_rfl)) (by kernel_rfl)) (by kernel_rfl)) (by kernel_rfl)) (by kernel_rfl)) (by kernel_rfl))
def okRs (xs : List RcT) : Prop := xs.length ≤ 9223372036854775807 ∧ ∀ x ∈ xs, okRT x
theorem opens_rcs : Opens Tryd.prog 56 (Kd.slice 47 kRT) okRs := opens_slice Tryd.underlying56 (by kernel_rfl) opens_rc
theorem C_of {W : World} {A : Option Addr} {n : Nat} {l : List RcT} (h : Kd.C kRT W A n l) : Kd.C kRc W A n (l.map toRc) := by
  obtain ⟨h1, h2, h3⟩ := h
  refine ⟨by rw [List.length_map]; exact h1, h2, fun h0 => ?_⟩
  obtain ⟨ad, rfl, hc⟩ := h3 h0
  refine ⟨ad, rfl, fun j p hp => ?_⟩
  rw [List.getElem?_map] at hp
  obtain ⟨x, hx, rfl⟩ := Option.map_eq_some_iff.1 hp
  obtain ⟨c, hl, hk, hu⟩ := hc j x hx
  exact ⟨c, hl, kRT_open hk, hu⟩
end Go.Proofs.YtiohgpcbdefokaaDoor.B
/- record.Check: whether a record may be. No condition. -/
namespace Go.Proofs.YtiohgpcbdefokaaDoor.B
open Go.RowKit Go.Proofs.YtiohgpcbdefokaaDoorW.PrintWords
attribute [local go_sem ↓ high] lvO_hs ldO_hs stO_hs lvO_pt ldO_pt stO_pt zero_pt eqA_pt lvO_ptR ldO_ptR stO_ptR zero_ptR eqA_ptR lvO_rc ldO_rc stO_rc zero_rc eqA_rc lvO_rcR ldO_rcR stO_rcR zero_rcR eqA_rcR lvO_tk ldO_tk stO_tk zero_tk eqA_tk lvO_tkR ldO_tkR stO_tkR zero_tkR eqA_tkR lvO_it ldO_it stO_it zero_it eqA_it blO_pt blO_ptR blO_rc blO_rcR blO_tk blO_tkR blO_it bsO_pt bsO_ptR bsO_rc bsO_rcR bsO_it
attribute [local go_sem high] rowAt_setCell rowAt_setRow cell_setRow_ne isRow_setRow_ne rowAt_alloc rowAt_drew isRow_alloc isRow_drew isRow_setCell rowRun_some okL_hs ldV_hs ldA_hs stA_hs setRow_alloc get_pt_id get_pt_path cut_pt_sum get_pt_size get_pt_off cut_pt okL_pt size_pt lenb_pt eta_pt ldV_pt ldA_pt stA_pt ldV_ptR ldA_ptR stA_ptR get_rc_kind get_rc_id get_rc_path cut_rc_sum get_rc_size get_rc_off cut_rc okL_rc size_rc lenb_rc eta_rc ldV_rc ldA_rc stA_rc ldV_rcR ldA_rcR stA_rcR get_tk_path cut_tk_sum get_tk_size get_tk_off cut_tk_old cut_tk okL_tk size_tk lenb_tk eta_tk ldV_tk ldA_tk stA_tk ldV_tkR ldA_tkR stA_tkR get_it_path get_it_dir get_it_size cut_it_sum cut_it okL_it size_it lenb_it eta_it ldV_it ldA_it stA_it bld_pt_01234 bld_pt_0123 bld_pt_z bld_ptR_01234 bld_ptR_0123 bld_ptR_z bld_rc_012345 bld_rc_015 bld_rc_01 bld_rc_z bld_rc_01234 bld_rc_24 bld_rc_05 bld_rc_0 bld_rcR_012345 bld_rcR_015 bld_rcR_01 bld_rcR_z bld_rcR_01234 bld_rcR_24 bld_rcR_05 bld_rcR_0 bld_tk_01234 bld_tk_0 bld_tk_z bld_tkR_01234 bld_tkR_0 bld_tkR_z bld_it_0123 bld_it_023 bld_it_01 bld_it_0 bld_it_z bs0_pt bs1_pt bs0_ptR bs1_ptR bs0_rc bs1_rc bs0_rcR bs1_rcR bs0_it bs1_it
theorem split_total (s : ByteArray) (hs : s.size < 4294967281) : ∃ l : List ByteArray, path_Split.f s = some l := by
  unfold path_Split.f
  by_cases h : s.toList = []
  · rw [if_pos h]; exact ⟨_, rfl⟩
  · rw [if_neg h]
    unfold strings_Split.f
    rw [if_pos hs, if_pos (by decide), Option.bind_some]
    exact ⟨_, rfl⟩
theorem check_total (p : ByteArray) : ∃ e, path_Check.f p = some e := by
  unfold path_Check.f
  by_cases h : (p.size : Int) > 128
  · rw [if_pos h]; exact ⟨_, rfl⟩
  · rw [if_neg h]
    obtain ⟨l, hl⟩ := split_total p (by omega)
    rw [hl, Option.bind_some]
    split
    · exact ⟨_, rfl⟩
    · split
      · exact ⟨_, rfl⟩
      · split <;> exact ⟨_, rfl⟩
theorem resv_total (p : ByteArray) : ∃ b, path_Reserved.f p = some b := by
  unfold path_Reserved.f strings_HasPrefix.f stringslite_HasPrefix.f
  have h0 : (⟨#[46, 115, 117, 109, 112, 116, 101, 114]⟩ : ByteArray).size = 8 := rfl
  by_cases h : (p.size : Int) ≥ ((⟨#[46, 115, 117, 109, 112, 116, 101, 114]⟩ : ByteArray).size : Int)
  · rw [if_pos h, if_pos (by omega), if_pos (by omega), Option.bind_some]
    exact ⟨_, rfl⟩
  · rw [if_neg h, Option.bind_some]
    exact ⟨_, rfl⟩
/-- What path.Check, path.Reserved tell of a path. -/
def pathE (p : ByteArray) : Int := (path_Check.f p).getD 0
def resv (p : ByteArray) : Bool := (path_Reserved.f p).getD false
theorem pathE_eq (p : ByteArray) : path_Check.f p = some (pathE p) := by
  obtain ⟨e, he⟩ := check_total p
  unfold pathE; rw [he]; rfl
theorem resv_eq (p : ByteArray) : path_Reserved.f p = some (resv p) := by
  obtain ⟨e, he⟩ := resv_total p
  unfold resv; rw [he]; rfl
def sizeB (n : Int) : Bool := decide (0 ≤ n ∧ n ≤ 65536)
theorem sizeB_eq (n : Int) : record_size.f n = some (sizeB n) := by
  unfold record_size.f sizeB
  by_cases h : n ≥ 0
  · rw [if_pos h]; simp [h]
  · rw [if_neg h]; simp; omega
def beginE (r : Rc) : Int := if pathE r.path = 0 then (if resv r.path = true then 6 else if sizeB r.size = true then 0 else 13) else pathE r.path
def offE (r : Rc) : Int := if sizeB r.off = true then (if r.off = 0 ∨ r.kind = 1 then 0 else 4) else 13
def bareRc (r : Rc) : Rc := ⟨r.kind, r.id, ByteArray.empty, Hs.zero, 0, r.off⟩
def chkE (r : Rc) : Int := if 4 < r.kind ∨ r.id < 0 ∨ 1099511627776 < r.id then 2 else if r.kind = 0 then (if beginE r = 0 then offE r else beginE r) else if r = bareRc r then offE r else 4
theorem bcell0 {W w1 : World} (hb : Below W.heap.size W w1) : (∀ b o, b < W.heap.size → w1.cell? ⟨b, o, none⟩ = W.cell? ⟨b, o, none⟩) ∧ (∀ b o, b < W.heap.size → w1.frozen? ⟨b, o, none⟩ = W.frozen? ⟨b, o, none⟩) :=
  ⟨fun b o h => hb.cell (p := ⟨b, o, none⟩) h, fun b o h => hb.frozen (p := ⟨b, o, none⟩) h⟩
set_option linter.unusedVariables false in
set_option maxHeartbeats 4000000 in
set_option maxRecDepth 100000 in
theorem begin_calls (r : Rc) (w : World) (hT : TabOK w) :
    Calls Tryd.prog 77 #[.agg (rcL r).toArray] w fun e w' => e = .returned (.int .i64 (beginE r)) ∧ Below w.heap.size w w' := by
  have HT := Aside0.mk hT
  clear hT
  have hp := pathE_eq r.path
  by_cases h0 : pathE r.path = 0
  · rw [h0] at hp
    have HP := Aside0.mk hp
    clear hp
    have hr := resv_eq r.path
    cases h1 : resv r.path with
    | true =>
      rw [h1] at hr
      have HR := Aside0.mk hr
      have HE := Aside0.mk (show beginE r = 6 by unfold beginE; rw [if_pos h0, if_pos h1])
      clear hr h0 h1
      go_enter Tryd.func77, Tryd.ntmps77
      go_wp2_with (first | (go_at_call 59; refine (path_Check.calls r.path 0 _ (HT.out.below ?_) HP.out).mono ?_; (exact below_alloc (Below.refl _ _) _); rintro e w2 ⟨rfl, hb2⟩; obtain ⟨hcl, hfz⟩ := bcell0 hb2; have c2_2 : w2.cell? ⟨w.heap.size, 2, none⟩ = some (.string r.path) := (by rw [hcl _ _ (by simp)]; first | (go_simp; done) | (simp [*]; done)); have c2_4 : w2.cell? ⟨w.heap.size, 35, none⟩ = some (.int .i64 r.size) := (by rw [hcl _ _ (by simp)]; first | (go_simp; done) | (simp [*]; done)); have HB2 := Aside0.mk (Below.trans (below_alloc (Below.refl w.heap.size w) _) (hb2.mono (by simp))); clear hb2 hcl hfz) | (go_at_call 60; refine (path_Reserved.calls r.path true _ HR.out).mono ?_; rintro e w3 ⟨rfl, ⟨n3, rfl⟩⟩))
      go_ret
      exact ⟨by rw [HE.out]; rfl, by (repeat' (first | exact HB2.out | (with_reducible refine below_setCell ?_ ?_ _) | (with_reducible refine below_setRow ?_ ?_ _) | (with_reducible refine Below.alloc ?_ ?_ _) | (with_reducible refine below_drew ?_) | (with_reducible refine pw_below_drewN ?_ _) | (with_reducible exact Below.refl _ _) | omega | (simp; done) | (simp; omega)))⟩
    | false =>
      rw [h1] at hr
      have HR := Aside0.mk hr
      have hs := sizeB_eq r.size
      cases h2 : sizeB r.size with
      | true =>
        rw [h2] at hs
        have HS := Aside0.mk hs
        have HE := Aside0.mk (show beginE r = 0 by unfold beginE; rw [if_pos h0, if_neg (by rw [h1]; decide), if_pos h2])
        clear hr h0 h1 h2 hs
        go_enter Tryd.func77, Tryd.ntmps77
        go_wp2_with (first | (go_at_call 59; refine (path_Check.calls r.path 0 _ (HT.out.below ?_) HP.out).mono ?_; (exact below_alloc (Below.refl _ _) _); rintro e w2 ⟨rfl, hb2⟩; obtain ⟨hcl, hfz⟩ := bcell0 hb2; have c2_2 : w2.cell? ⟨w.heap.size, 2, none⟩ = some (.string r.path) := (by rw [hcl _ _ (by simp)]; first | (go_simp; done) | (simp [*]; done)); have c2_4 : w2.cell? ⟨w.heap.size, 35, none⟩ = some (.int .i64 r.size) := (by rw [hcl _ _ (by simp)]; first | (go_simp; done) | (simp [*]; done)); have HB2 := Aside0.mk (Below.trans (below_alloc (Below.refl w.heap.size w) _) (hb2.mono (by simp))); clear hb2 hcl hfz) | (go_at_call 60; refine (path_Reserved.calls r.path false _ HR.out).mono ?_; rintro e w3 ⟨rfl, ⟨n3, rfl⟩⟩) | (go_at_call 78; refine (record_size.calls r.size true _ HS.out).mono ?_; rintro e w4 ⟨rfl, ⟨n4, rfl⟩⟩))
        go_ret
        exact ⟨by rw [HE.out]; rfl, by (repeat' (first | exact HB2.out | (with_reducible refine below_setCell ?_ ?_ _) | (with_reducible refine below_setRow ?_ ?_ _) | (with_reducible refine Below.alloc ?_ ?_ _) | (with_reducible refine below_drew ?_) | (with_reducible refine pw_below_drewN ?_ _) | (with_reducible exact Below.refl _ _) | omega | (simp; done) | (simp; omega)))⟩
      | false =>
        rw [h2] at hs
        have HS := Aside0.mk hs
        have HE := Aside0.mk (show beginE r = 13 by unfold beginE; rw [if_pos h0, if_neg (by rw [h1]; decide), if_neg (by rw [h2]; decide)])
        clear hr h0 h1 h2 hs
        go_enter Tryd.func77, Tryd.ntmps77
        go_wp2_with (first | (go_at_call 59; refine (path_Check.calls r.path 0 _ (HT.out.below ?_) HP.out).mono ?_; (exact below_alloc (Below.refl _ _) _); rintro e w2 ⟨rfl, hb2⟩; obtain ⟨hcl, hfz⟩ := bcell0 hb2; have c2_2 : w2.cell? ⟨w.heap.size, 2, none⟩ = some (.string r.path) := (by rw [hcl _ _ (by simp)]; first | (go_simp; done) | (simp [*]; done)); have c2_4 : w2.cell? ⟨w.heap.size, 35, none⟩ = some (.int .i64 r.size) := (by rw [hcl _ _ (by simp)]; first | (go_simp; done) | (simp [*]; done)); have HB2 := Aside0.mk (Below.trans (below_alloc (Below.refl w.heap.size w) _) (hb2.mono (by simp))); clear hb2 hcl hfz) | (go_at_call 60; refine (path_Reserved.calls r.path false _ HR.out).mono ?_; rintro e w3 ⟨rfl, ⟨n3, rfl⟩⟩) | (go_at_call 78; refine (record_size.calls r.size false _ HS.out).mono ?_; rintro e w4 ⟨rfl, ⟨n4, rfl⟩⟩))
        go_ret
        exact ⟨by rw [HE.out]; rfl, by (repeat' (first | exact HB2.out | (with_reducible refine below_setCell ?_ ?_ _) | (with_reducible refine below_setRow ?_ ?_ _) | (with_reducible refine Below.alloc ?_ ?_ _) | (with_reducible refine below_drew ?_) | (with_reducible refine pw_below_drewN ?_ _) | (with_reducible exact Below.refl _ _) | omega | (simp; done) | (simp; omega)))⟩
  · have HP := Aside0.mk hp
    have hd : decide (pathE r.path = 0) = false := decide_eq_false h0
    have hdn : (pathE r.path != 0) = true := bne_iff_ne.2 h0
    have HE := Aside0.mk (show beginE r = pathE r.path by unfold beginE; rw [if_neg h0])
    clear hp h0
    go_enter Tryd.func77, Tryd.ntmps77
    go_wp2_with (first | (go_at_call 59; refine (path_Check.calls r.path (pathE r.path) _ (HT.out.below ?_) HP.out).mono ?_; (exact below_alloc (Below.refl _ _) _); rintro e w2 ⟨rfl, hb2⟩; obtain ⟨hcl, hfz⟩ := bcell0 hb2; have c2_2 : w2.cell? ⟨w.heap.size, 2, none⟩ = some (.string r.path) := (by rw [hcl _ _ (by simp)]; first | (go_simp; done) | (simp [*]; done)); have c2_4 : w2.cell? ⟨w.heap.size, 35, none⟩ = some (.int .i64 r.size) := (by rw [hcl _ _ (by simp)]; first | (go_simp; done) | (simp [*]; done)); have HB2 := Aside0.mk (Below.trans (below_alloc (Below.refl w.heap.size w) _) (hb2.mono (by simp))); clear hb2 hcl hfz))
    go_ret
    exact ⟨by rw [HE.out]; rfl, by (repeat' (first | exact HB2.out | (with_reducible refine below_setCell ?_ ?_ _) | (with_reducible refine below_setRow ?_ ?_ _) | (with_reducible refine Below.alloc ?_ ?_ _) | (with_reducible refine below_drew ?_) | (with_reducible refine pw_below_drewN ?_ _) | (with_reducible exact Below.refl _ _) | omega | (simp; done) | (simp; omega)))⟩
set_option linter.unusedVariables false in
set_option maxHeartbeats 4000000 in
set_option maxRecDepth 100000 in
theorem Check_kind (r : Rc) (w : World) (h : 4 < r.kind) :
    Calls Tryd.prog 26 #[.agg (rcL r).toArray] w fun e w' => e = .returned (.int .i64 (chkE r)) ∧ Below w.heap.size w w' := by
  have HE := Aside0.mk (show chkE r = 2 by unfold chkE; rw [if_pos (.inl h)])
  have hd : decide (4 < r.kind) = true := decide_eq_true h
  clear h
  go_enter Tryd.func26, Tryd.ntmps26
  go_wp2
  go_ret
  exact ⟨by rw [HE.out]; rfl, by (repeat' (first | exact Below.refl _ _ | (with_reducible refine below_setCell ?_ ?_ _) | (with_reducible refine below_setRow ?_ ?_ _) | (with_reducible refine Below.alloc ?_ ?_ _) | (with_reducible refine below_drew ?_) | (with_reducible refine pw_below_drewN ?_ _) | (with_reducible exact Below.refl _ _) | omega | (simp; done) | (simp; omega)))⟩
set_option linter.unusedVariables false in
set_option maxHeartbeats 4000000 in
set_option maxRecDepth 100000 in
theorem Check_low (r : Rc) (w : World) (h0 : ¬ 4 < r.kind) (h : r.id < 0) :
    Calls Tryd.prog 26 #[.agg (rcL r).toArray] w fun e w' => e = .returned (.int .i64 (chkE r)) ∧ Below w.heap.size w w' := by
  have HE := Aside0.mk (show chkE r = 2 by unfold chkE; rw [if_pos (.inr (.inl h))])
  have hd : decide (4 < r.kind) = false := decide_eq_false h0
  have hd2 : decide (r.id < 0) = true := decide_eq_true h
  clear h h0
  go_enter Tryd.func26, Tryd.ntmps26
  go_wp2
  go_ret
  exact ⟨by rw [HE.out]; rfl, by (repeat' (first | exact Below.refl _ _ | (with_reducible refine below_setCell ?_ ?_ _) | (with_reducible refine below_setRow ?_ ?_ _) | (with_reducible refine Below.alloc ?_ ?_ _) | (with_reducible refine below_drew ?_) | (with_reducible refine pw_below_drewN ?_ _) | (with_reducible exact Below.refl _ _) | omega | (simp; done) | (simp; omega)))⟩
set_option linter.unusedVariables false in
set_option maxHeartbeats 4000000 in
set_option maxRecDepth 100000 in
theorem Check_high (r : Rc) (w : World) (h0 : ¬ 4 < r.kind) (h1 : ¬ r.id < 0) (h : 1099511627776 < r.id) :
    Calls Tryd.prog 26 #[.agg (rcL r).toArray] w fun e w' => e = .returned (.int .i64 (chkE r)) ∧ Below w.heap.size w w' := by
  have HE := Aside0.mk (show chkE r = 2 by unfold chkE; rw [if_pos (.inr (.inr h))])
  have hd : decide (4 < r.kind) = false := decide_eq_false h0
  have hd2 : decide (r.id < 0) = false := decide_eq_false h1
  have hd3 : decide (1099511627776 < r.id) = true := decide_eq_true h
  clear h h0 h1
  go_enter Tryd.func26, Tryd.ntmps26
  go_wp2
  go_ret
  exact ⟨by rw [HE.out]; rfl, by (repeat' (first | exact Below.refl _ _ | (with_reducible refine below_setCell ?_ ?_ _) | (with_reducible refine below_setRow ?_ ?_ _) | (with_reducible refine Below.alloc ?_ ?_ _) | (with_reducible refine below_drew ?_) | (with_reducible refine pw_below_drewN ?_ _) | (with_reducible exact Below.refl _ _) | omega | (simp; done) | (simp; omega)))⟩
set_option linter.unusedVariables false in
set_option maxHeartbeats 4000000 in
set_option maxRecDepth 100000 in
theorem Check_b1 (r : Rc) (w : World) (hT : TabOK w) (h0 : ¬ 4 < r.kind) (h1 : ¬ r.id < 0) (h2 : ¬ 1099511627776 < r.id) (hk : r.kind = 0) (hb : ¬ beginE r = 0) :
    Calls Tryd.prog 26 #[.agg (rcL r).toArray] w fun e w' => e = .returned (.int .i64 (chkE r)) ∧ Below w.heap.size w w' := by
  have HT := Aside0.mk hT
  clear hT
  have HE := Aside0.mk (show chkE r = beginE r by unfold chkE; rw [if_neg (fun h => h.elim h0 (fun h => h.elim h1 h2))]; rw [if_pos hk, if_neg hb])
  have HBE := Aside0.mk (show beginE r = beginE r from rfl)
  have hd4 : decide (beginE r = 0) = false := decide_eq_false hb
  have hd4n : (beginE r != 0) = true := bne_iff_ne.2 hb
  clear hb
  have hd : decide (4 < r.kind) = false := decide_eq_false h0
  have hd2 : decide (r.id < 0) = false := decide_eq_false h1
  have hd3 : decide (1099511627776 < r.id) = false := decide_eq_false h2
  clear h0 h1 h2
  go_enter Tryd.func26, Tryd.ntmps26
  go_wp2_with (first | (go_at_call 77; refine (begin_calls r _ (HT.out.below ?_)).mono ?_; (exact below_alloc (below_alloc (Below.refl _ _) _) _); rintro e w2 ⟨rfl, hb2⟩; rw [HBE.out]; obtain ⟨hcl, hfz⟩ := bcell0 hb2; have c2_0 : w2.cell? ⟨w.heap.size, 0, none⟩ = some (.int .u8 r.kind) := (by rw [hcl _ _ (by simp; try omega)]; first | (go_simp; done) | (simp [*]; done)); have c2_5 : w2.cell? ⟨w.heap.size, 36, none⟩ = some (.int .i64 r.off) := (by rw [hcl _ _ (by simp; try omega)]; first | (go_simp; done) | (simp [*]; done)); have HB2 := Aside0.mk (Below.trans (below_alloc (below_alloc (Below.refl w.heap.size w) _) _) (hb2.mono (by simp; try omega))); clear hb2 hcl hfz))
  go_ret
  exact ⟨by rw [HE.out]; rfl, by (repeat' (first | exact HB2.out | (with_reducible refine below_setCell ?_ ?_ _) | (with_reducible refine below_setRow ?_ ?_ _) | (with_reducible refine Below.alloc ?_ ?_ _) | (with_reducible refine below_drew ?_) | (with_reducible refine pw_below_drewN ?_ _) | (with_reducible exact Below.refl _ _) | omega | (simp; done) | (simp; omega)))⟩
set_option linter.unusedVariables false in
set_option maxHeartbeats 4000000 in
set_option maxRecDepth 100000 in
theorem Check_b2 (r : Rc) (w : World) (hT : TabOK w) (h0 : ¬ 4 < r.kind) (h1 : ¬ r.id < 0) (h2 : ¬ 1099511627776 < r.id) (hk : r.kind = 0) (hb : beginE r = 0) (hs0 : sizeB r.off = false) :
    Calls Tryd.prog 26 #[.agg (rcL r).toArray] w fun e w' => e = .returned (.int .i64 (chkE r)) ∧ Below w.heap.size w w' := by
  have HT := Aside0.mk hT
  clear hT
  have HE := Aside0.mk (show chkE r = 13 by unfold chkE; rw [if_neg (fun h => h.elim h0 (fun h => h.elim h1 h2))]; rw [if_pos hk, if_pos hb]; unfold offE; rw [if_neg (by rw [hs0]; decide)])
  have HBE := Aside0.mk hb
  clear hb
  have hd : decide (4 < r.kind) = false := decide_eq_false h0
  have hd2 : decide (r.id < 0) = false := decide_eq_false h1
  have hd3 : decide (1099511627776 < r.id) = false := decide_eq_false h2
  clear h0 h1 h2
  have hs := sizeB_eq r.off
  rw [hs0] at hs
  have HS := Aside0.mk hs
  clear hs hs0
  go_enter Tryd.func26, Tryd.ntmps26
  go_wp2_with (first | (go_at_call 77; refine (begin_calls r _ (HT.out.below ?_)).mono ?_; (exact below_alloc (below_alloc (Below.refl _ _) _) _); rintro e w2 ⟨rfl, hb2⟩; rw [HBE.out]; obtain ⟨hcl, hfz⟩ := bcell0 hb2; have c2_0 : w2.cell? ⟨w.heap.size, 0, none⟩ = some (.int .u8 r.kind) := (by rw [hcl _ _ (by simp; try omega)]; first | (go_simp; done) | (simp [*]; done)); have c2_5 : w2.cell? ⟨w.heap.size, 36, none⟩ = some (.int .i64 r.off) := (by rw [hcl _ _ (by simp; try omega)]; first | (go_simp; done) | (simp [*]; done)); have HB2 := Aside0.mk (Below.trans (below_alloc (below_alloc (Below.refl w.heap.size w) _) _) (hb2.mono (by simp; try omega))); clear hb2 hcl hfz) | (go_at_call 78; refine (record_size.calls r.off false _ HS.out).mono ?_; rintro e w4 ⟨rfl, ⟨n4, rfl⟩⟩))
  go_ret
  exact ⟨by rw [HE.out]; rfl, by (repeat' (first | exact HB2.out | (with_reducible refine below_setCell ?_ ?_ _) | (with_reducible refine below_setRow ?_ ?_ _) | (with_reducible refine Below.alloc ?_ ?_ _) | (with_reducible refine below_drew ?_) | (with_reducible refine pw_below_drewN ?_ _) | (with_reducible exact Below.refl _ _) | omega | (simp; done) | (simp; omega)))⟩
set_option linter.unusedVariables false in
set_option maxHeartbeats 4000000 in
set_option maxRecDepth 100000 in
theorem Check_b3 (r : Rc) (w : World) (hT : TabOK w) (h0 : ¬ 4 < r.kind) (h1 : ¬ r.id < 0) (h2 : ¬ 1099511627776 < r.id) (hk : r.kind = 0) (hb : beginE r = 0) (hs0 : sizeB r.off = true) (hz : ¬ r.off = 0) :
    Calls Tryd.prog 26 #[.agg (rcL r).toArray] w fun e w' => e = .returned (.int .i64 (chkE r)) ∧ Below w.heap.size w w' := by
  have HT := Aside0.mk hT
  clear hT
  have HE := Aside0.mk (show chkE r = 4 by unfold chkE; rw [if_neg (fun h => h.elim h0 (fun h => h.elim h1 h2))]; rw [if_pos hk, if_pos hb]; unfold offE; rw [if_pos hs0, if_neg (fun h => h.elim hz (fun h => by omega))])
  have HBE := Aside0.mk hb
  have hd5 : decide (r.off = 0) = false := decide_eq_false hz
  have hd5n : (r.off != 0) = true := bne_iff_ne.2 hz
  clear hb hz
  have hd : decide (4 < r.kind) = false := decide_eq_false h0
  have hd2 : decide (r.id < 0) = false := decide_eq_false h1
  have hd3 : decide (1099511627776 < r.id) = false := decide_eq_false h2
  clear h0 h1 h2
  have hs := sizeB_eq r.off
  rw [hs0] at hs
  have HS := Aside0.mk hs
  clear hs hs0
  go_enter Tryd.func26, Tryd.ntmps26
  go_wp2_with (first | (go_at_call 77; refine (begin_calls r _ (HT.out.below ?_)).mono ?_; (exact below_alloc (below_alloc (Below.refl _ _) _) _); rintro e w2 ⟨rfl, hb2⟩; rw [HBE.out]; obtain ⟨hcl, hfz⟩ := bcell0 hb2; have c2_0 : w2.cell? ⟨w.heap.size, 0, none⟩ = some (.int .u8 r.kind) := (by rw [hcl _ _ (by simp; try omega)]; first | (go_simp; done) | (simp [*]; done)); have c2_5 : w2.cell? ⟨w.heap.size, 36, none⟩ = some (.int .i64 r.off) := (by rw [hcl _ _ (by simp; try omega)]; first | (go_simp; done) | (simp [*]; done)); have HB2 := Aside0.mk (Below.trans (below_alloc (below_alloc (Below.refl w.heap.size w) _) _) (hb2.mono (by simp; try omega))); clear hb2 hcl hfz) | (go_at_call 78; refine (record_size.calls r.off true _ HS.out).mono ?_; rintro e w4 ⟨rfl, ⟨n4, rfl⟩⟩))
  go_ret
  exact ⟨by rw [HE.out]; rfl, by (repeat' (first | exact HB2.out | (with_reducible refine below_setCell ?_ ?_ _) | (with_reducible refine below_setRow ?_ ?_ _) | (with_reducible refine Below.alloc ?_ ?_ _) | (with_reducible refine below_drew ?_) | (with_reducible refine pw_below_drewN ?_ _) | (with_reducible exact Below.refl _ _) | omega | (simp; done) | (simp; omega)))⟩
set_option linter.unusedVariables false in
set_option maxHeartbeats 4000000 in
set_option maxRecDepth 100000 in
theorem Check_b4 (r : Rc) (w : World) (hT : TabOK w) (h0 : ¬ 4 < r.kind) (h1 : ¬ r.id < 0) (h2 : ¬ 1099511627776 < r.id) (hk : r.kind = 0) (hb : beginE r = 0) (hs0 : sizeB r.off = true) (hz : r.off = 0) :
    Calls Tryd.prog 26 #[.agg (rcL r).toArray] w fun e w' => e = .returned (.int .i64 (chkE r)) ∧ Below w.heap.size w w' := by
  have HT := Aside0.mk hT
  clear hT
  have HE := Aside0.mk (show chkE r = 0 by unfold chkE; rw [if_neg (fun h => h.elim h0 (fun h => h.elim h1 h2))]; rw [if_pos hk, if_pos hb]; unfold offE; rw [if_pos hs0, if_pos (.inl hz)])
  have HBE := Aside0.mk hb
  clear hb
  have hd5 : decide (r.off = 0) = true := decide_eq_true hz
  have hd5n : (r.off != 0) = false := by simp [hz]
  clear hz
  have hd : decide (4 < r.kind) = false := decide_eq_false h0
  have hd2 : decide (r.id < 0) = false := decide_eq_false h1
  have hd3 : decide (1099511627776 < r.id) = false := decide_eq_false h2
  clear h0 h1 h2
  have hs := sizeB_eq r.off
  rw [hs0] at hs
  have HS := Aside0.mk hs
  clear hs hs0
  go_enter Tryd.func26, Tryd.ntmps26
  go_wp2_with (first | (go_at_call 77; refine (begin_calls r _ (HT.out.below ?_)).mono ?_; (exact below_alloc (below_alloc (Below.refl _ _) _) _); rintro e w2 ⟨rfl, hb2⟩; rw [HBE.out]; obtain ⟨hcl, hfz⟩ := bcell0 hb2; have c2_0 : w2.cell? ⟨w.heap.size, 0, none⟩ = some (.int .u8 r.kind) := (by rw [hcl _ _ (by simp; try omega)]; first | (go_simp; done) | (simp [*]; done)); have c2_5 : w2.cell? ⟨w.heap.size, 36, none⟩ = some (.int .i64 r.off) := (by rw [hcl _ _ (by simp; try omega)]; first | (go_simp; done) | (simp [*]; done)); have HB2 := Aside0.mk (Below.trans (below_alloc (below_alloc (Below.refl w.heap.size w) _) _) (hb2.mono (by simp; try omega))); clear hb2 hcl hfz) | (go_at_call 78; refine (record_size.calls r.off true _ HS.out).mono ?_; rintro e w4 ⟨rfl, ⟨n4, rfl⟩⟩))
  go_ret
  exact ⟨by rw [HE.out]; rfl, by (repeat' (first | exact HB2.out | (with_reducible refine below_setCell ?_ ?_ _) | (with_reducible refine below_setRow ?_ ?_ _) | (with_reducible refine Below.alloc ?_ ?_ _) | (with_reducible refine below_drew ?_) | (with_reducible refine pw_below_drewN ?_ _) | (with_reducible exact Below.refl _ _) | omega | (simp; done) | (simp; omega)))⟩
set_option linter.unusedVariables false in
set_option maxHeartbeats 4000000 in
set_option maxRecDepth 100000 in
theorem Check_n1 (r : Rc) (w : World) (h0 : ¬ 4 < r.kind) (h1 : ¬ r.id < 0) (h2 : ¬ 1099511627776 < r.id) (hk : ¬ r.kind = 0) (hb : ¬ r = bareRc r) :
    Calls Tryd.prog 26 #[.agg (rcL r).toArray] w fun e w' => e = .returned (.int .i64 (chkE r)) ∧ Below w.heap.size w w' := by
  have HE := Aside0.mk (show chkE r = 4 by unfold chkE; rw [if_neg (fun h => h.elim h0 (fun h => h.elim h1 h2))]; rw [if_neg hk, if_neg hb])
  have hd7 : decide (r = ⟨r.kind, r.id, ByteArray.empty, Hs.zero, 0, r.off⟩) = false := decide_eq_false hb
  clear hb
  have hd : decide (4 < r.kind) = false := decide_eq_false h0
  have hd2 : decide (r.id < 0) = false := decide_eq_false h1
  have hd3 : decide (1099511627776 < r.id) = false := decide_eq_false h2
  clear h0 h1 h2
  have hd6 : decide (r.kind = 0) = false := decide_eq_false hk
  have hd6n : (r.kind != 0) = true := bne_iff_ne.2 hk
  clear hk
  go_enter Tryd.func26, Tryd.ntmps26
  go_wp2
  go_ret
  exact ⟨by rw [HE.out]; rfl, by (repeat' (first | exact Below.refl _ _ | (with_reducible refine below_setCell ?_ ?_ _) | (with_reducible refine below_setRow ?_ ?_ _) | (with_reducible refine Below.alloc ?_ ?_ _) | (with_reducible refine below_drew ?_) | (with_reducible refine pw_below_drewN ?_ _) | (with_reducible exact Below.refl _ _) | omega | (simp; done) | (simp; omega)))⟩
set_option linter.unusedVariables false in
set_option maxHeartbeats 4000000 in
set_option maxRecDepth 100000 in
theorem Check_n2 (r : Rc) (w : World) (h0 : ¬ 4 < r.kind) (h1 : ¬ r.id < 0) (h2 : ¬ 1099511627776 < r.id) (hk : ¬ r.kind = 0) (hb : r = bareRc r) (hs0 : sizeB r.off = false) :
    Calls Tryd.prog 26 #[.agg (rcL r).toArray] w fun e w' => e = .returned (.int .i64 (chkE r)) ∧ Below w.heap.size w w' := by
  have HE := Aside0.mk (show chkE r = 13 by unfold chkE; rw [if_neg (fun h => h.elim h0 (fun h => h.elim h1 h2))]; rw [if_neg hk, if_pos hb]; unfold offE; rw [if_neg (by rw [hs0]; decide)])
  have hd7 : decide (r = ⟨r.kind, r.id, ByteArray.empty, Hs.zero, 0, r.off⟩) = true := decide_eq_true hb
  clear hb
  have hd : decide (4 < r.kind) = false := decide_eq_false h0
  have hd2 : decide (r.id < 0) = false := decide_eq_false h1
  have hd3 : decide (1099511627776 < r.id) = false := decide_eq_false h2
  clear h0 h1 h2
  have hd6 : decide (r.kind = 0) = false := decide_eq_false hk
  have hd6n : (r.kind != 0) = true := bne_iff_ne.2 hk
  clear hk
  have hs := sizeB_eq r.off
  rw [hs0] at hs
  have HS := Aside0.mk hs
  clear hs hs0
  go_enter Tryd.func26, Tryd.ntmps26
  go_wp2_with (first | (go_at_call 78; refine (record_size.calls r.off false _ HS.out).mono ?_; rintro e w4 ⟨rfl, ⟨n4, rfl⟩⟩))
  go_ret
  exact ⟨by rw [HE.out]; rfl, by (repeat' (first | exact Below.refl _ _ | (with_reducible refine below_setCell ?_ ?_ _) | (with_reducible refine below_setRow ?_ ?_ _) | (with_reducible refine Below.alloc ?_ ?_ _) | (with_reducible refine below_drew ?_) | (with_reducible refine pw_below_drewN ?_ _) | (with_reducible exact Below.refl _ _) | omega | (simp; done) | (simp; omega)))⟩
set_option linter.unusedVariables false in
set_option maxHeartbeats 4000000 in
set_option maxRecDepth 100000 in
theorem Check_n3 (r : Rc) (w : World) (h0 : ¬ 4 < r.kind) (h1 : ¬ r.id < 0) (h2 : ¬ 1099511627776 < r.id) (hk : ¬ r.kind = 0) (hb : r = bareRc r) (hs0 : sizeB r.off = true) (hz : ¬ r.off = 0) (h7 : ¬ r.kind = 1) :
    Calls Tryd.prog 26 #[.agg (rcL r).toArray] w fun e w' => e = .returned (.int .i64 (chkE r)) ∧ Below w.heap.size w w' := by
  have HE := Aside0.mk (show chkE r = 4 by unfold chkE; rw [if_neg (fun h => h.elim h0 (fun h => h.elim h1 h2))]; rw [if_neg hk, if_pos hb]; unfold offE; rw [if_pos hs0, if_neg (fun h => h.elim hz h7)])
  have hd5 : decide (r.off = 0) = false := decide_eq_false hz
  have hd5n : (r.off != 0) = true := bne_iff_ne.2 hz
  have hd8 : decide (r.kind = 1) = false := decide_eq_false h7
  have hd8n : (r.kind != 1) = true := bne_iff_ne.2 h7
  clear hz h7
  have hd7 : decide (r = ⟨r.kind, r.id, ByteArray.empty, Hs.zero, 0, r.off⟩) = true := decide_eq_true hb
  clear hb
  have hd : decide (4 < r.kind) = false := decide_eq_false h0
  have hd2 : decide (r.id < 0) = false := decide_eq_false h1
  have hd3 : decide (1099511627776 < r.id) = false := decide_eq_false h2
  clear h0 h1 h2
  have hd6 : decide (r.kind = 0) = false := decide_eq_false hk
  have hd6n : (r.kind != 0) = true := bne_iff_ne.2 hk
  clear hk
  have hs := sizeB_eq r.off
  rw [hs0] at hs
  have HS := Aside0.mk hs
  clear hs hs0
  go_enter Tryd.func26, Tryd.ntmps26
  go_wp2_with (first | (go_at_call 78; refine (record_size.calls r.off true _ HS.out).mono ?_; rintro e w4 ⟨rfl, ⟨n4, rfl⟩⟩))
  go_ret
  exact ⟨by rw [HE.out]; rfl, by (repeat' (first | exact Below.refl _ _ | (with_reducible refine below_setCell ?_ ?_ _) | (with_reducible refine below_setRow ?_ ?_ _) | (with_reducible refine Below.alloc ?_ ?_ _) | (with_reducible refine below_drew ?_) | (with_reducible refine pw_below_drewN ?_ _) | (with_reducible exact Below.refl _ _) | omega | (simp; done) | (simp; omega)))⟩
set_option linter.unusedVariables false in
set_option maxHeartbeats 4000000 in
set_option maxRecDepth 100000 in
theorem Check_n4 (r : Rc) (w : World) (h0 : ¬ 4 < r.kind) (h1 : ¬ r.id < 0) (h2 : ¬ 1099511627776 < r.id) (hk : ¬ r.kind = 0) (hb : r = bareRc r) (hs0 : sizeB r.off = true) (hz : ¬ r.off = 0) (h7 : r.kind = 1) :
    Calls Tryd.prog 26 #[.agg (rcL r).toArray] w fun e w' => e = .returned (.int .i64 (chkE r)) ∧ Below w.heap.size w w' := by
  have HE := Aside0.mk (show chkE r = 0 by unfold chkE; rw [if_neg (fun h => h.elim h0 (fun h => h.elim h1 h2))]; rw [if_neg hk, if_pos hb]; unfold offE; rw [if_pos hs0, if_pos (.inr h7)])
  have hd5 : decide (r.off = 0) = false := decide_eq_false hz
  have hd5n : (r.off != 0) = true := bne_iff_ne.2 hz
  have hd8 : decide (r.kind = 1) = true := decide_eq_true h7
  have hd8n : (r.kind != 1) = false := by simp [h7]
  clear hz h7
  have hd7 : decide (r = ⟨r.kind, r.id, ByteArray.empty, Hs.zero, 0, r.off⟩) = true := decide_eq_true hb
  clear hb
  have hd : decide (4 < r.kind) = false := decide_eq_false h0
  have hd2 : decide (r.id < 0) = false := decide_eq_false h1
  have hd3 : decide (1099511627776 < r.id) = false := decide_eq_false h2
  clear h0 h1 h2
  have hd6 : decide (r.kind = 0) = false := decide_eq_false hk
  have hd6n : (r.kind != 0) = true := bne_iff_ne.2 hk
  clear hk
  have hs := sizeB_eq r.off
  rw [hs0] at hs
  have HS := Aside0.mk hs
  clear hs hs0
  go_enter Tryd.func26, Tryd.ntmps26
  go_wp2_with (first | (go_at_call 78; refine (record_size.calls r.off true _ HS.out).mono ?_; rintro e w4 ⟨rfl, ⟨n4, rfl⟩⟩))
  go_ret
  exact ⟨by rw [HE.out]; rfl, by (repeat' (first | exact Below.refl _ _ | (with_reducible refine below_setCell ?_ ?_ _) | (with_reducible refine below_setRow ?_ ?_ _) | (with_reducible refine Below.alloc ?_ ?_ _) | (with_reducible refine below_drew ?_) | (with_reducible refine pw_below_drewN ?_ _) | (with_reducible exact Below.refl _ _) | omega | (simp; done) | (simp; omega)))⟩
set_option linter.unusedVariables false in
set_option maxHeartbeats 4000000 in
set_option maxRecDepth 100000 in
theorem Check_n5 (r : Rc) (w : World) (h0 : ¬ 4 < r.kind) (h1 : ¬ r.id < 0) (h2 : ¬ 1099511627776 < r.id) (hk : ¬ r.kind = 0) (hb : r = bareRc r) (hs0 : sizeB r.off = true) (hz : r.off = 0) :
    Calls Tryd.prog 26 #[.agg (rcL r).toArray] w fun e w' => e = .returned (.int .i64 (chkE r)) ∧ Below w.heap.size w w' := by
  have HE := Aside0.mk (show chkE r = 0 by unfold chkE; rw [if_neg (fun h => h.elim h0 (fun h => h.elim h1 h2))]; rw [if_neg hk, if_pos hb]; unfold offE; rw [if_pos hs0, if_pos (.inl hz)])
  have hd5 : decide (r.off = 0) = true := decide_eq_true hz
  have hd5n : (r.off != 0) = false := by simp [hz]
  clear hz
  have hd7 : decide (r = ⟨r.kind, r.id, ByteArray.empty, Hs.zero, 0, r.off⟩) = true := decide_eq_true hb
  clear hb
  have hd : decide (4 < r.kind) = false := decide_eq_false h0
  have hd2 : decide (r.id < 0) = false := decide_eq_false h1
  have hd3 : decide (1099511627776 < r.id) = false := decide_eq_false h2
  clear h0 h1 h2
  have hd6 : decide (r.kind = 0) = false := decide_eq_false hk
  have hd6n : (r.kind != 0) = true := bne_iff_ne.2 hk
  clear hk
  have hs := sizeB_eq r.off
  rw [hs0] at hs
  have HS := Aside0.mk hs
  clear hs hs0
  go_enter Tryd.func26, Tryd.ntmps26
  go_wp2_with (first | (go_at_call 78; refine (record_size.calls r.off true _ HS.out).mono ?_; rintro e w4 ⟨rfl, ⟨n4, rfl⟩⟩))
  go_ret
  exact ⟨by rw [HE.out]; rfl, by (repeat' (first | exact Below.refl _ _ | (with_reducible refine below_setCell ?_ ?_ _) | (with_reducible refine below_setRow ?_ ?_ _) | (with_reducible refine Below.alloc ?_ ?_ _) | (with_reducible refine below_drew ?_) | (with_reducible refine pw_below_drewN ?_ _) | (with_reducible exact Below.refl _ _) | omega | (simp; done) | (simp; omega)))⟩
theorem Check_calls (r : Rc) (w : World) (hT : TabOK w) :
    Calls Tryd.prog 26 #[.agg (rcL r).toArray] w fun e w' => e = .returned (.int .i64 (chkE r)) ∧ Below w.heap.size w w' := by
  by_cases h0 : 4 < r.kind
  · exact Check_kind r w h0
  by_cases h1 : r.id < 0
  · exact Check_low r w h0 h1
  by_cases h2 : 1099511627776 < r.id
  · exact Check_high r w h0 h1 h2
  by_cases hk : r.kind = 0
  · by_cases hb : beginE r = 0
    · cases hs : sizeB r.off with
      | false => exact Check_b2 r w hT h0 h1 h2 hk hb hs
      | true =>
        by_cases hz : r.off = 0
        · exact Check_b4 r w hT h0 h1 h2 hk hb hs hz
        · exact Check_b3 r w hT h0 h1 h2 hk hb hs hz
    · exact Check_b1 r w hT h0 h1 h2 hk hb
  · by_cases hb : r = bareRc r
    · cases hs : sizeB r.off with
      | false => exact Check_n2 r w h0 h1 h2 hk hb hs
      | true =>
        by_cases hz : r.off = 0
        · exact Check_n5 r w h0 h1 h2 hk hb hs hz
        · by_cases h7 : r.kind = 1
          · exact Check_n4 r w h0 h1 h2 hk hb hs hz h7
          · exact Check_n3 r w h0 h1 h2 hk hb hs hz h7
    · exact Check_n1 r w h0 h1 h2 hk hb
end Go.Proofs.YtiohgpcbdefokaaDoor.B
/- Laws for the walk on rows of cells that are known whole (copy, clear, append in place, append of zeros), and what a call turns of one block alone. No condition. -/
namespace Go.Proofs.YtiohgpcbdefokaaDoor.RowLaws
open Go.RowKit
/-- What a call on what lies at block g leaves: all other blocks that were there are as they were. -/
abbrev Only (g : Nat) (w w' : World) : Prop := w.grownBy w' (some g)
theorem Only.refl (g : Nat) (w : World) : Only g w w := ⟨rfl, rfl, rfl, Nat.le_refl _, fun _ _ _ => rfl⟩
theorem Only.trans {g : Nat} {a b c : World} (h : Only g a b) (k : Only g b c) : Only g a c :=
  ⟨k.os.trans h.os, k.tape.trans h.tape, k.output.trans h.output, Nat.le_trans h.size k.size, fun i hi hn => (k.block i (Nat.lt_of_lt_of_le hi h.size) hn).trans (h.block i hi hn)⟩
theorem Only.of_below {g : Nat} {w w' : World} (h : Below w.heap.size w w') : Only g w w' := ⟨h.os, h.tape, h.output, h.size, fun i hi _ => h.block i hi⟩
theorem Only.below {g n : Nat} {w w' : World} (h : Only g w w') (hn : n ≤ g) (hs : n ≤ w.heap.size) : Below n w w' := ⟨h.os, h.tape, h.output, h.size, fun i hi => h.block i (by omega) (by intro e; injection e; omega)⟩
theorem Only.cell {g : Nat} {w w' : World} (h : Only g w w') {p : Addr} {v : Value} (hp : p.block ≠ g) (hv : w.cell? p = some v) : w'.cell? p = some v :=
  (World.cell?_of_block (h.block p.block (World.block_lt_of_cell? _ _ hv) (by intro e; injection e; exact hp ‹_›))).trans hv
theorem Only.frozen {g : Nat} {w w' : World} (h : Only g w w') {p : Addr} (hl : p.block < w.heap.size) (hp : p.block ≠ g) : w'.frozen? p = w.frozen? p :=
  World.frozen?_of_block (h.block p.block hl (by intro e; injection e; exact hp ‹_›))
theorem Only.setCell {g : Nat} {a w : World} (h : Only g a w) {p : Addr} (hp : p.block = g) (u : Value) : Only g a (w.setCell p u) :=
  h.trans ⟨rfl, rfl, rfl, by simp [World.setCell], fun k _ hn => Below.heap_setCell _ _ _ _ (by intro e; subst e; exact hn (by rw [hp]))⟩
theorem Only.setRow {g : Nat} {a w : World} (h : Only g a w) (cs : Array Value) : Only g a (w.setRow g cs) :=
  h.trans ⟨rfl, rfl, rfl, by simp [World.setRow], fun k _ hn => setRow_other w g k cs (by intro e; exact hn (by rw [e]))⟩
theorem Only.alloc {g : Nat} {a w : World} (h : Only g a w) (o : Obj) : Only g a (w.alloc o) := h.trans (Only.of_below ((Below.refl _ _).alloc (Nat.le_refl _) o))
theorem Only.drew {g : Nat} {a w : World} (h : Only g a w) : Only g a w.drew := h.trans ⟨rfl, rfl, rfl, Nat.le_refl _, fun _ _ _ => rfl⟩
theorem Only.step {g : Nat} {a b c : World} (h : Only g a b) (k : Below b.heap.size b c) : Only g a c := h.trans (Only.of_below k)
/-- a turn of what was made since is none of what was there -/
theorem Only.fresh {g : Nat} {a b c : World} (h : Below a.heap.size a b) (k : Only g b c) (hg : a.heap.size ≤ g) : Below a.heap.size a c :=
  h.trans (k.below hg h.size)

section
variable {P : Program} {w : World} {ops : Array Oper} {rest : List Oper} {o : Oper} {a : Act} {Q : Exit → Act → World → Prop}
theorem gate_stepb {K : Act → World → Prop} {E : Prop} {b : Builtin} {xs : Array Operand} {ts : Array TypeId} (_ho : o.op = .call { callee := .builtin b, args := xs, argTypes := ts }) (h : if Region.wanted o (yielded ops a.tmps) = true then Oper.wp P o a w K Q else E) : if Region.wanted o (yielded ops a.tmps) = true then Oper.wp P o a w K Q else E := h
theorem run_clear_rows (w : World) (t e ty : TypeId) (z : Value) (sz : Nat) (ht : P.underlying t = some (.slice e)) (hv : ∀ w, (zeroValue e).run P w = .ok z w) (hz : z.cells.size = sz) (h1 : ∀ u ∈ z.cells.toList, u.oneCell' = true) (g off n c : Nat) (hn : 0 < n)
    (cur : Array Value) (tt : TypeId) (hg : w.heap[g]? = some (.cells cur tt (0, 0))) (hfit : off + n * sz ≤ cur.size) :
    ∃ Z : List Value, Z.length = n * sz ∧ (Builtin.clear_ #[t] ty #[.slice (some ⟨g, off, none⟩) n c]).run P w = .ok (.tuple #[]) (w.setRow g (cur.toList.take off ++ Z ++ cur.toList.drop (off + Z.length)).toArray) := by
  have hzl : (Builtin.zeroCells z.cells n).toList.length = n * sz := by simp [Builtin.zeroCells, hz]
  have hst := run_storeCells_at P g off tt (Builtin.zeroCells z.cells n).toList 0 cur w hg (by simpa [hzl] using hfit) (by
    intro v hv'
    obtain ⟨i, hi, rfl⟩ := List.getElem_of_mem hv'
    have hi' : i < n * z.cells.size := by simpa [Builtin.zeroCells] using hi
    have hpos : 0 < z.cells.size := Nat.pos_of_ne_zero (fun h => by rw [h] at hi'; simp at hi')
    have hlt : i % z.cells.size < z.cells.size := Nat.mod_lt _ hpos
    have e : (Builtin.zeroCells z.cells n).toList[i] = z.cells.toList[i % z.cells.size]'(by simpa using hlt) := by
      simp [Builtin.zeroCells, hlt]
    rw [e]
    exact h1 _ (List.getElem_mem _))
  simp only [Nat.add_zero] at hst
  refine ⟨_, hzl, ?_⟩
  obtain ⟨m, rfl⟩ : ∃ m, n = m + 1 := ⟨n - 1, by omega⟩
  simp [Builtin.clear_, run_underlying ht, hv, hst]
theorem wpList_clear_rows (hgd : o.guard = none) (s : Operand) (t : TypeId)
    (ho : o.op = .call { callee := .builtin .clear, args := #[s], argTypes := #[t] }) (e : TypeId) (z : Value) (sz : Nat) (ht : P.underlying t = some (.slice e)) (hv : ∀ w, (zeroValue e).run P w = .ok z w) (hz : z.cells.size = sz) (h1 : ∀ u ∈ z.cells.toList, u.oneCell' = true)
    (sp : Option Addr) (n c : Nat) (hs : a.eval s = .slice sp n c) (g off : Nat) (cur : List Value) (tt : TypeId) (hg : w.heap[g]? = some (.cells cur.toArray tt (0, 0)))
    (hpos : 0 < n → sp = some ⟨g, off, none⟩) (hfit : off + n * sz ≤ cur.length)
    (h : ∀ w' Z, Z.length = n * sz → Hid (w'.heap[g]? = some (.cells (splice cur off Z).toArray tt (0, 0))) → Only g w w' → wpList P ops Q rest (a.put o.dst (.tuple #[])) w') :
    wpList P ops Q (o :: rest) a w := by
  refine wpList_plain hgd fun K hK => ?_
  by_cases h0 : n = 0
  · subst h0
    have hrun : (Builtin.clear_ #[t] o.type #[.slice sp 0 c]).run P w = .ok (.tuple #[]) w := by
      cases sp <;> simp [Builtin.clear_, run_underlying ht]
    unfold Oper.wp
    simp [execOp, ho, resolve, invoke, builtin, hs, hrun, Result.andThen]
    exact hK _ _ (h w [] (by simp) (show _ = _ by simpa [splice] using hg) (Only.refl _ _))
  · obtain rfl := hpos (by omega)
    obtain ⟨Z, hZ, hrun⟩ := run_clear_rows (P := P) w t e o.type z sz ht hv hz h1 g off n c (by omega) cur.toArray tt hg (by simpa using hfit)
    unfold Oper.wp
    simp [execOp, ho, resolve, invoke, builtin, hs, hrun, Result.andThen]
    exact hK _ _ (by simpa using h _ Z hZ (show _ = _ by simpa [splice] using setRow_heap w g _ _ tt _ hg) ((Only.refl _ _).setRow _))
end
/-- A region that draws: what only reads goes first, in the order of the text, in a world that is a variable. -/
theorem still_tail_at {P : Program} {id : Nat} {Q : Exit → Act → World → Prop} {a : Act} {w : World} {l : List Oper} (n : Nat) (hm : P.follows .mixedOrders = true) (hB : Region.lexTailB .any l.toArray n = true)
    (h : ∀ W, W = w.drew → wpStill P l.toArray W (fun a' => wpList P l.toArray Q (l.drop n) a' W) (l.take n) a) : (Code.region id l.toArray true).wp P Q a w :=
  wp_region_still_tail n hm hB (h _ rfl)
end Go.Proofs.YtiohgpcbdefokaaDoor.RowLaws
/- record.Put of a mark. No condition. -/
namespace Go.Proofs.YtiohgpcbdefokaaDoor.B
open Go.RowKit Go.Proofs.YtiohgpcbdefokaaDoorW.PrintWords Go.Proofs.YtiohgpcbdefokaaDoor.RowLaws
attribute [local go_sem ↓ high] lvO_hs ldO_hs stO_hs lvO_pt ldO_pt stO_pt zero_pt eqA_pt lvO_ptR ldO_ptR stO_ptR zero_ptR eqA_ptR lvO_rc ldO_rc stO_rc zero_rc eqA_rc lvO_rcR ldO_rcR stO_rcR zero_rcR eqA_rcR lvO_tk ldO_tk stO_tk zero_tk eqA_tk lvO_tkR ldO_tkR stO_tkR zero_tkR eqA_tkR lvO_it ldO_it stO_it zero_it eqA_it blO_pt blO_ptR blO_rc blO_rcR blO_tk blO_tkR blO_it bsO_pt bsO_ptR bsO_rc bsO_rcR bsO_it
attribute [local go_sem high] rowAt_setCell rowAt_setRow cell_setRow_ne isRow_setRow_ne rowAt_alloc rowAt_drew isRow_alloc isRow_drew isRow_setCell rowRun_some okL_hs ldV_hs ldA_hs stA_hs setRow_alloc get_pt_id get_pt_path cut_pt_sum get_pt_size get_pt_off cut_pt okL_pt size_pt lenb_pt eta_pt ldV_pt ldA_pt stA_pt ldV_ptR ldA_ptR stA_ptR get_rc_kind get_rc_id get_rc_path cut_rc_sum get_rc_size get_rc_off cut_rc okL_rc size_rc lenb_rc eta_rc ldV_rc ldA_rc stA_rc ldV_rcR ldA_rcR stA_rcR get_tk_path cut_tk_sum get_tk_size get_tk_off cut_tk_old cut_tk okL_tk size_tk lenb_tk eta_tk ldV_tk ldA_tk stA_tk ldV_tkR ldA_tkR stA_tkR get_it_path get_it_dir get_it_size cut_it_sum cut_it okL_it size_it lenb_it eta_it ldV_it ldA_it stA_it bld_pt_01234 bld_pt_0123 bld_pt_z bld_ptR_01234 bld_ptR_0123 bld_ptR_z bld_rc_012345 bld_rc_015 bld_rc_01 bld_rc_z bld_rc_01234 bld_rc_24 bld_rc_05 bld_rc_0 bld_rcR_012345 bld_rcR_015 bld_rcR_01 bld_rcR_z bld_rcR_01234 bld_rcR_24 bld_rcR_05 bld_rcR_0 bld_tk_01234 bld_tk_0 bld_tk_z bld_tkR_01234 bld_tkR_0 bld_tkR_z bld_it_0123 bld_it_023 bld_it_01 bld_it_0 bld_it_z bs0_pt bs1_pt bs0_ptR bs1_ptR bs0_rc bs1_rc bs0_rcR bs1_rcR bs0_it bs1_it
theorem lit1_R (W : World) (x : Int) (B : Nat) (hB : B ≤ W.heap.size) : Kd.R (Kd.int .u8) 5 (W.alloc (.cells #[.int .u8 x] 5)) B (fun _ => True) (.slice (some ⟨W.heap.size, 0, none⟩) 1 1) [x] :=
  Kd.R_of_own (h1 := fun _ => rfl) ⟨rfl, .inr ⟨W.heap.size, 1, #[.int .u8 x], rfl, hB, heap_alloc_new _ _, Nat.le_refl 1, by unfold maxLen; decide, rfl, rfl⟩⟩ (fun _ _ => trivial)
set_option linter.unusedVariables false in
set_option maxHeartbeats 4000000 in
set_option maxRecDepth 100000 in
theorem PutMark_calls (k : Nat) (r : Rc) (a b s t : List Int) (w : World) (hT : TabOK w) (hk : r.kind = 1) (hc : chkE r = 0) (ha : field_Num.f k r.id = some a) (hb : field_Num.f k r.off = some b) (hl : a.length + b.length ≤ 100)
    (hs : crc_Seal.f k (([1] ++ a) ++ b) = some s) (ht : field_Text.f k (strOfNums s) = some t) :
    Calls Tryd.prog 23 #[.agg (rcL r).toArray] w fun e w' => ∃ v : Value, e = .returned (.tuple #[v, .int .i64 0]) ∧ Kd.R (Kd.int .u8) 5 w' w.heap.size (fun _ => True) v t ∧ Below w.heap.size w w' := by
  obtain ⟨x1, hx1⟩ : ∃ x1, [1] ++ a = x1 := ⟨_, rfl⟩
  rw [hx1] at hs
  obtain ⟨x2, hx2⟩ : ∃ x2, x1 ++ b = x2 := ⟨_, rfl⟩
  rw [hx2] at hs
  have HX1 := Aside0.mk hx1
  have HX2 := Aside0.mk hx2
  have HLL := Aside0.mk (show x1.length + b.length ≤ 101 ∧ x2.length ≤ 101 by rw [← hx2, List.length_append, ← hx1, List.length_append, List.length_singleton]; omega)
  clear hx1 hx2
  have HT := Aside0.mk hT
  have HC := Aside0.mk hc
  have HA := Aside0.mk ha
  have HB := Aside0.mk hb
  have HS := Aside0.mk hs
  have HTX := Aside0.mk ht
  have HL := Aside0.mk hl
  clear hT hc ha hb hs ht hl
  go_enter Tryd.func23, Tryd.ntmps23
  go_wp2_with (first
    | (go_at_call 26; refine (Check_calls r _ (HT.out.below ?_)).mono ?_; (exact below_alloc (Below.refl _ _) _); rintro e w2 ⟨rfl, hb2⟩; rw [HC.out]; obtain ⟨hcl, hfz⟩ := bcell0 hb2; have c0 : w2.cell? ⟨w.heap.size, 0, none⟩ = some (.int .u8 r.kind) := (by rw [hcl _ _ (by simp)]; first | (go_simp; done) | (simp [*]; done)); have c1 : w2.cell? ⟨w.heap.size, 1, none⟩ = some (.int .i64 r.id) := (by rw [hcl _ _ (by simp)]; first | (go_simp; done) | (simp [*]; done)); have c5 : w2.cell? ⟨w.heap.size, 36, none⟩ = some (.int .i64 r.off) := (by rw [hcl _ _ (by simp)]; first | (go_simp; done) | (simp [*]; done)); have HB2 := Aside0.mk (Below.trans (below_alloc (Below.refl w.heap.size w) _) (hb2.mono (by simp))); have HS2 := Aside0.mk (show w.heap.size + 1 ≤ w2.heap.size from by have h_ := hb2.size; simpa using h_); clear hb2 hcl hfz))
  go_region_held3 (fun w' => w'.cell? ⟨w.heap.size, 0, none⟩ = some (.int .u8 r.kind) ∧ w'.cell? ⟨w.heap.size, 1, none⟩ = some (.int .i64 r.id)) (first | go_keep)
    (first
      | (go_at_call 54; refine (field_Num.calls k r.id a _ HA.out).mono ?_; rintro e w4 ⟨v4, rfl, ho4, hb4⟩; obtain ⟨A4, n4, rfl⟩ := Kd.R_slice ho4;
          (first
            | have HX := Aside0.mk (And.intro (show Below (w.heap.size + 1) w2 w4 from Below.trans (below_drew (Below.alloc (Below.refl _ _) HS2.out _)) (hb4.mono (by have := HS2.out; simp; omega))) (Kd.R_below (Kd.R_drew (lit1_R w2 1 (w.heap.size + 1) HS2.out)) hb4))
            | have HX := Aside0.mk (And.intro (show Below (w.heap.size + 1) w2 w4 from Below.trans (below_drew (Below.refl _ _)) (hb4.mono (by have := HS2.out; simp; omega))) True.intro));
          have HO4 := Aside0.mk (Kd.R_lower (base' := w.heap.size + 1) ho4 (by have := HS2.out; simp; omega));
          have c40 : w4.cell? ⟨w.heap.size, 0, none⟩ = some (.int .u8 r.kind) := (HX.out.1.cell (p := ⟨w.heap.size, 0, none⟩) (by simp)).trans c0;
          have c41 : w4.cell? ⟨w.heap.size, 1, none⟩ = some (.int .i64 r.id) := (HX.out.1.cell (p := ⟨w.heap.size, 1, none⟩) (by simp)).trans c1;
          clear ho4 hb4)
      | ((with_reducible refine gate_stepb (b := .append) (xs := #[.tmp 13, .tmp 16]) rfl ?_);
          refine Kd.R_append_rows_step (Kd.int .u8) (w0 := w2) (w.heap.size + 1) rfl (.tmp 13) (.tmp 16) 22 5 (.int .u8 0) 1 rfl Tryd.underlying22 info5 rfl (by decide) (by decide) _ [1] a A4 a.length n4 (fun _ => True) (fun _ => False) rfl rfl ?aO ?aR (fun _ _ h => h) (fun _ h => h.elim) (fun _ _ => trivial) ?aB ?aS ?aL ?_;
          (case aO => first | exact HX.out.2 | exact lit1_R w4 1 (w.heap.size + 1) (by have h_ := HX.out.1.size; have := HS2.out; omega));
          (case aR => first | exact (Kd.R_reads' HO4.out).2.2 | exact Kd.C_below (Kd.R_reads' HO4.out).2.2 (below_alloc (Below.refl _ _) _));
          (case aB => first | exact HX.out.1 | exact Below.alloc HX.out.1 (by have h_ := HX.out.1.size; have := HS2.out; omega) _);
          (case aS => have h_ := HX.out.1.size; have := HS2.out; simp; omega);
          (case aL => have := HL.out; simp; omega);
          intro v5 w5 ho5 hb5 hg5 hat5;
          rw [HX1.out] at ho5;
          have HO5 := Aside0.mk ho5;
          have HB5 := Aside0.mk hb5;
          have c50 : w5.cell? ⟨w.heap.size, 0, none⟩ = some (.int .u8 r.kind) := (hb5.cell (p := ⟨w.heap.size, 0, none⟩) (by simp)).trans c0;
          have c51 : w5.cell? ⟨w.heap.size, 1, none⟩ = some (.int .i64 r.id) := (hb5.cell (p := ⟨w.heap.size, 1, none⟩) (by simp)).trans c1;
          have c55 : w5.cell? ⟨w.heap.size, 36, none⟩ = some (.int .i64 r.off) := (hb5.cell (p := ⟨w.heap.size, 36, none⟩) (by simp)).trans c5;
          clear ho5 hb5 hg5 hat5))
  all_goals
    obtain ⟨A5, n5, rfl⟩ := Kd.R_slice HO5.out
    go_wp2_with (first
      | (go_at_call 54; refine (field_Num.calls k r.off b _ HB.out).mono ?_; rintro e w6 ⟨v6, rfl, ho6, hb6⟩; obtain ⟨A6, n6, rfl⟩ := Kd.R_slice ho6;
          have HB6 := Aside0.mk (show Below (w.heap.size + 1) w2 w6 from Below.trans HB5.out (hb6.mono (by have h_ := HB5.out.size; have := HS2.out; omega)));
          have HO6 := Aside0.mk (Kd.R_lower (base' := w.heap.size + 1) ho6 (by have h_ := HB5.out.size; have := HS2.out; omega));
          have HO56 := Aside0.mk (Kd.R_below HO5.out hb6);
          clear ho6 hb6)
      | ((with_reducible refine gate_builtin (b := .append) (xs := #[.tmp 36, .tmp 39]) rfl ?_); at_builtin;
          refine Kd.R_append_rows (Kd.int .u8) (w0 := w2) (w.heap.size + 1) rfl (.tmp 36) (.tmp 39) 22 5 (.int .u8 0) 1 rfl Tryd.underlying22 info5 rfl (by decide) (by decide) (.slice A5 x1.length n5) x1 b A6 b.length n6 (fun _ => True) (fun _ => False) rfl rfl ?aO ?aR (fun _ _ h => h) (fun _ h => h.elim) (fun _ _ => trivial) ?aB ?aS ?aL ?_;
          (case aO => exact HO56.out);
          (case aR => exact (Kd.R_reads' HO6.out).2.2);
          (case aB => exact HB6.out);
          (case aS => have h_ := HB6.out.size; have := HS2.out; omega);
          (case aL => have := HLL.out; omega);
          intro v7 w7 ho7 hb7 hg7 hat7;
          rw [HX2.out] at ho7;
          obtain ⟨A7, n7, rfl⟩ := Kd.R_slice ho7;
          have HO7 := Aside0.mk ho7;
          have HB7 := Aside0.mk hb7;
          clear ho7 hb7 hg7 hat7)
      | (go_at_call 72; refine (crc_Seal.calls k A7 n7 x2 s _ (Kd.R_reads' HO7.out).2.2 (Kd.R_reads' HO7.out).2.1 (HT.out.below (Below.trans HB2.out (HB7.out.mono (by omega)))) HS.out).mono ?_; rintro e w8 ⟨v8, rfl, ho8, hb8⟩; obtain ⟨A8, n8, rfl⟩ := Kd.R_slice ho8;
          have HB8 := Aside0.mk (show Below (w.heap.size + 1) w2 w8 from Below.trans HB7.out (hb8.mono (by have h_ := HB7.out.size; have := HS2.out; omega)));
          have hcv := Kd.C_string (P := Tryd.prog) (src := 22) (dst := 9) (c := n8) Tryd.underlying22 Tryd.underlying5 Tryd.underlying9 (Kd.R_reads' ho8).2.2;
          clear ho8 hb8)
      | (go_at_call 53; refine (field_Text.calls k (strOfNums s) t _ HTX.out).mono ?_; rintro e w9 ⟨v9, rfl, ho9, hb9⟩; obtain ⟨A9, n9, rfl⟩ := Kd.R_slice ho9;
          have HO9 := Aside0.mk (Kd.R_lower (base' := w.heap.size) ho9 (by have h_ := HB8.out.size; have := HS2.out; omega));
          have HB9 := Aside0.mk (show Below w.heap.size w w9 from Below.trans HB2.out ((Below.trans HB8.out (hb9.mono (by have h_ := HB8.out.size; have := HS2.out; omega))).mono (by omega)));
          clear ho9 hb9))
    go_ret2
    exact ⟨_, rfl, HO9.out, HB9.out⟩
end Go.Proofs.YtiohgpcbdefokaaDoor.B
/- record.Put at kinds that are neither Begin nor Mark. No condition. -/
namespace Go.Proofs.YtiohgpcbdefokaaDoor.B
open Go.RowKit Go.Proofs.YtiohgpcbdefokaaDoorW.PrintWords Go.Proofs.YtiohgpcbdefokaaDoor.RowLaws
attribute [local go_sem ↓ high] lvO_hs ldO_hs stO_hs lvO_pt ldO_pt stO_pt zero_pt eqA_pt lvO_ptR ldO_ptR stO_ptR zero_ptR eqA_ptR lvO_rc ldO_rc stO_rc zero_rc eqA_rc lvO_rcR ldO_rcR stO_rcR zero_rcR eqA_rcR lvO_tk ldO_tk stO_tk zero_tk eqA_tk lvO_tkR ldO_tkR stO_tkR zero_tkR eqA_tkR lvO_it ldO_it stO_it zero_it eqA_it blO_pt blO_ptR blO_rc blO_rcR blO_tk blO_tkR blO_it bsO_pt bsO_ptR bsO_rc bsO_rcR bsO_it
attribute [local go_sem high] rowAt_setCell rowAt_setRow cell_setRow_ne isRow_setRow_ne rowAt_alloc rowAt_drew isRow_alloc isRow_drew isRow_setCell rowRun_some okL_hs ldV_hs ldA_hs stA_hs setRow_alloc get_pt_id get_pt_path cut_pt_sum get_pt_size get_pt_off cut_pt okL_pt size_pt lenb_pt eta_pt ldV_pt ldA_pt stA_pt ldV_ptR ldA_ptR stA_ptR get_rc_kind get_rc_id get_rc_path cut_rc_sum get_rc_size get_rc_off cut_rc okL_rc size_rc lenb_rc eta_rc ldV_rc ldA_rc stA_rc ldV_rcR ldA_rcR stA_rcR get_tk_path cut_tk_sum get_tk_size get_tk_off cut_tk_old cut_tk okL_tk size_tk lenb_tk eta_tk ldV_tk ldA_tk stA_tk ldV_tkR ldA_tkR stA_tkR get_it_path get_it_dir get_it_size cut_it_sum cut_it okL_it size_it lenb_it eta_it ldV_it ldA_it stA_it bld_pt_01234 bld_pt_0123 bld_pt_z bld_ptR_01234 bld_ptR_0123 bld_ptR_z bld_rc_012345 bld_rc_015 bld_rc_01 bld_rc_z bld_rc_01234 bld_rc_24 bld_rc_05 bld_rc_0 bld_rcR_012345 bld_rcR_015 bld_rcR_01 bld_rcR_z bld_rcR_01234 bld_rcR_24 bld_rcR_05 bld_rcR_0 bld_tk_01234 bld_tk_0 bld_tk_z bld_tkR_01234 bld_tkR_0 bld_tkR_z bld_it_0123 bld_it_023 bld_it_01 bld_it_0 bld_it_z bs0_pt bs1_pt bs0_ptR bs1_ptR bs0_rc bs1_rc bs0_rcR bs1_rcR bs0_it bs1_it
set_option linter.unusedVariables false in
set_option maxHeartbeats 4000000 in
set_option maxRecDepth 100000 in
theorem PutBare_calls (k : Nat) (r : Rc) (a s t : List Int) (w : World) (hT : TabOK w) (hk : ¬ r.kind = 0) (hk1 : ¬ r.kind = 1) (hc : chkE r = 0) (ha : field_Num.f k r.id = some a) (hl : a.length ≤ 100)
    (hs : crc_Seal.f k ([r.kind] ++ a) = some s) (ht : field_Text.f k (strOfNums s) = some t) :
    Calls Tryd.prog 23 #[.agg (rcL r).toArray] w fun e w' => ∃ v : Value, e = .returned (.tuple #[v, .int .i64 0]) ∧ Kd.R (Kd.int .u8) 5 w' w.heap.size (fun _ => True) v t ∧ Below w.heap.size w w' := by
  obtain ⟨x1, hx1⟩ : ∃ x1, [r.kind] ++ a = x1 := ⟨_, rfl⟩
  rw [hx1] at hs
  have HX1 := Aside0.mk hx1
  have HLL := Aside0.mk (show x1.length ≤ 101 by rw [← hx1, List.length_append, List.length_singleton]; omega)
  have hz0 : decide (r.kind = 0) = false := decide_eq_false hk
  have hz1 : decide (r.kind = 1) = false := decide_eq_false hk1
  have hy0 : (r.kind == 0) = false := by simp [hk]
  have hy1 : (r.kind == 1) = false := by simp [hk1]
  clear hx1 hk hk1
  have HT := Aside0.mk hT
  have HC := Aside0.mk hc
  have HA := Aside0.mk ha
  have HS := Aside0.mk hs
  have HTX := Aside0.mk ht
  have HL := Aside0.mk hl
  clear hT hc ha hs ht hl
  go_enter Tryd.func23, Tryd.ntmps23
  go_wp2_with (first
    | (go_at_call 26; refine (Check_calls r _ (HT.out.below ?_)).mono ?_; (exact below_alloc (Below.refl _ _) _); rintro e w2 ⟨rfl, hb2⟩; rw [HC.out]; obtain ⟨hcl, hfz⟩ := bcell0 hb2; have c0 : w2.cell? ⟨w.heap.size, 0, none⟩ = some (.int .u8 r.kind) := (by rw [hcl _ _ (by simp)]; first | (go_simp; done) | (simp [*]; done)); have c1 : w2.cell? ⟨w.heap.size, 1, none⟩ = some (.int .i64 r.id) := (by rw [hcl _ _ (by simp)]; first | (go_simp; done) | (simp [*]; done)); have c5 : w2.cell? ⟨w.heap.size, 36, none⟩ = some (.int .i64 r.off) := (by rw [hcl _ _ (by simp)]; first | (go_simp; done) | (simp [*]; done)); have HB2 := Aside0.mk (Below.trans (below_alloc (Below.refl w.heap.size w) _) (hb2.mono (by simp))); have HS2 := Aside0.mk (show w.heap.size + 1 ≤ w2.heap.size from by have h_ := hb2.size; simpa using h_); clear hb2 hcl hfz))
  go_region_held3 (fun w' => w'.cell? ⟨w.heap.size, 0, none⟩ = some (.int .u8 r.kind) ∧ w'.cell? ⟨w.heap.size, 1, none⟩ = some (.int .i64 r.id)) (first | go_keep)
    (first
      | (go_at_call 54; refine (field_Num.calls k r.id a _ HA.out).mono ?_; rintro e w4 ⟨v4, rfl, ho4, hb4⟩; obtain ⟨A4, n4, rfl⟩ := Kd.R_slice ho4;
          (first
            | have HX := Aside0.mk (And.intro (show Below (w.heap.size + 1) w2 w4 from Below.trans (below_drew (Below.alloc (Below.refl _ _) HS2.out _)) (hb4.mono (by have := HS2.out; simp; omega))) (Kd.R_below (Kd.R_drew (lit1_R w2 r.kind (w.heap.size + 1) HS2.out)) hb4))
            | have HX := Aside0.mk (And.intro (show Below (w.heap.size + 1) w2 w4 from Below.trans (below_drew (Below.refl _ _)) (hb4.mono (by have := HS2.out; simp; omega))) True.intro));
          have HO4 := Aside0.mk (Kd.R_lower (base' := w.heap.size + 1) ho4 (by have := HS2.out; simp; omega));
          have c40 : w4.cell? ⟨w.heap.size, 0, none⟩ = some (.int .u8 r.kind) := (HX.out.1.cell (p := ⟨w.heap.size, 0, none⟩) (by simp)).trans c0;
          have c41 : w4.cell? ⟨w.heap.size, 1, none⟩ = some (.int .i64 r.id) := (HX.out.1.cell (p := ⟨w.heap.size, 1, none⟩) (by simp)).trans c1;
          clear ho4 hb4)
      | ((with_reducible refine gate_stepb (b := .append) (xs := #[.tmp 13, .tmp 16]) rfl ?_);
          refine Kd.R_append_rows_step (Kd.int .u8) (w0 := w2) (w.heap.size + 1) rfl (.tmp 13) (.tmp 16) 22 5 (.int .u8 0) 1 rfl Tryd.underlying22 info5 rfl (by decide) (by decide) _ [r.kind] a A4 a.length n4 (fun _ => True) (fun _ => False) rfl rfl ?aO ?aR (fun _ _ h => h) (fun _ h => h.elim) (fun _ _ => trivial) ?aB ?aS ?aL ?_;
          (case aO => first | exact HX.out.2 | exact lit1_R w4 r.kind (w.heap.size + 1) (by have h_ := HX.out.1.size; have := HS2.out; omega));
          (case aR => first | exact (Kd.R_reads' HO4.out).2.2 | exact Kd.C_below (Kd.R_reads' HO4.out).2.2 (below_alloc (Below.refl _ _) _));
          (case aB => first | exact HX.out.1 | exact Below.alloc HX.out.1 (by have h_ := HX.out.1.size; have := HS2.out; omega) _);
          (case aS => have h_ := HX.out.1.size; have := HS2.out; simp; omega);
          (case aL => have := HL.out; simp; omega);
          intro v5 w5 ho5 hb5 hg5 hat5;
          rw [HX1.out] at ho5;
          have HO5 := Aside0.mk ho5;
          have HB5 := Aside0.mk hb5;
          have c50 : w5.cell? ⟨w.heap.size, 0, none⟩ = some (.int .u8 r.kind) := (hb5.cell (p := ⟨w.heap.size, 0, none⟩) (by simp)).trans c0;
          have c51 : w5.cell? ⟨w.heap.size, 1, none⟩ = some (.int .i64 r.id) := (hb5.cell (p := ⟨w.heap.size, 1, none⟩) (by simp)).trans c1;
          have c55 : w5.cell? ⟨w.heap.size, 36, none⟩ = some (.int .i64 r.off) := (hb5.cell (p := ⟨w.heap.size, 36, none⟩) (by simp)).trans c5;
          clear ho5 hb5 hg5 hat5))
  all_goals
    obtain ⟨A5, n5, rfl⟩ := Kd.R_slice HO5.out
    go_wp2_with (first
      | (go_at_call 72; refine (crc_Seal.calls k A5 n5 x1 s _ (Kd.R_reads' HO5.out).2.2 (Kd.R_reads' HO5.out).2.1 (HT.out.below (Below.trans HB2.out (HB5.out.mono (by omega)))) HS.out).mono ?_; rintro e w8 ⟨v8, rfl, ho8, hb8⟩; obtain ⟨A8, n8, rfl⟩ := Kd.R_slice ho8;
          have HB8 := Aside0.mk (show Below (w.heap.size + 1) w2 w8 from Below.trans HB5.out (hb8.mono (by have h_ := HB5.out.size; have := HS2.out; omega)));
          have hcv := Kd.C_string (P := Tryd.prog) (src := 22) (dst := 9) (c := n8) Tryd.underlying22 Tryd.underlying5 Tryd.underlying9 (Kd.R_reads' ho8).2.2;
          clear ho8 hb8)
      | (go_at_call 53; refine (field_Text.calls k (strOfNums s) t _ HTX.out).mono ?_; rintro e w9 ⟨v9, rfl, ho9, hb9⟩; obtain ⟨A9, n9, rfl⟩ := Kd.R_slice ho9;
          have HO9 := Aside0.mk (Kd.R_lower (base' := w.heap.size) ho9 (by have h_ := HB8.out.size; have := HS2.out; omega));
          have HB9 := Aside0.mk (show Below w.heap.size w w9 from Below.trans HB2.out ((Below.trans HB8.out (hb9.mono (by have h_ := HB8.out.size; have := HS2.out; omega))).mono (by omega)));
          clear ho9 hb9))
    go_ret2
    exact ⟨_, rfl, HO9.out, HB9.out⟩
end Go.Proofs.YtiohgpcbdefokaaDoor.B
/- slices.Grow of a nil slice of bytes. No condition. -/
namespace Go.Proofs.YtiohgpcbdefokaaDoor.B
open Go.RowKit Go.Shelf Go.Proofs.YtiohgpcbdefokaaDoorW.PrintWords Go.Proofs.YtiohgpcbdefokaaDoorW.PrintLast Go.Proofs.YtiohgpcbdefokaaDoorW.PrintMore Go.Proofs.YtiohgpcbdefokaaDoor.RowLaws
attribute [local go_sem] Oper.semAt_some
theorem wpList_zeros_nil {P : Program} {Q : Exit → Act → World → Prop} {a : Act} {w : World} {ops : Array Oper} {rest : List Oper} {o : Oper} (hgd : o.guard = none) (s x : Operand) (t tn : TypeId)
    (ho : o.op = .call { callee := .builtin .append, args := #[s, x], argTypes := #[t, tn] }) (e : TypeId) (i : TypeInfo) (z : Value) (sz : Nat) (kn : IntKind) (ht : P.underlying t = some (.slice e)) (htn : P.underlying tn = some (.int kn)) (hi : P.info? e = some i) (hz : i.zero = some z) (hsz : i.size = sz) (hzs : z.cells.size = sz)
    (hs : a.eval s = .slice none 0 0) (kq : IntKind) (k : Nat) (hx : a.eval x = .int kq k) (h0 : 0 < k) (hs0 : 0 < sz) (h63 : ((0 + k : Nat) : Int) ≤ 9223372036854775807) (h48 : k * i.bytes ≤ 281474976710656) (hfit : Builtin.nextslicecap (0 + k) 0 * i.bytes ≤ 281474976710656)
    (h : ∀ cap cur, k ≤ cap → cap ≤ maxLen → cur.size = cap * sz → wpList P ops Q rest (a.put o.dst (.slice (some ⟨w.heap.size, 0, none⟩) k cap)) (w.drew.alloc (.cells cur e))) :
    wpList P ops Q (o :: rest) a w := by
  refine wpList_plain hgd fun K hK => ?_
  have hf : (Builtin.firstCells i.size 0 (.slice none 0 0)).run P w.drew = .ok ([] : List Value).toArray w.drew := by simp [Builtin.firstCells]
  have hrun := Lib.run_append_grow_zeros (P := P) w t tn o.type e i z kq kn ht htn hi hz none 0 0 [] hf k h0 (by omega) (by omega) h63 h48 hfit
  unfold Oper.wp
  simp [execOp, ho, resolve, invoke, builtin, hs, hx, hrun, Result.andThen]
  have hge := grownCap_ge w (0 + k) 0 e
  have hle := grownCap_le_maxLen w (0 + k) 0 e (by unfold maxLen; omega)
  have h2 := h (grownCap w (0 + k) 0 e) (Builtin.zeroCells z.cells k ++ Builtin.zeroCells z.cells (grownCap w (0 + k) 0 e - (0 + k))) (by omega) hle (by
    simp only [Array.size_append, size_zeroCells, hzs, ← Nat.add_mul]
    congr 1; omega)
  refine hK _ _ ?_
  simpa using h2
theorem info5g : (Tryd.prog.info? 5).map (fun i => (i.zero, i.size, i.bytes)) = some (some (.int .u8 0), 1, 1) := by kernel_rfl
set_option maxRecDepth 100000 in
set_option maxHeartbeats 4000000 in
theorem Grow_nil (n : Nat) (hn : n ≤ 1000000) (w : World) :
    Calls Tryd.prog 134 #[.slice none 0 0, .int .i64 (n : Int)] w fun e w' => ∃ v, e = .returned v ∧ w'.ownsRow w.heap.size 5 1 v 0 [] ∧ Below w.heap.size w w' := by
  have e0 : (0 : Int) ≤ (n : Int) := by omega
  have e1 : IntKind.i64.wrap (n : Int) = (n : Int) := IntWalk.i64_in _ (by omega)
  obtain ⟨i0, hi0, hz0, hz1, hz2⟩ := info_parts info5g
  by_cases h0 : 0 < n
  · have e2 : (0 : Int) < (n : Int) := by omega
    go_enter Tryd.func134, Tryd.ntmps134
    go_wp2_with ((with_reducible refine gate_builtin (b := .append) (xs := #[.tmp 20, .tmp 21]) rfl ?_); refine wpList_zeros_nil rfl (.tmp 20) (.tmp 21) 22 3 rfl 5 i0 (.int .u8 0) 1 .i64 Tryd.underlying22 Tryd.underlying3 hi0 hz0 hz1 rfl rfl .i64 n rfl h0 (by decide) (by omega) (by rw [hz2]; omega) (by rw [hz2]; exact growslice_fits (by omega) (by omega)) ?_; intro cap cur hc1 hc2 hc3)
    go_ret
    exact ⟨_, rfl, (World.ownsRow_made w cur cap (Nat.le_refl _) hc2 hc3).drew, below_drew (below_alloc (Below.refl _ _) _)⟩
  · have hz : n = 0 := by omega
    subst hz
    go_enter Tryd.func134, Tryd.ntmps134
    go_wp2
    go_ret
    exact ⟨_, rfl, World.ownsRow_nil _ _ _ _, Below.refl _ _⟩
#print axioms Grow_nil
end Go.Proofs.YtiohgpcbdefokaaDoor.B
/- slices.Concat of rows of bytes, field.Join. No condition. -/
namespace Go.Proofs.YtiohgpcbdefokaaDoor.B
open Go.RowKit Go.Shelf Go.Proofs.YtiohgpcbdefokaaDoorW.PrintWords Go.Proofs.YtiohgpcbdefokaaDoorW.PrintLast Go.Proofs.YtiohgpcbdefokaaDoorW.PrintMore Go.Proofs.YtiohgpcbdefokaaDoor.RowLaws
attribute [local go_sem] Oper.semAt_some
def RowsAt (W : World) (p : Nat) (rows : List (List Int)) : Prop := ∀ i (h : i < rows.length), ∃ A c, W.cell? ⟨p, i, none⟩ = some (.slice A rows[i].length c) ∧ rows[i].length ≤ c ∧ Kd.C (Kd.int .u8) W A rows[i].length rows[i]
def total : List (List Int) → Nat
  | [] => 0
  | x :: r => x.length + total r
theorem total_append : ∀ (a b : List (List Int)), total (a ++ b) = total a + total b
  | [], b => by simp [total]
  | x :: r, b => by simp [total, total_append r b]; omega
theorem total_take (rows : List (List Int)) (k : Nat) (h : k < rows.length) : total (rows.take (k + 1)) = total (rows.take k) + rows[k].length := by
  rw [List.take_succ_eq_append_getElem h, total_append]; simp [total]
theorem total_le (rows : List (List Int)) (k : Nat) : total (rows.take k) ≤ total rows := by
  conv => rhs; rw [← List.take_append_drop k rows, total_append]
  omega
theorem total_flat : ∀ (rows : List (List Int)), rows.flatten.length = total rows
  | [] => rfl
  | x :: r => by simp only [List.flatten_cons, List.length_append, total, total_flat r]
theorem R_of_empty {W : World} {B : Nat} {v : Value} (h : W.ownsRow B 5 1 v 0 []) : Kd.R (Kd.int .u8) 5 W B (fun _ => True) v [] :=
  ⟨fun _ _ => trivial, ⟨[], h, ⟨rfl, fun i x hx => by simp at hx⟩⟩⟩
set_option maxRecDepth 100000 in
set_option maxHeartbeats 4000000 in
theorem Concat_calls (p m cc : Nat) (rows : List (List Int)) (w : World) (hm : rows.length = m) (hm2 : m ≤ 1000) (hr : RowsAt w p rows) (hs : total rows ≤ 1000000) :
    Calls Tryd.prog 101 #[.slice (some ⟨p, 0, none⟩) m cc] w fun e w' => ∃ v, e = .returned v ∧ Kd.R (Kd.int .u8) 5 w' w.heap.size (fun _ => True) v rows.flatten ∧ Below w.heap.size w w' := by
  have HR := Aside0.mk hr
  have HS := Aside0.mk hs
  have HM := Aside0.mk hm
  have em : (m : Int) ≤ 1000 := by omega
  clear hr hs
  go_enter Tryd.func101, Tryd.ntmps101
  go_wp2
  go_loopw [3, 11] (fun n i wr => ∃ k : Nat, k ≤ m ∧ i = .int .i64 k ∧ n = .int .i64 (total (rows.take k) : Nat) ∧ Aside0 (Below w.heap.size w wr)) (fun _ i _ => m - (intOf i).toNat)
  case atStart => exact ⟨0, Nat.zero_le _, rfl, rfl, ⟨Below.refl _ _⟩⟩
  case round =>
    obtain ⟨k, hk, rfl, rfl, HW⟩ := hrel
    by_cases hlt : k < m
    · obtain ⟨A, c, h1, h2, h3⟩ := HR.out k (by omega)
      have hc := (HW.out.cell (World.block_lt_of_cell? _ _ h1)).trans h1
      have h4 := total_take rows k (by omega)
      have h5 := total_le rows (k + 1)
      obtain ⟨S, hS⟩ : ∃ S, total (rows.take k) = S := ⟨_, rfl⟩
      obtain ⟨L, hL⟩ : ∃ L, rows[k].length = L := ⟨_, rfl⟩
      rw [hS]
      rw [hL] at hc
      rw [hS, hL] at h4
      have hS5 : S + L ≤ 1000000 := by have := HS.out; omega
      have hw1 : IntKind.i64.wrap ((S : Int) + (L : Int)) = (S : Int) + (L : Int) := IntWalk.i64_in _ (by omega)
      have H4 := Aside0.mk h4
      clear h1 h2 h3 h4 h5 hS hL
      go_wp2
      go_roundw
      case rel => exact ⟨k + 1, by omega, by simp, by rw [H4.out]; simp, HW⟩
      case measure => simp [intOf]; omega
    · have hk2 : k = m := by omega
      subst hk2
      have HT := Aside0.mk (show rows.take k = rows from List.take_of_length_le (by omega))
      rw [HT.out]
      go_wp2_with (go_at_call 134; refine (Grow_nil (total rows) HS.out wr).mono ?_; rintro e w2 ⟨v, rfl, ho, hb⟩; have HO := Aside0.mk (Kd.R_lower (R_of_empty ho) HW.out.size); have HB := Aside0.mk (below_step HW.out hb); clear ho hb)
      go_loopw [6, 27] (fun v i wr => ∃ j : Nat, j ≤ k ∧ i = .int .i64 j ∧ Aside0 (Kd.R (Kd.int .u8) 5 wr w.heap.size (fun _ => True) v (rows.take j).flatten) ∧ Aside0 (Below w.heap.size w wr)) (fun _ i _ => k - (intOf i).toNat)
      case atStart => exact ⟨0, Nat.zero_le _, rfl, HO, HB⟩
      case round =>
        obtain ⟨j, hj, rfl, HO2, HW2⟩ := hrel
        by_cases hlt2 : j < k
        · obtain ⟨A, c, h1, h2, h3⟩ := HR.out j (by omega)
          have hc := (HW2.out.cell (World.block_lt_of_cell? _ _ h1)).trans h1
          have H3 := Aside0.mk (Kd.C_below h3 HW2.out)
          have h4 := total_take rows j (by omega)
          have h5 := total_le rows (j + 1)
          have h6 := total_flat (rows.take j)
          have HFL := Aside0.mk (show (rows.take j).flatten.length + rows[j].length ≤ 1000000 by have := HS.out; omega)
          have HFT := Aside0.mk (show (rows.take (j + 1)).flatten = (rows.take j).flatten ++ rows[j] by rw [List.take_succ_eq_append_getElem (show j < rows.length by omega), List.flatten_append, List.flatten_cons, List.flatten_nil, List.append_nil])
          clear h1 h2 h3 h4 h5 h6
          go_wp2_with ((with_reducible refine gate_builtin (b := .append) (xs := #[.tmp 31, .tmp 32]) rfl ?_); at_builtin; refine Kd.R_append_rows (Kd.int .u8) (w0 := w) w.heap.size rfl (.tmp 31) (.tmp 32) 22 5 (.int .u8 0) 1 rfl Tryd.underlying22 info5 rfl (by decide) (by omega) _ (rows.take j).flatten rows[j] _ _ _ (fun _ => True) (fun _ => False) rfl rfl ?aO ?aR (fun _ _ h => h) (fun _ h => h.elim) ?aF ?aB ?aS ?aL ?_; (case aR => exact H3.out); (case aB => exact HW2.out); (case aF => exact (fun _ _ => trivial)); (case aO => exact HO2.out); (case aS => exact HW2.out.size); (case aL => have := HFL.out; omega); intro v3 w3 ho hb hg hat; have HB3 := Aside0.mk hb; have HO3 := Aside0.mk ho; clear ho hb hg hat)
          go_roundw
          case rel => exact ⟨j + 1, by omega, by simp, ⟨by rw [HFT.out]; exact HO3.out⟩, HB3⟩
          case measure => simp [intOf]; omega
        · have hj2 : j = k := by omega
          subst hj2
          rw [HT.out] at HO2
          go_wp2
          go_ret
          exact ⟨_, rfl, HO2.out, HW2.out⟩
#print axioms Concat_calls
theorem Join_calls (p m cc : Nat) (rows : List (List Int)) (w : World) (hm : rows.length = m) (hm2 : m ≤ 1000) (hr : RowsAt w p rows) (hs : total rows ≤ 1000000) :
    Calls Tryd.prog 52 #[.slice (some ⟨p, 0, none⟩) m cc] w fun e w' => ∃ v, e = .returned v ∧ Kd.R (Kd.int .u8) 5 w' w.heap.size (fun _ => True) v rows.flatten ∧ Below w.heap.size w w' := by
  have HC := Aside0.mk (Concat_calls p m cc rows w hm hm2 hr hs)
  go_enter Tryd.func52, Tryd.ntmps52
  go_wp2_with (go_at_call 101; refine HC.out.mono ?_; rintro e w2 ⟨v, rfl, ho, hb⟩; have HO := Aside0.mk ho; have HB := Aside0.mk hb; clear ho hb)
  go_ret
  exact ⟨_, rfl, HO.out, HB.out⟩
end Go.Proofs.YtiohgpcbdefokaaDoor.B
/- record.Put of a Begin. No condition. -/
namespace Go.Proofs.YtiohgpcbdefokaaDoor.B
open Go.RowKit Go.Proofs.YtiohgpcbdefokaaDoorW.PrintWords Go.Proofs.YtiohgpcbdefokaaDoor.RowLaws
attribute [local go_sem ↓ high] lvO_hs ldO_hs stO_hs lvO_pt ldO_pt stO_pt zero_pt eqA_pt lvO_ptR ldO_ptR stO_ptR zero_ptR eqA_ptR lvO_rc ldO_rc stO_rc zero_rc eqA_rc lvO_rcR ldO_rcR stO_rcR zero_rcR eqA_rcR lvO_tk ldO_tk stO_tk zero_tk eqA_tk lvO_tkR ldO_tkR stO_tkR zero_tkR eqA_tkR lvO_it ldO_it stO_it zero_it eqA_it blO_pt blO_ptR blO_rc blO_rcR blO_tk blO_tkR blO_it bsO_pt bsO_ptR bsO_rc bsO_rcR bsO_it
attribute [local go_sem high] rowAt_setCell rowAt_setRow cell_setRow_ne isRow_setRow_ne rowAt_alloc rowAt_drew isRow_alloc isRow_drew isRow_setCell rowRun_some okL_hs ldV_hs ldA_hs stA_hs setRow_alloc get_pt_id get_pt_path cut_pt_sum get_pt_size get_pt_off cut_pt okL_pt size_pt lenb_pt eta_pt ldV_pt ldA_pt stA_pt ldV_ptR ldA_ptR stA_ptR get_rc_kind get_rc_id get_rc_path cut_rc_sum get_rc_size get_rc_off cut_rc okL_rc size_rc lenb_rc eta_rc ldV_rc ldA_rc stA_rc ldV_rcR ldA_rcR stA_rcR get_tk_path cut_tk_sum get_tk_size get_tk_off cut_tk_old cut_tk okL_tk size_tk lenb_tk eta_tk ldV_tk ldA_tk stA_tk ldV_tkR ldA_tkR stA_tkR get_it_path get_it_dir get_it_size cut_it_sum cut_it okL_it size_it lenb_it eta_it ldV_it ldA_it stA_it bld_pt_01234 bld_pt_0123 bld_pt_z bld_ptR_01234 bld_ptR_0123 bld_ptR_z bld_rc_012345 bld_rc_015 bld_rc_01 bld_rc_z bld_rc_01234 bld_rc_24 bld_rc_05 bld_rc_0 bld_rcR_012345 bld_rcR_015 bld_rcR_01 bld_rcR_z bld_rcR_01234 bld_rcR_24 bld_rcR_05 bld_rcR_0 bld_tk_01234 bld_tk_0 bld_tk_z bld_tkR_01234 bld_tkR_0 bld_tkR_z bld_it_0123 bld_it_023 bld_it_01 bld_it_0 bld_it_z bs0_pt bs1_pt bs0_ptR bs1_ptR bs0_rc bs1_rc bs0_rcR bs1_rcR bs0_it bs1_it
/-- 32 bytes as numbers. -/
def hsN (h : Hs) : List Int := h.1.map fun b => (b.toNat : Int)
theorem hsN_len (h : Hs) : (hsN h).length = 32 := by simp [hsN, h.2]
theorem keepT {g B : Nat} {x y : Value} {W W' : World} (h : W.cell? ⟨g, 2, none⟩ = some x ∧ W.cell? ⟨g, 35, none⟩ = some y) (hb : Below B W W') (hg : g < B) : W'.cell? ⟨g, 2, none⟩ = some x ∧ W'.cell? ⟨g, 35, none⟩ = some y :=
  ⟨(hb.cell (p := ⟨g, 2, none⟩) hg).trans h.1, (hb.cell (p := ⟨g, 35, none⟩) hg).trans h.2⟩
theorem rows3 {W : World} {A C : Option Addr} {a c g : Nat} {x y z : List Int} {t : TypeId} (ha : x.length ≤ a) (h1 : Kd.C (Kd.int .u8) W A x.length x) (h2 : Kd.C (Kd.int .u8) W (some ⟨g, 3, none⟩) 32 y) (hc : z.length ≤ c) (h3 : Kd.C (Kd.int .u8) W C z.length z) :
    RowsAt (W.alloc (.cells #[.slice A x.length a, .slice (some ⟨g, 3, none⟩) 32 32, .slice C z.length c] t)) W.heap.size [x, y, z] := by
  have hb : Below W.heap.size W (W.alloc (.cells #[.slice A x.length a, .slice (some ⟨g, 3, none⟩) 32 32, .slice C z.length c] t)) := below_alloc (Below.refl _ _) _
  intro i hi
  match i, hi with
  | 0, _ => exact ⟨A, a, cell_of_row _ _ _ _ _ _ (heap_alloc_new _ _), ha, Kd.C_below h1 hb⟩
  | 1, _ => exact ⟨some ⟨g, 3, none⟩, 32, (cell_of_row _ _ _ _ _ _ (heap_alloc_new _ _)).trans (by show some (Value.slice (some ⟨g, 3, none⟩) 32 32) = some (Value.slice (some ⟨g, 3, none⟩) y.length 32); rw [h2.1]), by show y.length ≤ 32; rw [h2.1]; exact Nat.le_refl _, by show Kd.C (Kd.int .u8) _ _ y.length y; rw [h2.1]; exact Kd.C_below h2 hb⟩
  | 2, _ => exact ⟨C, c, cell_of_row _ _ _ _ _ _ (heap_alloc_new _ _), hc, Kd.C_below h3 hb⟩
theorem get_rc_sum (r : Rc) {j : Nat} {v : Value} (h : (hsL r.sum)[j]? = some v) : (rcL r)[3 + j]? = some v := by
  have hj := (List.getElem?_eq_some_iff.1 h).1
  have hc : ((rcL r).drop 3).take 32 = hsL r.sum := by
    show (hsL r.sum ++ [Value.int .i64 r.size, Value.int .i64 r.off]).take 32 = hsL r.sum
    exact (List.take_append_of_le_length (by rw [hsL_len]; omega)).trans (List.take_of_length_le (by rw [hsL_len]; omega))
  rw [← hc] at h
  rw [List.getElem?_take] at h
  split at h
  · rw [List.getElem?_drop] at h; exact h
  · cases h
theorem sum_C {W : World} {g : Nat} {r : Rc} (h : rowAt W ⟨g, 0, none⟩ 37 = some (rcL r)) : Kd.C (Kd.int .u8) W (some ⟨g, 3, none⟩) 32 (hsN r.sum) := by
  refine ⟨hsN_len _, by decide, fun _ => ⟨_, rfl, fun j x hx => ⟨[.int .u8 x], rfl, rfl, fun i u hu => ?_⟩⟩⟩
  have hi : i = 0 := by
    have := (List.getElem?_eq_some_iff.1 hu).1
    simp at this; exact this
  subst hi
  have hz : (Kd.int .u8).sz = 1 := rfl
  have hu : Value.int .u8 x = u := by simpa using hu
  subst hu
  rw [hz, Addr.add_mid]
  have hj : (hsL r.sum)[j]? = some (.int .u8 x) := by
    unfold hsL
    unfold hsN at hx
    rw [List.getElem?_map] at hx ⊢
    cases hb : r.sum.1[j]? with
    | none => rw [hb] at hx; cases hx
    | some b =>
      rw [hb] at hx
      obtain rfl := Option.some.inj hx
      rfl
  have h3 := (rowAt_some h).2 (3 + j) (.int .u8 x) (get_rc_sum r hj)
  rw [Addr.add_mid] at h3
  rw [show 3 + (j * 1 + 0) = 0 + (3 + j) by omega]; exact h3
set_option linter.unusedVariables false in
set_option maxHeartbeats 4000000 in
set_option maxRecDepth 100000 in
theorem PutBegin_calls (k : Nat) (r : Rc) (a tx z s t : List Int) (w : World) (hT : TabOK w) (hk : r.kind = 0) (hc : chkE r = 0) (ha : field_Num.f k r.id = some a) (hx : field_Text.f k r.path = some tx) (hz : field_Num.f k r.size = some z) (hl : a.length ≤ 100 ∧ tx.length ≤ 1000 ∧ z.length ≤ 100)
    (hs : crc_Seal.f k (([0] ++ a) ++ (tx ++ (hsN r.sum ++ z))) = some s) (ht : field_Text.f k (strOfNums s) = some t) :
    Calls Tryd.prog 23 #[.agg (rcL r).toArray] w fun e w' => ∃ v : Value, e = .returned (.tuple #[v, .int .i64 0]) ∧ Kd.R (Kd.int .u8) 5 w' w.heap.size (fun _ => True) v t ∧ Below w.heap.size w w' := by
  obtain ⟨x1, hx1⟩ : ∃ x1, [0] ++ a = x1 := ⟨_, rfl⟩
  rw [hx1] at hs
  obtain ⟨x2, hx2⟩ : ∃ x2, x1 ++ (tx ++ (hsN r.sum ++ z)) = x2 := ⟨_, rfl⟩
  rw [hx2] at hs
  have HX1 := Aside0.mk hx1
  have HX2 := Aside0.mk hx2
  have HLL := Aside0.mk (show x1.length ≤ 101 by rw [← hx1, List.length_append, List.length_singleton]; omega)
  have hz0 : decide (r.kind = 0) = true := decide_eq_true hk
  have hy0 : (r.kind == 0) = true := by simp [hk]
  clear hx1 hx2
  have HT := Aside0.mk hT
  have HC := Aside0.mk hc
  have HA := Aside0.mk ha
  have HTX0 := Aside0.mk hx
  have HZ := Aside0.mk hz
  have HS := Aside0.mk hs
  have HTX := Aside0.mk ht
  have HL := Aside0.mk hl
  clear hT hc ha hx hz hs ht hl
  go_enter Tryd.func23, Tryd.ntmps23
  go_wp2_with (first
    | (go_at_call 26; refine (Check_calls r _ (HT.out.below ?_)).mono ?_; (exact below_alloc (Below.refl _ _) _); rintro e w2 ⟨rfl, hb2⟩; rw [HC.out]; obtain ⟨hcl, hfz⟩ := bcell0 hb2; have c0 : w2.cell? ⟨w.heap.size, 0, none⟩ = some (.int .u8 r.kind) := (by rw [hcl _ _ (by simp)]; first | (go_simp; done) | (simp [*]; done)); have c1 : w2.cell? ⟨w.heap.size, 1, none⟩ = some (.int .i64 r.id) := (by rw [hcl _ _ (by simp)]; first | (go_simp; done) | (simp [*]; done)); have hr2 : rowAt w2 ⟨w.heap.size, 0, none⟩ 37 = some (rcL r) := (by rw [rowAt_below hb2 (by simp)]; first | (go_simp; done) | (simp [*]; done)); have HR2 := Aside0.mk hr2; have HB2 := Aside0.mk (Below.trans (below_alloc (Below.refl w.heap.size w) _) (hb2.mono (by simp))); have HS2 := Aside0.mk (show w.heap.size + 1 ≤ w2.heap.size from by have h_ := hb2.size; simpa using h_); clear hb2 hcl hfz))
  go_cut [5] (fun v5 wx => ∃ (A5 : Option Addr) (n5 : Nat), v5 = .slice A5 x1.length n5 ∧ Aside0 (Kd.R (Kd.int .u8) 5 wx (w.heap.size + 1) (fun _ => True) (.slice A5 x1.length n5) x1) ∧ Aside0 (Below (w.heap.size + 1) w2 wx))
  case first =>
    go_region_held3 (fun w' => w'.cell? ⟨w.heap.size, 0, none⟩ = some (.int .u8 r.kind) ∧ w'.cell? ⟨w.heap.size, 1, none⟩ = some (.int .i64 r.id)) (first | go_keep)
      (first
        | (go_at_call 54; refine (field_Num.calls k r.id a _ HA.out).mono ?_; rintro e w4 ⟨v4, rfl, ho4, hb4⟩; obtain ⟨A4, n4, rfl⟩ := Kd.R_slice ho4;
            (first
              | have HX := Aside0.mk (And.intro (show Below (w.heap.size + 1) w2 w4 from Below.trans (below_drew (Below.alloc (Below.refl _ _) HS2.out _)) (hb4.mono (by have := HS2.out; simp; omega))) (Kd.R_below (Kd.R_drew (lit1_R w2 0 (w.heap.size + 1) HS2.out)) hb4))
              | have HX := Aside0.mk (And.intro (show Below (w.heap.size + 1) w2 w4 from Below.trans (below_drew (Below.refl _ _)) (hb4.mono (by have := HS2.out; simp; omega))) True.intro));
            have HO4 := Aside0.mk (Kd.R_lower (base' := w.heap.size + 1) ho4 (by have := HS2.out; simp; omega));
            have c40 : w4.cell? ⟨w.heap.size, 0, none⟩ = some (.int .u8 r.kind) := (HX.out.1.cell (p := ⟨w.heap.size, 0, none⟩) (by simp)).trans c0;
            have c41 : w4.cell? ⟨w.heap.size, 1, none⟩ = some (.int .i64 r.id) := (HX.out.1.cell (p := ⟨w.heap.size, 1, none⟩) (by simp)).trans c1;
            clear ho4 hb4)
        | ((with_reducible refine gate_stepb (b := .append) (xs := #[.tmp 13, .tmp 16]) rfl ?_);
            refine Kd.R_append_rows_step (Kd.int .u8) (w0 := w2) (w.heap.size + 1) rfl (.tmp 13) (.tmp 16) 22 5 (.int .u8 0) 1 rfl Tryd.underlying22 info5 rfl (by decide) (by decide) _ [0] a A4 a.length n4 (fun _ => True) (fun _ => False) rfl rfl ?aO ?aR (fun _ _ h => h) (fun _ h => h.elim) (fun _ _ => trivial) ?aB ?aS ?aL ?_;
            (case aO => first | exact HX.out.2 | exact lit1_R w4 0 (w.heap.size + 1) (by have h_ := HX.out.1.size; have := HS2.out; omega));
            (case aR => first | exact (Kd.R_reads' HO4.out).2.2 | exact Kd.C_below (Kd.R_reads' HO4.out).2.2 (below_alloc (Below.refl _ _) _));
            (case aB => first | exact HX.out.1 | exact Below.alloc HX.out.1 (by have h_ := HX.out.1.size; have := HS2.out; omega) _);
            (case aS => have h_ := HX.out.1.size; have := HS2.out; simp; omega);
            (case aL => have := HL.out; simp; omega);
            intro v5 w5 ho5 hb5 hg5 hat5;
            rw [HX1.out] at ho5;
            have HO5 := Aside0.mk ho5;
            have HB5 := Aside0.mk hb5;
            have c50 : w5.cell? ⟨w.heap.size, 0, none⟩ = some (.int .u8 r.kind) := (hb5.cell (p := ⟨w.heap.size, 0, none⟩) (by simp)).trans c0;
            have c51 : w5.cell? ⟨w.heap.size, 1, none⟩ = some (.int .i64 r.id) := (hb5.cell (p := ⟨w.heap.size, 1, none⟩) (by simp)).trans c1;
            clear ho5 hb5 hg5 hat5))
    all_goals
      obtain ⟨A5, n5, rfl⟩ := Kd.R_slice HO5.out
      go_wp2_with fail
      go_meet
      exact ⟨A5, n5, rfl, HO5, HB5⟩
  case rest =>
    obtain ⟨A5, n5, rfl, HO5, HB5⟩ := hcut
    have hrw : rowAt wc ⟨w.heap.size, 0, none⟩ 37 = some (rcL r) := by rw [rowAt_below HB5.out (by simp)]; exact HR2.out
    have k0 : wc.cell? ⟨w.heap.size, 0, none⟩ = some (.int .u8 r.kind) := (rowAt_some hrw).2 0 _ (get_rc_kind r)
    have k2 : wc.cell? ⟨w.heap.size, 2, none⟩ = some (.string r.path) := (rowAt_some hrw).2 2 _ (get_rc_path r)
    have k35 : wc.cell? ⟨w.heap.size, 35, none⟩ = some (.int .i64 r.size) := (rowAt_some hrw).2 35 _ (get_rc_size r)
    have HSUM := Aside0.mk (sum_C hrw)
    have hzc : w.heap.size + 1 ≤ wc.heap.size := by have := HB5.out.size; have := HS2.out; omega
    clear hrw hr2 c0 c1
    go_upto_region 7 with (fail)
    obtain ⟨y, hy⟩ : ∃ y, tx ++ (hsN r.sum ++ z) = y := ⟨_, rfl⟩
    have HFL := Aside0.mk (show [tx, hsN r.sum, z].flatten = y by rw [← hy]; simp)
    have HXY := Aside0.mk (show x1 ++ y = x2 by rw [← hy]; exact HX2.out)
    have HYL := Aside0.mk (show y.length ≤ 1200 by rw [← hy, List.length_append, List.length_append, hsN_len]; have := HL.out; omega)
    clear hy
    go_region_held3 (fun w' => w'.cell? ⟨w.heap.size, 2, none⟩ = some (.string r.path) ∧ w'.cell? ⟨w.heap.size, 35, none⟩ = some (.int .i64 r.size)) (first | assumption | (refine keepT (B := w.heap.size + 1) (And.intro k2 k35) ?_ (by omega); (repeat' (first | exact HB9.out | exact HB8.out | exact HB7.out | exact HB6.out | (with_reducible exact Below.refl _ _) | (with_reducible refine below_drew ?_) | (with_reducible refine Below.alloc ?_ ?_ _) | (with_reducible refine below_setCell ?_ ?_ _) | omega | (simp; done) | (simp; omega))); done))
      (first
      | (go_at_call 53; refine (field_Text.calls k r.path tx _ HTX0.out).mono ?_; rintro e w6 ⟨v6, rfl, ho6, hb6⟩; obtain ⟨A6, n6, rfl⟩ := Kd.R_slice ho6; have HB6 := Aside0.mk (show Below (w.heap.size + 1) wc w6 from Below.trans (by (repeat' (first | fail | (with_reducible exact Below.refl _ _) | (with_reducible refine below_drew ?_) | (with_reducible refine Below.alloc ?_ ?_ _) | (with_reducible refine below_setCell ?_ ?_ _) | omega | (simp; done) | (simp; omega)))) (hb6.mono (by first | omega | (simp; done) | (simp; omega)))); have HO6 := Aside0.mk (Kd.R_lower (base' := w.heap.size + 1) ho6 (by first | omega | (simp; done) | (simp; omega))); have hs6 := HB6.out.size; have HX6 := Aside0.mk (Kd.R_below (Kd.R_drew HO5.out) hb6); have HM6 := Aside0.mk (Kd.C_below HSUM.out (show Below wc.heap.size wc w6 from below_step (below_drew (Below.refl _ _)) hb6)); clear ho6 hb6)
      | (go_at_call 54; refine (field_Num.calls k r.size z _ HZ.out).mono ?_; rintro e w7 ⟨v7, rfl, ho7, hb7⟩; obtain ⟨A7, n7, rfl⟩ := Kd.R_slice ho7; have HB7 := Aside0.mk (show Below (w.heap.size + 1) wc w7 from Below.trans HB6.out (hb7.mono (by first | omega | (simp; done) | (simp; omega)))); have hs7 := HB7.out.size; have HX7 := Aside0.mk (Kd.R_below HX6.out hb7); have HM7 := Aside0.mk (Kd.C_below HM6.out hb7); have HT7 := Aside0.mk (Kd.C_below (Kd.R_reads' HO6.out).2.2 hb7); have HZ7 := Aside0.mk (Kd.R_reads' ho7); clear ho7 hb7)
      | (go_at_call 52; refine (Join_calls w7.heap.size 3 3 [tx, hsN r.sum, z] _ rfl (by decide) (rows3 (Kd.R_reads' HO6.out).2.1 HT7.out HM7.out HZ7.out.2.1 HZ7.out.2.2) (by simp [total, hsN_len]; have := HL.out; omega)).mono ?_; rintro e w8 ⟨v8, rfl, ho8, hb8⟩; rw [HFL.out] at ho8; obtain ⟨A8, n8, rfl⟩ := Kd.R_slice ho8; have HB8 := Aside0.mk (show Below (w.heap.size + 1) wc w8 from Below.trans (Below.alloc HB7.out (by omega) _) (hb8.mono (by first | omega | (simp; done) | (simp; omega)))); have hs8 := HB8.out.size; have HX8 := Aside0.mk (Kd.R_below (Kd.R_below HX7.out (below_alloc (Below.refl _ _) _)) hb8); have HO8 := Aside0.mk (Kd.R_reads' ho8); clear ho8 hb8)
      | ((with_reducible refine gate_stepb (b := .append) (xs := #[.tmp 22, .tmp 32]) rfl ?_);
          refine Kd.R_append_rows_step (Kd.int .u8) (w0 := wc) (w.heap.size + 1) rfl (.tmp 22) (.tmp 32) 22 5 (.int .u8 0) 1 rfl Tryd.underlying22 info5 rfl (by decide) (by decide) (.slice A5 x1.length n5) x1 y A8 y.length n8 (fun _ => True) (fun _ => False) rfl rfl HX8.out HO8.out.2.2 (fun _ _ h => h) (fun _ h => h.elim) (fun _ _ => trivial) HB8.out (by omega) ?aL9 ?_;
          (case aL9 => have h1_ := HYL.out; have h2_ := HLL.out; omega);
          intro v9 w9 ho9 hb9 hg9 hat9;
          rw [HXY.out] at ho9;
          obtain ⟨A9, n9, rfl⟩ := Kd.R_slice ho9;
          have HO9 := Aside0.mk ho9;
          have HB9 := Aside0.mk hb9;
          clear ho9 hb9 hg9 hat9))
    all_goals
      have HB92 := Aside0.mk (Below.trans HB5.out HB9.out)
      go_wp2_with (first
        | (go_at_call 72; refine (crc_Seal.calls k A9 n9 x2 s _ (Kd.R_reads' HO9.out).2.2 (Kd.R_reads' HO9.out).2.1 (HT.out.below (Below.trans HB2.out (HB92.out.mono (by omega)))) HS.out).mono ?_; rintro e w10 ⟨v10, rfl, ho10, hb10⟩; obtain ⟨A10, n10, rfl⟩ := Kd.R_slice ho10;
            have HB10 := Aside0.mk (show Below (w.heap.size + 1) w2 w10 from Below.trans HB92.out (hb10.mono (by have h_ := HB92.out.size; have := HS2.out; omega)));
            have hcv := Kd.C_string (P := Tryd.prog) (src := 22) (dst := 9) (c := n10) Tryd.underlying22 Tryd.underlying5 Tryd.underlying9 (Kd.R_reads' ho10).2.2;
            clear ho10 hb10)
        | (go_at_call 53; refine (field_Text.calls k (strOfNums s) t _ HTX.out).mono ?_; rintro e w11 ⟨v11, rfl, ho11, hb11⟩; obtain ⟨A11, n11, rfl⟩ := Kd.R_slice ho11;
            have HO11 := Aside0.mk (Kd.R_lower (base' := w.heap.size) ho11 (by have h_ := HB10.out.size; have := HS2.out; omega));
            have HB11 := Aside0.mk (show Below w.heap.size w w11 from Below.trans HB2.out ((Below.trans HB10.out (hb11.mono (by have h_ := HB10.out.size; have := HS2.out; omega))).mono (by omega)));
            clear ho11 hb11))
      go_ret2
      exact ⟨_, rfl, HO11.out, HB11.out⟩
end Go.Proofs.YtiohgpcbdefokaaDoor.B
/- Plain Lean, no condition: a text's parts between slashes, joined again, and their order. -/
namespace Go.Proofs.YtiohgpcbdefokaaDoor.PureSp
open Go Go.Lib Go.RowKit

theorem w64 {x : Int} (h : -9223372036854775808 ≤ x ∧ x < 9223372036854775808) : wrap64 x = x := by unfold wrap64; omega

/-- The parts between slashes. -/
def sp : List UInt8 → List (List UInt8)
  | [] => [[]]
  | c :: l => if c = 47 then [] :: sp l else match sp l with
    | h :: t => (c :: h) :: t
    | [] => [[c]]
theorem sp_ne : ∀ s, sp s ≠ []
  | [] => by simp [sp]
  | c :: l => by
    unfold sp
    split
    · simp
    · split <;> simp
theorem sp_cons (c : UInt8) (l : List UInt8) (h : c ≠ 47) : ∃ x t, sp l = x :: t ∧ sp (c :: l) = (c :: x) :: t := by
  cases hs : sp l with
  | nil => exact absurd hs (sp_ne l)
  | cons x t => exact ⟨x, t, rfl, by rw [sp, if_neg h, hs]⟩
theorem sp_none : ∀ s : List UInt8, s.count 47 = 0 → sp s = [s]
  | [], _ => rfl
  | c :: l, h => by
    have hc : c ≠ 47 := by
      rintro rfl
      rw [List.count_cons_self] at h
      omega
    rw [List.count_cons_of_ne hc] at h
    obtain ⟨x, t, e1, e2⟩ := sp_cons c l hc
    rw [sp_none l h] at e1
    injection e1 with e3 e4
    rw [e2, ← e3, ← e4]
theorem sp_hit : ∀ (s : List UInt8) (i : Nat), indexByte s 47 = (i : Int) → sp s = s.take i :: sp (s.drop (i + 1)) ∧ s.count 47 = 1 + (s.drop (i + 1)).count 47
  | [], i, h => by simp [indexByte] at h
  | c :: l, i, h => by
    unfold indexByte at h
    by_cases hc : c = 47
    · subst hc
      rw [if_pos (by simp)] at h
      obtain rfl : i = 0 := by omega
      refine ⟨by rw [sp, if_pos rfl]; rfl, ?_⟩
      rw [List.count_cons_self]
      simp only [Nat.zero_add, List.drop_succ_cons, List.drop_zero]
      omega
    · rw [if_neg (by simpa using hc)] at h
      by_cases hm : (indexByte l 47 == -1) = true
      · rw [if_pos hm] at h; omega
      · rw [if_neg hm] at h
        have h2 := indexByte_ge l 47
        have h3 : indexByte l 47 ≠ -1 := by simpa using hm
        obtain ⟨j, rfl⟩ : ∃ j, i = j + 1 := ⟨i - 1, by omega⟩
        obtain ⟨e1, e2⟩ := sp_hit l j (by omega)
        obtain ⟨x, t, e3, e4⟩ := sp_cons c l hc
        rw [e1] at e3
        injection e3 with e5 e6
        refine ⟨?_, ?_⟩
        · rw [e4, ← e5, ← e6]
          simp
        · rw [List.count_cons_of_ne hc, e2]
          simp
theorem indexByte_count : ∀ s : List UInt8, indexByte s 47 = -1 → s.count 47 = 0
  | [], _ => rfl
  | c :: l, h => by
    unfold indexByte at h
    by_cases hc : c = 47
    · subst hc; rw [if_pos (by simp)] at h; omega
    · rw [if_neg (by simpa using hc)] at h
      rw [List.count_cons_of_ne hc]
      apply indexByte_count
      by_cases hm : (indexByte l 47 == -1) = true
      · simpa using hm
      · rw [if_neg hm] at h
        have h2 := indexByte_ge l 47
        omega
theorem splitK_sp : ∀ (k : Nat) (s : List UInt8), s.count 47 = k → splitK [47] 0 k s = sp s
  | 0, s, h => (sp_none s h).symm
  | k + 1, s, h => by
    unfold splitK
    rw [index_one]
    by_cases hm : (indexByte s 47 == -1) = true
    · have := indexByte_count s (by simpa using hm)
      omega
    · rw [if_neg hm]
      have h2 := indexByte_ge s 47
      have h3 : indexByte s 47 ≠ -1 := by simpa using hm
      obtain ⟨i, hi⟩ : ∃ i : Nat, indexByte s 47 = i := ⟨(indexByte s 47).toNat, by omega⟩
      obtain ⟨e1, e2⟩ := sp_hit s i hi
      rw [hi, e1, splitK_sp k _ (by simp only [List.length_singleton, Int.toNat_natCast]; omega)]
      simp


/-! ### the order -/
def lt (a b : List UInt8) : Bool := Op.bytesLess a b
theorem lt_nil_r (a : List UInt8) : lt a [] = false := by cases a <;> rfl
theorem lt_cons (a b : UInt8) (x y : List UInt8) : lt (a :: x) (b :: y) = (decide (a < b) || (a == b && lt x y)) := rfl
theorem u8_irr (a : UInt8) : ¬ a < a := UInt8.lt_irrefl a
theorem lt_irr : ∀ x, lt x x = false
  | [] => rfl
  | a :: x => by rw [lt_cons, lt_irr x]; simp
theorem lt_asymm : ∀ x y, lt x y = true → lt y x = false
  | x, [], h => by rw [lt_nil_r] at h; cases h
  | [], b :: y, _ => lt_nil_r _
  | a :: x, b :: y, h => by
    rw [lt_cons] at h ⊢
    simp only [Bool.or_eq_true, decide_eq_true_eq, Bool.and_eq_true, beq_iff_eq] at h
    rcases h with h | ⟨rfl, h⟩
    · have h1 : ¬ b < a := UInt8.lt_asymm h
      have h2 : b ≠ a := fun e => u8_irr a (e ▸ h)
      simp [h1, h2]
    · simp [lt_asymm x y h]

/-- Part by part. -/
def cmpP : List (List UInt8) → List (List UInt8) → Int
  | [], [] => 0
  | [], _ :: _ => -1
  | _ :: _, [] => 1
  | x :: xs, y :: ys => if lt x y = true then -1 else if x = y then cmpP xs ys else 1
def less (a b : List (List UInt8)) : Bool := decide (cmpP a b < 0)
theorem less_cons (x y : List UInt8) (xs ys) : less (x :: xs) (y :: ys) = (lt x y || (x == y && less xs ys)) := by
  unfold less
  rw [cmpP]
  by_cases h : lt x y = true
  · simp [h]
  · rw [if_neg h]
    by_cases e : x = y
    · simp [e, lt_irr]
    · rw [if_neg e]
      simp [h, e]
theorem between : ∀ (d p r : List (List UInt8)), less d p = true → less p (d ++ r) = true → ∃ r', r' ≠ [] ∧ p = d ++ r'
  | [], [], _, h, _ => by cases h
  | [], x :: p, _, _, _ => ⟨x :: p, by simp, rfl⟩
  | _ :: _, [], _, h, _ => by cases h
  | y :: d, x :: p, r, h1, h2 => by
    rw [less_cons] at h1
    rw [List.cons_append, less_cons] at h2
    simp only [Bool.or_eq_true, Bool.and_eq_true, beq_iff_eq] at h1 h2
    rcases h1 with h1 | ⟨rfl, h1⟩
    · rcases h2 with h2 | ⟨rfl, h2⟩
      · have := lt_asymm _ _ h1; rw [h2] at this; cases this
      · rw [lt_irr] at h1; cases h1
    · rcases h2 with h2 | ⟨_, h2⟩
      · rw [lt_irr] at h2; cases h2
      · obtain ⟨r', e1, e2⟩ := between d p r h1 h2
        exact ⟨r', e1, by rw [e2]; rfl⟩
/-- A path's names. -/
def S (s : List UInt8) : List (List UInt8) := if s = [] then [] else sp s
end Go.Proofs.YtiohgpcbdefokaaDoor.PureSp
/- The document's way to check a path tells what the program's tells. No condition. -/
namespace Go.Proofs.YtiohgpcbdefokaaDoor.B
open Go Go.Lib Go.RowKit Go.WideShapes Go.Proofs.YtiohgpcbdefokaaDoorW.PrintWords Go.Proofs.YtiohgpcbdefokaaDoor.PureSp
namespace PathE
theorem toL (s : ByteArray) : s.toList = s.data.toList := toList_data s
theorem split (s : ByteArray) (hs : s.size < 4294967281) : ∃ l : List ByteArray, path_Split.f s = some l ∧ l.map (·.data.toList) = S s.data.toList := by
  unfold path_Split.f S
  rw [toL]
  by_cases h : s.data.toList = []
  · rw [if_pos h, if_pos h]
    exact ⟨[], rfl, rfl⟩
  · rw [if_neg h, if_neg h]
    unfold strings_Split.f
    rw [if_pos hs, if_pos (by decide), Option.bind_some]
    refine ⟨_, rfl, ?_⟩
    rw [splitB_data]
    exact splitK_sp _ _ (count_one 47 _).symm
end PathE
end Go.Proofs.YtiohgpcbdefokaaDoor.B
/- record.Put of a record that may not be; reserved paths are told alike on both sides. No condition. -/
namespace Go.Proofs.YtiohgpcbdefokaaDoor.B
open Go.RowKit Go.Proofs.YtiohgpcbdefokaaDoorW.PrintWords Go.Proofs.YtiohgpcbdefokaaDoor.RowLaws
attribute [local go_sem ↓ high] lvO_hs ldO_hs stO_hs lvO_pt ldO_pt stO_pt zero_pt eqA_pt lvO_ptR ldO_ptR stO_ptR zero_ptR eqA_ptR lvO_rc ldO_rc stO_rc zero_rc eqA_rc lvO_rcR ldO_rcR stO_rcR zero_rcR eqA_rcR lvO_tk ldO_tk stO_tk zero_tk eqA_tk lvO_tkR ldO_tkR stO_tkR zero_tkR eqA_tkR lvO_it ldO_it stO_it zero_it eqA_it blO_pt blO_ptR blO_rc blO_rcR blO_tk blO_tkR blO_it bsO_pt bsO_ptR bsO_rc bsO_rcR bsO_it
attribute [local go_sem high] rowAt_setCell rowAt_setRow cell_setRow_ne isRow_setRow_ne rowAt_alloc rowAt_drew isRow_alloc isRow_drew isRow_setCell rowRun_some okL_hs ldV_hs ldA_hs stA_hs setRow_alloc get_pt_id get_pt_path cut_pt_sum get_pt_size get_pt_off cut_pt okL_pt size_pt lenb_pt eta_pt ldV_pt ldA_pt stA_pt ldV_ptR ldA_ptR stA_ptR get_rc_kind get_rc_id get_rc_path cut_rc_sum get_rc_size get_rc_off cut_rc okL_rc size_rc lenb_rc eta_rc ldV_rc ldA_rc stA_rc ldV_rcR ldA_rcR stA_rcR get_tk_path cut_tk_sum get_tk_size get_tk_off cut_tk_old cut_tk okL_tk size_tk lenb_tk eta_tk ldV_tk ldA_tk stA_tk ldV_tkR ldA_tkR stA_tkR get_it_path get_it_dir get_it_size cut_it_sum cut_it okL_it size_it lenb_it eta_it ldV_it ldA_it stA_it bld_pt_01234 bld_pt_0123 bld_pt_z bld_ptR_01234 bld_ptR_0123 bld_ptR_z bld_rc_012345 bld_rc_015 bld_rc_01 bld_rc_z bld_rc_01234 bld_rc_24 bld_rc_05 bld_rc_0 bld_rcR_012345 bld_rcR_015 bld_rcR_01 bld_rcR_z bld_rcR_01234 bld_rcR_24 bld_rcR_05 bld_rcR_0 bld_tk_01234 bld_tk_0 bld_tk_z bld_tkR_01234 bld_tkR_0 bld_tkR_z bld_it_0123 bld_it_023 bld_it_01 bld_it_0 bld_it_z bs0_pt bs1_pt bs0_ptR bs1_ptR bs0_rc bs1_rc bs0_rcR bs1_rcR bs0_it bs1_it
set_option linter.unusedVariables false in
set_option maxHeartbeats 4000000 in
set_option maxRecDepth 100000 in
theorem PutNot_calls (r : Rc) (w : World) (hT : TabOK w) (hc : ¬ chkE r = 0) :
    Calls Tryd.prog 23 #[.agg (rcL r).toArray] w fun e w' => e = .returned (.tuple #[.slice none 0 0, .int .i64 (chkE r)]) ∧ Below w.heap.size w w' := by
  have HT := Aside0.mk hT
  have hd1 : decide (chkE r = 0) = false := decide_eq_false hc
  have hd2 : (chkE r != 0) = true := bne_iff_ne.2 hc
  clear hT hc
  go_enter Tryd.func23, Tryd.ntmps23
  go_wp2_with (go_at_call 26; refine (Check_calls r _ (HT.out.below ?_)).mono ?_; (exact below_alloc (Below.refl _ _) _); rintro e w2 ⟨rfl, hb2⟩; have HB2 := Aside0.mk (Below.trans (below_alloc (Below.refl w.heap.size w) _) (hb2.mono (by simp))); clear hb2)
  go_ret2
  exact ⟨rfl, HB2.out⟩
end Go.Proofs.YtiohgpcbdefokaaDoor.B
/- field.Num, told in plain words, for every number that has room. No condition. -/
namespace Go.Proofs.YtiohgpcbdefokaaDoor.B
open Go.RowKit Go.Proofs.YtiohgpcbdefokaaDoorW.PrintWords
/-- A number's bytes in its least width. -/
def numL (x : Int) : List Int :=
  if x < 64 then [x]
  else if x < 16384 then [64 + x / 256, x % 256]
  else if x < 1073741824 then [128 + x / 16777216, x / 65536 % 256, x / 256 % 256, x % 256]
  else [192 + x / 72057594037927936, x / 281474976710656 % 256, x / 1099511627776 % 256, x / 4294967296 % 256, x / 16777216 % 256, x / 65536 % 256, x / 256 % 256, x % 256]
theorem or_all : ∀ a : Fin 64, ∀ t : Fin 4, Go.bits .or .u8 (a.val : Int) ((t.val * 64 : Nat) : Int) = ((a.val + t.val * 64 : Nat) : Int) := by decide +kernel
theorem or_tag (a t : Int) (h0 : 0 ≤ a) (h1 : a < 64) (t0 : 0 ≤ t) (t1 : t < 4) : Go.bits .or .u8 a (t * 64) = a + t * 64 := by
  have := or_all ⟨a.toNat, by omega⟩ ⟨t.toNat, by omega⟩
  have e1 : ((a.toNat : Nat) : Int) = a := by omega
  have e2 : ((t.toNat * 64 : Nat) : Int) = t * 64 := by omega
  have e3 : ((a.toNat + t.toNat * 64 : Nat) : Int) = a + t * 64 := by omega
  simpa only [e1, e2, e3] using this
theorem numL_1 (x : Int) (h0 : 0 ≤ x) (h1 : x < 64) : field_Num.f 10 x = some [x] := by
  have hf := fits1 x (by omega)
  have ho := or_tag (x % 256) 0 (by omega) (by omega) (by omega) (by omega)
  simp only [Int.zero_mul, Int.add_zero] at ho
  simp only [field_Num.f, varint_Put.f, varint_Len.f, varint_PutIn.f, varint_tell.f, hf, if_pos (show x < 9223372036854775808 by omega), if_neg (show ¬ x < 0 by omega), if_pos h1, Option.bind_some]
  simp [varint_PutIn.l0, wrap64, rd, h0, h1]
  rw [ho]; omega
theorem numL_2 (x : Int) (h0 : 64 ≤ x) (h1 : x < 16384) : field_Num.f 10 x = some [64 + x / 256, x % 256] := by
  have hf := fits2 x (by omega)
  have ho := or_tag (x / 256 % 256) 1 (by omega) (by omega) (by omega) (by omega)
  simp only [Int.one_mul] at ho
  simp only [field_Num.f, varint_Put.f, varint_Len.f, varint_PutIn.f, varint_tell.f, hf, if_pos (show x < 9223372036854775808 by omega), if_neg (show ¬ x < 0 by omega), if_neg (show ¬ x < 64 by omega), if_pos h1, Option.bind_some]
  simp [varint_PutIn.l0, wrap64, rd, h1, show (0 : Int) ≤ x by omega, List.replicate]
  rw [ho]; omega
theorem numL_4 (x : Int) (h0 : 16384 ≤ x) (h1 : x < 1073741824) : field_Num.f 10 x = some [128 + x / 16777216, x / 65536 % 256, x / 256 % 256, x % 256] := by
  have hf := fits4 x (by omega)
  have ho := or_tag (x / 256 / 256 / 256 % 256) 2 (by omega) (by omega) (by omega) (by omega)
  simp only [show (2 : Int) * 64 = 128 from rfl] at ho
  simp only [field_Num.f, varint_Put.f, varint_Len.f, varint_PutIn.f, varint_tell.f, hf, if_pos (show x < 9223372036854775808 by omega), if_neg (show ¬ x < 0 by omega), if_neg (show ¬ x < 64 by omega), if_neg (show ¬ x < 16384 by omega), if_pos h1, Option.bind_some]
  simp [varint_PutIn.l0, wrap64, rd, h1, show (0 : Int) ≤ x by omega, List.replicate]
  rw [ho]; omega
theorem numL_8 (x : Int) (h0 : 1073741824 ≤ x) (h1 : x < 4611686018427387904) : field_Num.f 10 x = some [192 + x / 72057594037927936, x / 281474976710656 % 256, x / 1099511627776 % 256, x / 4294967296 % 256, x / 16777216 % 256, x / 65536 % 256, x / 256 % 256, x % 256] := by
  have hf := fits8 x (by omega)
  have ho := or_tag (x / 256 / 256 / 256 / 256 / 256 / 256 / 256 % 256) 3 (by omega) (by omega) (by omega) (by omega)
  simp only [show (3 : Int) * 64 = 192 from rfl] at ho
  simp only [field_Num.f, varint_Put.f, varint_Len.f, varint_PutIn.f, varint_tell.f, hf, if_pos (show x < 9223372036854775808 by omega), if_neg (show ¬ x < 0 by omega), if_neg (show ¬ x < 64 by omega), if_neg (show ¬ x < 16384 by omega), if_neg (show ¬ x < 1073741824 by omega), if_pos h1, Option.bind_some]
  simp [varint_PutIn.l0, wrap64, rd, h1, show (0 : Int) ≤ x by omega, List.replicate]
  rw [ho]; omega
theorem numL_all (x : Int) (h : 0 ≤ x ∧ x ≤ 1099511627776) : field_Num.f 10 x = some (numL x) ∧ (numL x).length ≤ 8 := by
  unfold numL
  by_cases h1 : x < 64
  · rw [if_pos h1]; exact ⟨numL_1 x h.1 h1, by simp⟩
  · rw [if_neg h1]
    by_cases h2 : x < 16384
    · rw [if_pos h2]; exact ⟨numL_2 x (by omega) h2, by simp⟩
    · rw [if_neg h2]
      by_cases h3 : x < 1073741824
      · rw [if_pos h3]; exact ⟨numL_4 x (by omega) h3, by simp⟩
      · rw [if_neg h3]; exact ⟨numL_8 x (by omega) (by omega), by simp⟩
#print axioms numL_all
end Go.Proofs.YtiohgpcbdefokaaDoor.B
/- The document's number, told in plain words: the same bytes as the program's. No condition. -/
namespace Go.Proofs.YtiohgpcbdefokaaDoor.B
open Go.RowKit Go.Proofs.YtiohgpcbdefokaaDoorW.PrintWords
end Go.Proofs.YtiohgpcbdefokaaDoor.B
/- Texts and numbers: both sides lay the same bytes, at any fuel from 40 on. No condition. -/
namespace Go.Proofs.YtiohgpcbdefokaaDoor.B
open Go.RowKit Go.Proofs.YtiohgpcbdefokaaDoorW.PrintWords
theorem num_up (x : Int) (h : 0 ≤ x ∧ x ≤ 1099511627776) : ∀ n, field_Num.f (10 + n) x = some (numL x)
  | 0 => (numL_all x h).1
  | n + 1 => field_Num.mono x (10 + n) _ (num_up x h n)
theorem num_k (x : Int) (h : 0 ≤ x ∧ x ≤ 1099511627776) (k : Nat) (hk : 10 ≤ k) : field_Num.f k x = some (numL x) := by
  obtain ⟨n, rfl⟩ : ∃ n, k = 10 + n := ⟨k - 10, by omega⟩
  exact num_up x h n
theorem text_k (s : ByteArray) (hs : s.size ≤ 1000000) (k : Nat) (hk : 10 ≤ k) : field_Text.f k s = some (numL s.size ++ bytesOf s) := by
  have h := num_k (s.size : Int) ⟨by omega, by omega⟩ k hk
  have hl := (numL_all (s.size : Int) ⟨by omega, by omega⟩).2
  unfold field_Text.f
  rw [h, Option.bind_some, if_pos (by omega)]
end Go.Proofs.YtiohgpcbdefokaaDoor.B
/- The 32-bit sum as bits: both sides seal bytes alike. No condition. -/
namespace Go.Proofs.YtiohgpcbdefokaaDoor.CrcP
open Go Go.RowKit Go.Proofs.YtiohgpcbdefokaaDoorW.PrintWords Go.Proofs.YtiohgpcbdefokaaDoor.B

/-- The number that 32 bits hold. -/
def V (b : BitVec 32) : Int := (b.toNat : Int)
theorem V_lt (b : BitVec 32) : 0 ≤ V b ∧ V b < 4294967296 := by have := b.isLt; unfold V; omega
theorem ofInt_V (b : BitVec 32) : BitVec.ofInt 32 (V b) = b := by
  apply BitVec.eq_of_toNat_eq
  have := b.isLt
  simp [V]
theorem wrap_V (b : BitVec 32) : IntKind.u32.wrap (V b) = V b := by have := V_lt b; rw [IntKind.wrap_u32]; omega
theorem xor_eq (x y : Int) : Go.bits .xor .u32 x y = V (BitVec.ofInt 32 x ^^^ BitVec.ofInt 32 y) := wrap_V _
theorem xor_V (a b : BitVec 32) : Go.bits .xor .u32 (V a) (V b) = V (a ^^^ b) := by rw [xor_eq, ofInt_V, ofInt_V]
theorem and_V (a b : BitVec 32) : Go.bits .and .u32 (V a) (V b) = V (a &&& b) := by
  have : Go.bits .and .u32 (V a) (V b) = V (BitVec.ofInt 32 (V a) &&& BitVec.ofInt 32 (V b)) := wrap_V _
  rw [this, ofInt_V, ofInt_V]
theorem max_V : IntKind.u32.max = V (BitVec.allOnes 32) := by decide
theorem ones_xor (a : BitVec 32) : BitVec.allOnes 32 ^^^ a = ~~~a := by
  rw [BitVec.xor_comm, BitVec.xor_allOnes]
theorem inv_V (a : BitVec 32) : Go.bits .xor .u32 IntKind.u32.max (V a) = V (~~~a) := by rw [max_V, xor_V, ones_xor]
theorem inv_eq (x : Int) : Go.bits .xor .u32 IntKind.u32.max x = V (~~~(BitVec.ofInt 32 x)) := by rw [max_V, xor_eq, ofInt_V, ones_xor]
theorem div16_V (a : BitVec 32) : V a / (16 : Int) = V (a >>> 4) := by
  simp [V, BitVec.toNat_ushiftRight, Nat.shiftRight_eq_div_pow]
theorem div2_V (a : BitVec 32) : V a / (2 : Int) = V (a >>> 1) := by
  simp [V, BitVec.toNat_ushiftRight, Nat.shiftRight_eq_div_pow]

/-- One bit of the register's change. -/
def poly : BitVec 32 := 0xedb88320#32
def b1 (x : BitVec 32) : BitVec 32 := if x.getLsbD 0 then (x >>> 1) ^^^ poly else x >>> 1
def b4 (x : BitVec 32) : BitVec 32 := b1 (b1 (b1 (b1 x)))
def b8 (x : BitVec 32) : BitVec 32 := b4 (b4 x)
def stepB (c : BitVec 32) (x : Int) : BitVec 32 := b8 (c ^^^ BitVec.ofInt 32 x)

theorem b1_get (x : BitVec 32) (i : Nat) : (b1 x).getLsbD i = (x.getLsbD (1 + i) ^^ (x.getLsbD 0 && poly.getLsbD i)) := by
  unfold b1
  cases h : x.getLsbD 0
  · rw [if_neg (by decide), BitVec.getLsbD_ushiftRight]; simp
  · rw [if_pos rfl, BitVec.getLsbD_xor, BitVec.getLsbD_ushiftRight]; simp
theorem b1_xor (x y : BitVec 32) : b1 (x ^^^ y) = b1 x ^^^ b1 y := by
  apply BitVec.eq_of_getLsbD_eq
  intro i hi
  rw [BitVec.getLsbD_xor, b1_get, b1_get, b1_get, BitVec.getLsbD_xor, BitVec.getLsbD_xor]
  cases x.getLsbD 0 <;> cases y.getLsbD 0 <;> cases x.getLsbD (1 + i) <;> cases y.getLsbD (1 + i) <;> cases poly.getLsbD i <;> rfl
theorem b4_xor (x y : BitVec 32) : b4 (x ^^^ y) = b4 x ^^^ b4 y := by simp only [b4, b1_xor]

/-- The table of half bytes tells four bits of change. -/
def tab : List Int := [0, 498536548, 997073096, 651767980, 1994146192, 1802195444, 1303535960, 1342533948, 3988292384, 4027552580, 3604390888, 3412177804, 2607071920, 2262029012, 2685067896, 3183342108]
theorem tab_b4 : ∀ i : Fin 16, tab.getD i.val 0 = V (b4 (BitVec.ofNat 32 i.val)) := by decide +kernel
theorem b1_shl (x : BitVec 32) (n : Nat) (hn : 0 < n) (h4 : n ≤ 4) : b1 ((x >>> 4) <<< n) = (x >>> 4) <<< (n - 1) := by
  apply BitVec.eq_of_getLsbD_eq
  intro i hi
  have h0 : ((x >>> 4) <<< n).getLsbD 0 = false := by rw [BitVec.getLsbD_shiftLeft]; simp [hn]
  rw [b1_get, h0, BitVec.getLsbD_shiftLeft, BitVec.getLsbD_shiftLeft, BitVec.getLsbD_ushiftRight, BitVec.getLsbD_ushiftRight]
  by_cases h : i < n - 1
  · have h' : 1 + i < n := by omega
    simp [h, h']
  · have h' : ¬ 1 + i < n := by omega
    have e2 : 4 + (1 + i - n) = 4 + (i - (n - 1)) := by omega
    rw [e2]
    by_cases hq : 1 + i < 32
    · simp [h, h', hi, hq]
    · rw [x.getLsbD_of_ge (4 + (i - (n - 1))) (by omega)]; simp
theorem split16 (x : BitVec 32) : x = (x &&& 15#32) ^^^ ((x >>> 4) <<< 4) := by
  apply BitVec.eq_of_getLsbD_eq
  intro i hi
  have h15 : (15#32).getLsbD i = decide (i < 4) := by
    have : ∀ i : Fin 32, (15#32).getLsbD i.val = decide (i.val < 4) := by decide
    exact this ⟨i, hi⟩
  rw [BitVec.getLsbD_xor, BitVec.getLsbD_and, h15, BitVec.getLsbD_shiftLeft, BitVec.getLsbD_ushiftRight]
  by_cases h : i < 4
  · simp [h]
  · have e : 4 + (i - 4) = i := by omega
    rw [e]
    simp [h, hi]
theorem b4_split (x : BitVec 32) : b4 x = b4 (x &&& 15#32) ^^^ (x >>> 4) := by
  conv => lhs; rw [split16 x]
  rw [b4_xor]
  congr 1
  unfold b4
  rw [b1_shl x 4 (by decide) (by decide), b1_shl x (4 - 1) (by decide) (by decide), b1_shl x (4 - 1 - 1) (by decide) (by decide), b1_shl x (4 - 1 - 1 - 1) (by decide) (by decide)]
  apply BitVec.eq_of_getLsbD_eq
  intro i hi
  rw [BitVec.getLsbD_shiftLeft]
  simp [hi]

def half (c : Int) : Int := Go.bits .xor .u32 (tab.getD (Go.bits .and .u32 c 15).toNat 0) (c / 16)
def step (c x : Int) : Int := half (half (Go.bits .xor .u32 c (x % 4294967296)))
theorem half_V (c : BitVec 32) : half (V c) = V (b4 c) := by
  unfold half
  have e15 : (15 : Int) = V 15#32 := by decide
  rw [e15, and_V]
  rw [div16_V]
  have hlt : (c &&& 15#32).toNat < 16 := by
    rw [BitVec.toNat_and]
    exact Nat.lt_of_le_of_lt Nat.and_le_right (by decide)
  have ht : tab.getD (V (c &&& 15#32)).toNat 0 = V (b4 (c &&& 15#32)) := by
    have := tab_b4 ⟨(c &&& 15#32).toNat, hlt⟩
    simp only at this
    rw [BitVec.ofNat_toNat, BitVec.setWidth_eq] at this
    exact this
  rw [ht, xor_V, ← b4_split]
theorem ofInt_mod (x : Int) : BitVec.ofInt 32 (x % 4294967296) = BitVec.ofInt 32 x := by
  apply BitVec.eq_of_toNat_eq
  simp only [BitVec.toNat_ofInt]
  omega
theorem step_V (c : BitVec 32) (x : Int) : step (V c) x = V (stepB c x) := by
  unfold step
  rw [xor_eq, ofInt_V, ofInt_mod, half_V, half_V]
  rfl
theorem fold_V : ∀ (l : List Int) (c : BitVec 32), l.foldl step (V c) = V (l.foldl stepB c)
  | [], _ => rfl
  | x :: l, c => by rw [List.foldl_cons, List.foldl_cons, step_V]; exact fold_V l _

/-- What More tells. -/
def M (a : BitVec 32) (l : List Int) : BitVec 32 := ~~~(l.foldl stepB (~~~a))
theorem more_eq (a : Int) (l : List Int) : Go.bits .xor .u32 IntKind.u32.max (l.foldl step (Go.bits .xor .u32 IntKind.u32.max a)) = V (M (BitVec.ofInt 32 a) l) := by
  rw [inv_eq a, fold_V, inv_V]; rfl

/-! ### bytes -/
/-- The four bytes of a sum. -/
def four (c : Int) : List Int := [c % 256, c / 256 % 256, c / 65536 % 256, c / 16777216 % 256]
theorem four_in (c : Int) : ∀ x ∈ four c, 0 ≤ x ∧ x < 256 := by
  intro x hx
  simp only [four, List.mem_cons, List.not_mem_nil, or_false] at hx
  rcases hx with rfl | rfl | rfl | rfl <;> omega
theorem w64 {x : Int} (h : -9223372036854775808 ≤ x ∧ x < 9223372036854775808) : wrap64 x = x := by unfold wrap64; omega

theorem more (a : Int) (l : List Int) : crc_More.f a l = some (V (M (BitVec.ofInt 32 a) l)) := congrArg some (more_eq a l)
theorem of (l : List Int) : crc_Of.f l = some (V (M 0#32 l)) := by
  unfold crc_Of.f; rw [more]; rfl
theorem bytes4 (k : Nat) (c : Int) : crc_Bytes.f (k + 5) c = some (four c) := by
  have e1 : wrap64 1 = 1 := w64 (by decide)
  have e8 : wrap64 8 = 8 := w64 (by decide)
  have e2 : wrap64 2 = 2 := w64 (by decide)
  have e3 : wrap64 3 = 3 := w64 (by decide)
  have e4 : wrap64 4 = 4 := w64 (by decide)
  have e0 : wrap64 0 = 0 := w64 (by decide)
  have e16 : wrap64 16 = 16 := w64 (by decide)
  have e24 : wrap64 24 = 24 := w64 (by decide)
  simp [crc_Bytes.f, crc_Bytes.l0, e0, e1, e2, e3, e4, e8, e16, e24, shr, four, List.replicate, IntKind.bits]
theorem odd_V (c : BitVec 32) : (Int.tmod (V c) 2 = 1) ↔ c.getLsbD 0 = true := by
  have h := V_lt c
  rw [Int.tmod_eq_emod_of_nonneg h.1, BitVec.getLsbD, Nat.testBit_zero]
  simp only [V, decide_eq_true_eq]
  omega
theorem tdiv_V (c : BitVec 32) : Int.tdiv (V c) 2 % (4294967296 : Int) = V (c >>> 1) := by
  have h := V_lt c
  rw [Int.tdiv_eq_ediv_of_nonneg h.1, div2_V]
  have := V_lt (c >>> 1)
  omega
theorem poly_V : (3988292384 : Int) = V poly := by decide
theorem bit (k : Nat) (c : BitVec 32) (l : List Int) (i : Int) (j : Int) (h0 : 0 ≤ j) (h8 : j < 8) :
    sumpterref03_run.l1 (k + 1) (V c) l i j = sumpterref03_run.l1 k (V (b1 c)) l i (j + 1) := by
  simp only [sumpterref03_run.l1]
  rw [if_pos h8, w64 (x := j + 1) (by omega), tdiv_V, poly_V, xor_V]
  unfold b1
  by_cases h : c.getLsbD 0 = true
  · rw [if_pos ((odd_V c).mpr h), if_pos h]
  · rw [if_neg (fun hh => h ((odd_V c).mp hh)), if_neg h]
theorem eight (k : Nat) (c : BitVec 32) (l : List Int) (i : Int) : sumpterref03_run.l1 (k + 9) (V c) l i 0 = sumpterref03_run.l0 k (V (b8 c)) l (wrap64 (i + 1)) := by
  rw [bit (k + 8) c l i 0 (by decide) (by decide), bit (k + 7) _ l i _ (by decide) (by decide), bit (k + 6) _ l i _ (by decide) (by decide), bit (k + 5) _ l i _ (by decide) (by decide),
    bit (k + 4) _ l i _ (by decide) (by decide), bit (k + 3) _ l i _ (by decide) (by decide), bit (k + 2) _ l i _ (by decide) (by decide), bit (k + 1) _ l i _ (by decide) (by decide)]
  simp only [sumpterref03_run.l1]
  rw [if_neg (by decide)]
  rfl
theorem run_at (k : Nat) (l : List Int) (hl : l.length ≤ 4000) : ∀ (m i : Nat) (c : BitVec 32), m + i = l.length → sumpterref03_run.l0 (10 * m + 1 + k) (V c) l i = some (V ((l.drop i).foldl stepB c))
  | 0, i, c, h => by
    rw [show 10 * 0 + 1 + k = k + 1 by omega]
    simp only [sumpterref03_run.l0]
    rw [if_neg (by omega), List.drop_of_length_le (by omega)]
    rfl
  | m + 1, i, c, h => by
    have hi : i < l.length := by omega
    rw [show 10 * (m + 1) + 1 + k = (10 * m + 1 + k + 9) + 1 by omega]
    simp only [sumpterref03_run.l0]
    rw [if_pos (by omega), if_pos (by omega), xor_eq, ofInt_V, ofInt_mod, eight, w64 (x := (i : Int) + 1) (by omega)]
    have ih := run_at k l hl m (i + 1) (b8 (c ^^^ BitVec.ofInt 32 (rd l i))) (by omega)
    rw [show (((i + 1 : Nat)) : Int) = (i : Int) + 1 from rfl] at ih
    rw [ih, List.drop_eq_getElem_cons hi, List.foldl_cons]
    have : rd l (i : Int) = l[i] := by simp [rd, List.getD, hi]
    rw [this]
    rfl
theorem run (K : Nat) (c : BitVec 32) (l : List Int) (hl : l.length ≤ 4000) (hK : 10 * l.length + 1 ≤ K) : sumpterref03_run.f K (V c) l = some (V (l.foldl stepB c)) := by
  unfold sumpterref03_run.f
  have := run_at (K - (10 * l.length + 1)) l hl l.length 0 c (by omega)
  rw [show 10 * l.length + 1 + (K - (10 * l.length + 1)) = K by omega] at this
  exact this

/-- Bytes with their sum behind them. -/
def sealL (l : List Int) : List Int := l ++ four (V (M 0#32 l))
theorem sealL_len (l : List Int) : (sealL l).length = l.length + 4 := by simp [sealL, four]
theorem sealed (k : Nat) (l : List Int) (h : l.length ≤ 4000) (hk : 5 ≤ k) : crc_Seal.f k l = some (sealL l) := by
  obtain ⟨k, rfl⟩ : ∃ n, k = n + 5 := ⟨k - 5, by omega⟩
  unfold crc_Seal.f bytes_Clone.f sealL
  rw [if_pos (by omega), Option.bind_some, of, Option.bind_some, bytes4, Option.bind_some, if_pos (by simp [four]; omega)]
end Go.Proofs.YtiohgpcbdefokaaDoor.CrcP
/- A record's bytes in plain words; record.Put lays them, for every record with a path of up to 300 bytes. -/
namespace Go.Proofs.YtiohgpcbdefokaaDoor.B
open Go.RowKit Go.Proofs.YtiohgpcbdefokaaDoorW.PrintWords Go.Proofs.YtiohgpcbdefokaaDoor.RowLaws
theorem pathE_size {p : ByteArray} (h : pathE p = 0) : p.size ≤ 128 := by
  by_cases hs : (p.size : Int) > 128
  · exfalso
    unfold pathE path_Check.f at h
    rw [if_pos hs] at h
    revert h
    decide
  · omega
structure ChkF (r : Rc) : Prop where
  kind : r.kind ≤ 4
  id : 0 ≤ r.id ∧ r.id ≤ 1099511627776
  beg : r.kind = 0 → r.path.size ≤ 128 ∧ (0 ≤ r.size ∧ r.size ≤ 65536)
  off : 0 ≤ r.off ∧ r.off ≤ 65536
  bare : ¬ r.kind = 0 → r = bareRc r
  zero : ¬ r.kind = 1 → r.off = 0
theorem sizeB_of {n : Int} (h : sizeB n = true) : 0 ≤ n ∧ n ≤ 65536 := of_decide_eq_true h
theorem offE_of {r : Rc} (h : offE r = 0) : (0 ≤ r.off ∧ r.off ≤ 65536) ∧ (¬ r.kind = 1 → r.off = 0) := by
  unfold offE at h
  by_cases h1 : sizeB r.off = true
  · rw [if_pos h1] at h
    by_cases h2 : r.off = 0 ∨ r.kind = 1
    · exact ⟨sizeB_of h1, fun hk => h2.elim (fun h => h) (fun h => absurd h hk)⟩
    · rw [if_neg h2] at h; cases h
  · rw [if_neg h1] at h; cases h
theorem beginE_of {r : Rc} (h : beginE r = 0) : pathE r.path = 0 ∧ resv r.path = false ∧ sizeB r.size = true := by
  unfold beginE at h
  by_cases h1 : pathE r.path = 0
  · rw [if_pos h1] at h
    by_cases h2 : resv r.path = true
    · rw [if_pos h2] at h; cases h
    · rw [if_neg h2] at h
      by_cases h3 : sizeB r.size = true
      · exact ⟨h1, by simpa using h2, h3⟩
      · rw [if_neg h3] at h; cases h
  · rw [if_neg h1] at h; exact absurd h h1
theorem chk_facts {r : Rc} (h : chkE r = 0) : ChkF r := by
  unfold chkE at h
  by_cases h1 : 4 < r.kind ∨ r.id < 0 ∨ 1099511627776 < r.id
  · rw [if_pos h1] at h; cases h
  rw [if_neg h1] at h
  have hk : r.kind ≤ 4 := by omega
  have hi : 0 ≤ r.id ∧ r.id ≤ 1099511627776 := by omega
  by_cases h2 : r.kind = 0
  · rw [if_pos h2] at h
    by_cases h3 : beginE r = 0
    · rw [if_pos h3] at h
      obtain ⟨b1, _, b3⟩ := beginE_of h3
      obtain ⟨o1, o2⟩ := offE_of h
      exact ⟨hk, hi, fun _ => ⟨pathE_size b1, sizeB_of b3⟩, o1, fun hn => absurd h2 hn, o2⟩
    · rw [if_neg h3] at h; exact absurd h h3
  · rw [if_neg h2] at h
    by_cases h3 : r = bareRc r
    · rw [if_pos h3] at h
      obtain ⟨o1, o2⟩ := offE_of h
      exact ⟨hk, hi, fun h0 => absurd h0 h2, o1, fun _ => h3, o2⟩
    · rw [if_neg h3] at h; cases h
/-- What stands behind a record's kind and number. -/
def tailL (r : Rc) : List Int := if r.kind = 0 then (numL r.path.size ++ bytesOf r.path) ++ (hsN r.sum ++ numL r.size) else if r.kind = 1 then numL r.off else []
def bodyL (r : Rc) : List Int := ([r.kind] ++ numL r.id) ++ tailL r
def textL (s : List Int) : List Int := numL ((strOfNums s).size : Int) ++ bytesOf (strOfNums s)
/-- A record's bytes. -/
def putL (r : Rc) : List Int := textL (CrcP.sealL (bodyL r))
def putV (r : Rc) : List Int := if chkE r = 0 then putL r else []
theorem numL_len (x : Int) : (numL x).length ≤ 8 := by
  unfold numL
  split
  · simp
  · split
    · simp
    · split <;> simp
theorem bytesOf_len (s : ByteArray) : (bytesOf s).length = s.size := by
  first | exact Go.Lib.bytesOf_length s | simp [bytesOf]
theorem tailL_len {r : Rc} (h : ChkF r) : (tailL r).length ≤ 200 := by
  unfold tailL
  split
  · rename_i hk
    have h1 := (h.beg hk).1
    have h2 := numL_len (r.path.size : Int)
    have h3 := numL_len r.size
    simp only [List.length_append, hsN_len, bytesOf_len]; omega
  · split
    · have := numL_len r.off; omega
    · simp
theorem bodyL_len {r : Rc} (h : ChkF r) : (bodyL r).length ≤ 220 := by
  have h1 := tailL_len h
  have h2 := numL_len r.id
  unfold bodyL
  simp only [List.length_append, List.length_singleton]; omega
theorem strOfNums_size (l : List Int) : (strOfNums l).size = l.length := by
  first | exact Go.Lib.strOfNums_size l | simp [strOfNums, ByteArray.size]
theorem seal_size {r : Rc} (h : ChkF r) : (strOfNums (CrcP.sealL (bodyL r))).size ≤ 230 := by
  rw [strOfNums_size, CrcP.sealL_len]
  have := bodyL_len h
  omega
set_option linter.unusedVariables false in
theorem Put_calls (r : Rc) (w : World) (hT : TabOK w) :
    Calls Tryd.prog 23 #[.agg (rcL r).toArray] w fun e w' => ∃ v : Value, e = .returned (.tuple #[v, .int .i64 (chkE r)]) ∧ Kd.R (Kd.int .u8) 5 w' w.heap.size (fun _ => True) v (putV r) ∧ Below w.heap.size w w' := by
  by_cases hc : chkE r = 0
  · have hf := chk_facts hc
    have hv : putV r = textL (CrcP.sealL (bodyL r)) := by unfold putV putL; rw [if_pos hc]
    rw [hv, hc]
    have hb := bodyL_len hf
    have hs := CrcP.sealed 40 (bodyL r) (by omega) (by decide)
    have ht := text_k (strOfNums (CrcP.sealL (bodyL r))) (by have := seal_size hf; omega) 40 (by decide)
    have hn := num_k r.id hf.id 40 (by decide)
    have hl := numL_len r.id
    by_cases h0 : r.kind = 0
    · have hz := num_k r.size ⟨(hf.beg h0).2.1, by have := (hf.beg h0).2.2; omega⟩ 40 (by decide)
      have hx := text_k r.path (by have := (hf.beg h0).1; omega) 40 (by decide)
      have hl2 := numL_len r.size
      have hl3 := numL_len (r.path.size : Int)
      have e : bodyL r = ([0] ++ numL r.id) ++ ((numL r.path.size ++ bytesOf r.path) ++ (hsN r.sum ++ numL r.size)) := by unfold bodyL tailL; rw [if_pos h0, h0]
      rw [e] at hs ht ⊢
      exact PutBegin_calls 40 r _ _ _ _ _ w hT h0 hc hn hx hz ⟨by omega, by have := (hf.beg h0).1; simp only [List.length_append, bytesOf_len]; omega, by omega⟩ hs ht
    · by_cases h1 : r.kind = 1
      · have ho := num_k r.off ⟨hf.off.1, by have := hf.off.2; omega⟩ 40 (by decide)
        have hl2 := numL_len r.off
        have e : bodyL r = ([1] ++ numL r.id) ++ numL r.off := by unfold bodyL tailL; rw [if_neg h0, if_pos h1, h1]
        rw [e] at hs ht ⊢
        exact PutMark_calls 40 r _ _ _ _ w hT h1 hc hn ho (by omega) hs ht
      · have e : bodyL r = [r.kind] ++ numL r.id := by unfold bodyL tailL; rw [if_neg h0, if_neg h1, List.append_nil]
        rw [e] at hs ht ⊢
        exact PutBare_calls 40 r _ _ _ w hT h0 h1 hc hn (by omega) hs ht
  · have hv : putV r = [] := by unfold putV; rw [if_neg hc]
    rw [hv]
    refine (PutNot_calls r w hT hc).mono ?_
    rintro e w2 ⟨rfl, hb⟩
    exact ⟨_, rfl, Kd.R_nil _ _ _ _ _, hb⟩
end Go.Proofs.YtiohgpcbdefokaaDoor.B
/- varint.Shortest of a number's bytes, whole or cut: plain laws. No condition. -/
namespace Go.Proofs.YtiohgpcbdefokaaDoor.B
open Go Go.RowKit Go.Proofs.YtiohgpcbdefokaaDoorW.PrintWords
theorem w64i {x : Int} (h : -9223372036854775808 ≤ x ∧ x < 9223372036854775808) : wrap64 x = x := by unfold wrap64; omega
theorem or_byte (a c : Int) (h0 : 0 ≤ a) (h1 : a < 36028797018963968) (hc : 0 ≤ c) (hc2 : c < 256) : Go.bits .or .i64 (wrap64 (a * 256)) (wrap64 c) = a * 256 + c := by
  rw [w64i (by omega), w64i (by omega)]
  exact bits_join .i64 63 (by decide) (fun n h h2 => by rw [IntKind.wrap_i64]; omega) 8 (a * 256) c (by omega) (by omega) (by omega) (by omega) (by omega) (by omega)
theorem wraps63 (n : Int) (h0 : 0 ≤ n) (h1 : n < 9223372036854775808) : wrap64 n = n := w64i (by omega)
theorem shl_w (t : Int) (h : t = 0 ∨ t = 1 ∨ t = 2 ∨ t = 3) : shl .i64 1 t = if t = 0 then 1 else if t = 1 then 2 else if t = 2 then 4 else 8 := by
  rcases h with rfl | rfl | rfl | rfl <;> rfl
/-- A number's bytes, whatever stands behind them. -/
theorem get_1 (x : Int) (rest : List Int) (h0 : 0 ≤ x) (h1 : x < 64) : varint_Get.f 10 ([x] ++ rest) = some (x, 1, 0) := by
  have e1 : x / 64 = 0 := by omega
  have e2 : Go.bits .and .u8 x 63 = x := by rw [u8_and63 x h0 (by omega)]; omega
  have e3 := shl_w 0 (.inl rfl)
  simp only [if_pos] at e3
  unfold varint_Get.f
  simp [rd, e1, e2, e3, varint_Get.l0, wraps63 x h0 (by omega)]
  rw [if_neg (by omega), if_neg (by omega), if_pos (by omega)]
theorem get_2 (x : Int) (rest : List Int) (h0 : 64 ≤ x) (h1 : x < 16384) : varint_Get.f 10 ([64 + x / 256, x % 256] ++ rest) = some (x, 2, 0) := by
  obtain ⟨b, hb⟩ : ∃ b, 64 + x / 256 = b := ⟨_, rfl⟩
  have e1 : b / 64 = 1 := by omega
  have e2 : Go.bits .and .u8 b 63 = x / 256 := by rw [u8_and63 b (by omega) (by omega)]; omega
  have e3 : shl .i64 1 1 = 2 := shl_w 1 (by omega)
  have e4 := wraps63 (x / 256) (by omega) (by omega)
  have o1 : Go.bits .or .i64 (wrap64 (x / 256 * 256)) (wrap64 (x % 256)) = x := by rw [or_byte (x / 256) (x % 256) (by omega) (by omega) (by omega) (by omega)]; omega
  rw [hb]
  unfold varint_Get.f
  simp [rd, e1, e2, e3, e4, varint_Get.l0, o1, show wrap64 1 = 1 from w64i (by omega)]
  repeat (first | rw [if_pos (by omega)] | rw [if_neg (by omega)])
theorem get_4 (x : Int) (rest : List Int) (h0 : 16384 ≤ x) (h1 : x < 1073741824) : varint_Get.f 10 ([128 + x / 16777216, x / 65536 % 256, x / 256 % 256, x % 256] ++ rest) = some (x, 4, 0) := by
  obtain ⟨b, hb⟩ : ∃ b, 128 + x / 16777216 = b := ⟨_, rfl⟩
  have e1 : b / 64 = 2 := by omega
  have e2 : Go.bits .and .u8 b 63 = x / 16777216 := by rw [u8_and63 b (by omega) (by omega)]; omega
  have e3 : shl .i64 1 2 = 4 := shl_w 2 (by omega)
  have e4 := wraps63 (x / 16777216) (by omega) (by omega)
  have o1 : Go.bits .or .i64 (wrap64 (x / 16777216 * 256)) (wrap64 (x / 65536 % 256)) = x / 65536 := by rw [or_byte (x / 16777216) (x / 65536 % 256) (by omega) (by omega) (by omega) (by omega)]; omega
  have o2 : Go.bits .or .i64 (wrap64 (x / 65536 * 256)) (wrap64 (x / 256 % 256)) = x / 256 := by rw [or_byte (x / 65536) (x / 256 % 256) (by omega) (by omega) (by omega) (by omega)]; omega
  have o3 : Go.bits .or .i64 (wrap64 (x / 256 * 256)) (wrap64 (x % 256)) = x := by rw [or_byte (x / 256) (x % 256) (by omega) (by omega) (by omega) (by omega)]; omega
  rw [hb]
  unfold varint_Get.f
  simp [rd, e1, e2, e3, e4, varint_Get.l0, o1, o2, o3, show wrap64 1 = 1 from w64i (by omega), show wrap64 2 = 2 from w64i (by omega), show wrap64 3 = 3 from w64i (by omega)]
  repeat (first | rw [if_pos (by omega)] | rw [if_neg (by omega)])
theorem get_8 (x : Int) (rest : List Int) (h0 : 1073741824 ≤ x) (h1 : x < 4611686018427387904) : varint_Get.f 10 ([192 + x / 72057594037927936, x / 281474976710656 % 256, x / 1099511627776 % 256, x / 4294967296 % 256, x / 16777216 % 256, x / 65536 % 256, x / 256 % 256, x % 256] ++ rest) = some (x, 8, 0) := by
  obtain ⟨b, hb⟩ : ∃ b, 192 + x / 72057594037927936 = b := ⟨_, rfl⟩
  have e1 : b / 64 = 3 := by omega
  have e2 : Go.bits .and .u8 b 63 = x / 72057594037927936 := by rw [u8_and63 b (by omega) (by omega)]; omega
  have e3 : shl .i64 1 3 = 8 := shl_w 3 (by omega)
  have e4 := wraps63 (x / 72057594037927936) (by omega) (by omega)
  have o1 : Go.bits .or .i64 (wrap64 (x / 72057594037927936 * 256)) (wrap64 (x / 281474976710656 % 256)) = x / 281474976710656 := by rw [or_byte (x / 72057594037927936) (x / 281474976710656 % 256) (by omega) (by omega) (by omega) (by omega)]; omega
  have o2 : Go.bits .or .i64 (wrap64 (x / 281474976710656 * 256)) (wrap64 (x / 1099511627776 % 256)) = x / 1099511627776 := by rw [or_byte (x / 281474976710656) (x / 1099511627776 % 256) (by omega) (by omega) (by omega) (by omega)]; omega
  have o3 : Go.bits .or .i64 (wrap64 (x / 1099511627776 * 256)) (wrap64 (x / 4294967296 % 256)) = x / 4294967296 := by rw [or_byte (x / 1099511627776) (x / 4294967296 % 256) (by omega) (by omega) (by omega) (by omega)]; omega
  have o4 : Go.bits .or .i64 (wrap64 (x / 4294967296 * 256)) (wrap64 (x / 16777216 % 256)) = x / 16777216 := by rw [or_byte (x / 4294967296) (x / 16777216 % 256) (by omega) (by omega) (by omega) (by omega)]; omega
  have o5 : Go.bits .or .i64 (wrap64 (x / 16777216 * 256)) (wrap64 (x / 65536 % 256)) = x / 65536 := by rw [or_byte (x / 16777216) (x / 65536 % 256) (by omega) (by omega) (by omega) (by omega)]; omega
  have o6 : Go.bits .or .i64 (wrap64 (x / 65536 * 256)) (wrap64 (x / 256 % 256)) = x / 256 := by rw [or_byte (x / 65536) (x / 256 % 256) (by omega) (by omega) (by omega) (by omega)]; omega
  have o7 : Go.bits .or .i64 (wrap64 (x / 256 * 256)) (wrap64 (x % 256)) = x := by rw [or_byte (x / 256) (x % 256) (by omega) (by omega) (by omega) (by omega)]; omega
  rw [hb]
  unfold varint_Get.f
  simp [rd, e1, e2, e3, e4, varint_Get.l0, o1, o2, o3, o4, o5, o6, o7, show wrap64 1 = 1 from w64i (by omega), show wrap64 2 = 2 from w64i (by omega), show wrap64 3 = 3 from w64i (by omega), show wrap64 4 = 4 from w64i (by omega), show wrap64 5 = 5 from w64i (by omega), show wrap64 6 = 6 from w64i (by omega), show wrap64 7 = 7 from w64i (by omega)]
  repeat (first | rw [if_pos (by omega)] | rw [if_neg (by omega)])
theorem len_w (x : Int) (h : 0 ≤ x) (h2 : x < 4611686018427387904) : varint_Len.f x = some ((numL x).length : Int) := by
  unfold varint_Len.f numL
  rw [if_pos (by omega), if_neg (by omega)]
  by_cases h1 : x < 64
  · rw [if_pos h1, if_pos h1]; rfl
  · rw [if_neg h1, if_neg h1]
    by_cases h3 : x < 16384
    · rw [if_pos h3, if_pos h3]; rfl
    · rw [if_neg h3, if_neg h3]
      by_cases h4 : x < 1073741824
      · rw [if_pos h4, if_pos h4]; rfl
      · rw [if_neg h4, if_neg h4, if_pos h2]; rfl
theorem get_num (x : Int) (rest : List Int) (h : 0 ≤ x) (h2 : x < 4611686018427387904) : varint_Get.f 10 (numL x ++ rest) = some (x, ((numL x).length : Int), 0) := by
  unfold numL
  by_cases h1 : x < 64
  · simp only [if_pos h1]; exact get_1 x rest h h1
  · simp only [if_neg h1]
    by_cases h3 : x < 16384
    · simp only [if_pos h3]; exact get_2 x rest (by omega) h3
    · simp only [if_neg h3]
      by_cases h4 : x < 1073741824
      · simp only [if_pos h4]; exact get_4 x rest (by omega) h4
      · simp only [if_neg h4]; exact get_8 x rest (by omega) h2
theorem short_num (x : Int) (rest : List Int) (h : 0 ≤ x) (h2 : x < 4611686018427387904) : varint_Shortest.f 10 (numL x ++ rest) = some (x, ((numL x).length : Int), 0) := by
  unfold varint_Shortest.f
  rw [get_num x rest h h2]
  simp only [Option.bind_some, if_pos]
  rw [len_w x h h2]
  simp
theorem get_short (b w : Int) (r : List Int) (hb : b / 64 = 0 ∨ b / 64 = 1 ∨ b / 64 = 2 ∨ b / 64 = 3) (hs : shl .i64 1 (b / 64) = w) (hl : (r.length : Int) + 1 < w) : varint_Get.f 10 (b :: r) = some (0, 0, 3) := by
  unfold varint_Get.f
  have e0 : rd (b :: r) 0 = b := rfl
  rw [e0, hs, List.length_cons, if_neg (by omega), if_pos (by omega), if_pos (by omega), if_pos (by omega)]
theorem get_cut (x : Int) (h : 0 ≤ x) (h2 : x < 4611686018427387904) (j : Nat) (hj : j < (numL x).length) : varint_Get.f 10 ((numL x).take j) = some (0, 0, 3) := by
  cases j with
  | zero => rfl
  | succ j =>
    have key : ∀ b r w, numL x = b :: r → (b / 64 = 0 ∨ b / 64 = 1 ∨ b / 64 = 2 ∨ b / 64 = 3) → shl .i64 1 (b / 64) = w → ((numL x).length : Int) = w → varint_Get.f 10 ((numL x).take (j + 1)) = some (0, 0, 3) := by
      intro b r w e hb hs hw
      rw [e] at hj hw ⊢
      rw [List.take_succ_cons]
      refine get_short b w _ hb hs ?_
      rw [List.length_take]
      simp only [List.length_cons] at hj hw
      omega
    unfold numL at key hj ⊢
    by_cases h1 : x < 64
    · simp only [if_pos h1] at hj; simp at hj
    · simp only [if_neg h1] at key hj ⊢
      by_cases h3 : x < 16384
      · simp only [if_pos h3] at key hj ⊢
        have e : (64 + x / 256) / 64 = 1 := by omega
        exact key _ _ 2 rfl (by omega) (by rw [e]; exact shl_w 1 (by omega)) rfl
      · simp only [if_neg h3] at key hj ⊢
        by_cases h4 : x < 1073741824
        · simp only [if_pos h4] at key hj ⊢
          have e : (128 + x / 16777216) / 64 = 2 := by omega
          exact key _ _ 4 rfl (by omega) (by rw [e]; exact shl_w 2 (by omega)) rfl
        · simp only [if_neg h4] at key hj ⊢
          have e : (192 + x / 72057594037927936) / 64 = 3 := by omega
          exact key _ _ 8 rfl (by omega) (by rw [e]; exact shl_w 3 (by omega)) rfl
theorem short_cut (x : Int) (h : 0 ≤ x) (h2 : x < 4611686018427387904) (j : Nat) (hj : j < (numL x).length) : varint_Shortest.f 10 ((numL x).take j) = some (0, 0, 3) := by
  unfold varint_Shortest.f
  rw [get_cut x h h2 j hj]
  rfl
theorem short_up (l : List Int) (r : Int × Int × Int) (h : varint_Shortest.f 10 l = some r) (k : Nat) (hk : 10 ≤ k) : varint_Shortest.f k l = some r := by
  have key : ∀ n, varint_Shortest.f (10 + n) l = some r := by
    intro n
    induction n with
    | zero => exact h
    | succ n ih => exact varint_Shortest.mono l (10 + n) r ih
  obtain ⟨n, rfl⟩ : ∃ n, k = 10 + n := ⟨k - 10, by omega⟩
  exact key n
end Go.Proofs.YtiohgpcbdefokaaDoor.B
/- What a record's bytes tell when they are read: plain laws. No condition. -/
namespace Go.Proofs.YtiohgpcbdefokaaDoor.B
open Go.RowKit Go.Proofs.YtiohgpcbdefokaaDoorW.PrintWords
/-- Numbers that are bytes. -/
def inB (l : List Int) : Prop := ∀ x ∈ l, 0 ≤ x ∧ x < 256
theorem inB_app {a b : List Int} (ha : inB a) (hb : inB b) : inB (a ++ b) := fun x hx => (List.mem_append.1 hx).elim (ha x) (hb x)
theorem inB_map (l : List UInt8) : inB (l.map fun b => (b.toNat : Int)) := by
  intro x hx
  obtain ⟨b, _, rfl⟩ := List.mem_map.1 hx
  have := b.toNat_lt
  omega
theorem inB_bytesOf (s : ByteArray) : inB (bytesOf s) := inB_map _
theorem inB_hsN (h : Hs) : inB (hsN h) := inB_map _
theorem inB_numL (x : Int) (h0 : 0 ≤ x) (h1 : x < 4611686018427387904) : inB (numL x) := by
  unfold numL
  intro y hy
  split at hy
  · simp only [List.mem_cons, List.not_mem_nil, or_false] at hy; omega
  · split at hy
    · simp only [List.mem_cons, List.not_mem_nil, or_false] at hy; omega
    · split at hy
      · simp only [List.mem_cons, List.not_mem_nil, or_false] at hy; omega
      · simp only [List.mem_cons, List.not_mem_nil, or_false] at hy; omega
theorem bytes_nums {l : List Int} (h : inB l) : bytesOf (strOfNums l) = l := by
  unfold bytesOf strOfNums
  simp only [List.map_map]
  conv => rhs; rw [← List.map_id l]
  apply List.map_congr_left
  intro x hx
  have := h x hx
  simp [UInt8.toNat_ofNat']
  omega
theorem nums_bytes (s : ByteArray) : strOfNums (bytesOf s) = s := by
  cases s with | mk d => simp [bytesOf, strOfNums, Function.comp_def]
theorem inB_tail {r : Rc} (h : ChkF r) : inB (tailL r) := by
  unfold tailL
  split
  · rename_i hk
    have := h.beg hk
    exact inB_app (inB_app (inB_numL _ (by omega) (by omega)) (inB_bytesOf _)) (inB_app (inB_hsN _) (inB_numL _ (by omega) (by omega)))
  · split
    · have := h.off
      exact inB_numL _ (by omega) (by omega)
    · intro x hx; cases hx
theorem inB_body {r : Rc} (h : ChkF r) (hk : 0 ≤ r.kind) : inB (bodyL r) := by
  have h1 := h.id
  have h2 := h.kind
  refine inB_app (inB_app ?_ (inB_numL _ (by omega) (by omega))) (inB_tail h)
  intro x hx
  obtain rfl : x = r.kind := by simpa using hx
  omega
theorem inB_seal {l : List Int} (h : inB l) : inB (CrcP.sealL l) := inB_app h (CrcP.four_in _)
/-- The bytes of a record's body with its sum, and how many they are. -/
theorem putL_eq {r : Rc} (h : ChkF r) (hk : 0 ≤ r.kind) : putL r = numL (((bodyL r).length + 4 : Nat) : Int) ++ CrcP.sealL (bodyL r) := by
  unfold putL textL
  rw [bytes_nums (inB_seal (inB_body h hk)), strOfNums_size, CrcP.sealL_len]
theorem open_seal (k : Nat) (l : List Int) (h : l.length ≤ 3000) (hk : 5 ≤ k) : crc_Open.f k (CrcP.sealL l) = some (l, 0) := by
  obtain ⟨k, rfl⟩ : ∃ n, k = n + 5 := ⟨k - 5, by omega⟩
  have hl := CrcP.sealL_len l
  unfold crc_Open.f
  rw [w64i (x := ((CrcP.sealL l).length : Int) - 4) (by omega)]
  have hn : (((CrcP.sealL l).length : Int) - 4).toNat = l.length := by omega
  rw [if_neg (by omega), if_pos (by omega), if_pos (by omega), hn]
  have e1 : (CrcP.sealL l).take l.length = l := by unfold CrcP.sealL; rw [List.take_left]
  have e2 : (CrcP.sealL l).drop l.length = CrcP.four (CrcP.V (CrcP.M 0#32 l)) := by unfold CrcP.sealL; rw [List.drop_left]
  rw [e1, e2, CrcP.of, Option.bind_some, CrcP.bytes4, Option.bind_some]
  unfold bytes_Equal.f bytes_Clone.f
  rw [Option.bind_some, if_pos (by simp), if_pos (by omega), Option.bind_some]
/-- A record's bytes are told to be whole. -/
theorem short_put {r : Rc} (h : ChkF r) (hk : 0 ≤ r.kind) (rest : List Int) (k : Nat) (hk2 : 10 ≤ k) : varint_Shortest.f k (putL r ++ rest) = some ((((bodyL r).length + 4 : Nat) : Int), ((numL (((bodyL r).length + 4 : Nat) : Int)).length : Int), 0) := by
  have hb := bodyL_len h
  rw [putL_eq h hk, List.append_assoc]
  exact short_up _ _ (short_num _ _ (by omega) (by omega)) k hk2
theorem putL_len {r : Rc} (h : ChkF r) (hk : 0 ≤ r.kind) : (putL r).length = (numL (((bodyL r).length + 4 : Nat) : Int)).length + (bodyL r).length + 4 := by
  rw [putL_eq h hk, List.length_append, CrcP.sealL_len]; omega
theorem putL_mid {r : Rc} (h : ChkF r) (hk : 0 ≤ r.kind) (rest : List Int) : ((putL r ++ rest).take (putL r).length).drop (numL (((bodyL r).length + 4 : Nat) : Int)).length = CrcP.sealL (bodyL r) := by
  rw [List.take_left, putL_eq h hk, List.drop_left]
theorem putL_pos {r : Rc} (h : ChkF r) (hk : 0 ≤ r.kind) : 5 ≤ (putL r).length := by
  rw [putL_len h hk]
  unfold bodyL
  simp only [List.length_append, List.length_singleton]
  omega
/-- Cut off: either the number of bytes is not whole, or fewer are left than it tells. -/
theorem short_cutP {r : Rc} (h : ChkF r) (hk : 0 ≤ r.kind) (j : Nat) (hj : j < (putL r).length) (k : Nat) (hk2 : 10 ≤ k) :
    varint_Shortest.f k ((putL r).take j) = some (0, 0, 3) ∨ ∃ u : Nat, varint_Shortest.f k ((putL r).take j) = some ((((bodyL r).length + 4 : Nat) : Int), (u : Int), 0) ∧ u ≤ j ∧ ((putL r).take j).length = j ∧ j - u < (bodyL r).length + 4 := by
  have hb := bodyL_len h
  have hl := putL_len h hk
  by_cases hc : j < (numL (((bodyL r).length + 4 : Nat) : Int)).length
  · left
    have e : (putL r).take j = (numL (((bodyL r).length + 4 : Nat) : Int)).take j := by
      rw [putL_eq h hk, List.take_append_of_le_length (by omega)]
    rw [e]
    exact short_up _ _ (short_cut _ (by omega) (by omega) j hc) k hk2
  · right
    refine ⟨(numL (((bodyL r).length + 4 : Nat) : Int)).length, ?_, by omega, by rw [List.length_take]; omega, by omega⟩
    have e : (putL r).take j = numL (((bodyL r).length + 4 : Nat) : Int) ++ (CrcP.sealL (bodyL r)).take (j - (numL (((bodyL r).length + 4 : Nat) : Int)).length) := by
      rw [putL_eq h hk, List.take_append, List.take_of_length_le (by omega)]
    rw [e]
    exact short_up _ _ (short_num _ _ (by omega) (by omega)) k hk2
end Go.Proofs.YtiohgpcbdefokaaDoor.B
/- field.Reader: what it has left, and its methods. No condition. -/
namespace Go.Proofs.YtiohgpcbdefokaaDoor.B
open Go.RowKit Go.Proofs.YtiohgpcbdefokaaDoorW.PrintWords Go.Proofs.YtiohgpcbdefokaaDoor.RowLaws
/-- A reader at block g: what is left, and its error. -/
def RdAt (w : World) (g : Nat) (l : List Int) (e : Int) : Prop := ∃ A c, w.heap[g]? = some (.cells #[.slice A l.length c, .int .i64 e] 162 (0, 0)) ∧ l.length ≤ c ∧ ∀ W, Only g w W → Kd.C (Kd.int .u8) W A l.length l
theorem RdAt.lt {w : World} {g : Nat} {l : List Int} {e : Int} (h : RdAt w g l e) : g < w.heap.size := by
  obtain ⟨A, c, h0, _⟩ := h
  exact (Array.getElem?_eq_some_iff.1 h0).1
theorem RdAt.below {w W : World} {g : Nat} {l : List Int} {e : Int} (h : RdAt w g l e) (hb : Below w.heap.size w W) : RdAt W g l e := by
  have hg := h.lt
  obtain ⟨A, c, h0, h1, h2⟩ := h
  exact ⟨A, c, (hb.block g hg).trans h0, h1, fun W' ho => h2 W' ((Only.of_below hb).trans ho)⟩
theorem rd_new {w : World} {A : Option Addr} {c : Nat} {l : List Int} (h : Kd.C (Kd.int .u8) w A l.length l) (hc : l.length ≤ c) : RdAt (w.alloc (.cells #[.slice A l.length c, .int .i64 0] 162)) w.heap.size l 0 :=
  ⟨A, c, heap_alloc_new _ _, hc, fun W ho => Kd.C_below h ((Below.alloc (Below.refl w.heap.size w) (Nat.le_refl _) _).trans (ho.below (Nat.le_refl _) (by simp)))⟩
theorem RdAt.err {w : World} {g : Nat} {l : List Int} {e : Int} (h : RdAt w g l e) (x : Int) : RdAt (w.setCell ⟨g, 1, none⟩ (.int .i64 x)) g l x := by
  obtain ⟨A, c, h0, h1, h2⟩ := h
  exact ⟨A, c, by rw [blk_set h0]; rfl, h1, fun W ho => h2 W (((Only.refl g w).setCell rfl _).trans ho)⟩
theorem RdAt.to {w : World} {g : Nat} {l l' : List Int} {e : Int} {A' : Option Addr} {c' : Nat} (h : RdAt w g l e) (hc : l'.length ≤ c') (h2 : ∀ W, Only g w W → Kd.C (Kd.int .u8) W A' l'.length l') : RdAt (w.setCell ⟨g, 0, none⟩ (.slice A' l'.length c')) g l' e := by
  obtain ⟨A, c, h0, h1, _⟩ := h
  exact ⟨A', c', by rw [blk_set h0]; rfl, hc, fun W ho => h2 W (((Only.refl g w).setCell rfl _).trans ho)⟩
/-- The reader's cells. -/
theorem RdAt.open {w : World} {g : Nat} {l : List Int} {e : Int} (h : RdAt w g l e) : ∃ A c, w.cell? ⟨g, 0, none⟩ = some (.slice A l.length c) ∧ w.cell? ⟨g, 1, none⟩ = some (.int .i64 e) ∧ w.frozen? ⟨g, 0, none⟩ = false ∧ w.frozen? ⟨g, 1, none⟩ = false ∧ l.length ≤ c ∧ ∀ W, Only g w W → Kd.C (Kd.int .u8) W A l.length l := by
  obtain ⟨A, c, h0, h1, h2⟩ := h
  exact ⟨A, c, cell_of_row _ _ _ _ _ _ h0, cell_of_row _ _ _ _ _ _ h0, blk_frozen h0 _, blk_frozen h0 _, h1, h2⟩
/-- Taking bytes off, in plain words. -/
def rawF (l : List Int) (e n : Int) : List Int × List Int × Int := if e = 0 then (if n < 0 then ([], l, 2) else if (l.length : Int) < n then ([], l, 3) else (l.take n.toNat, l.drop n.toNat, 0)) else ([], l, e)
set_option linter.unusedVariables false in
set_option maxHeartbeats 4000000 in
set_option maxRecDepth 100000 in
theorem fail_calls (g : Nat) (l : List Int) (x : Int) (w : World) (h : RdAt w g l 0) :
    Calls Tryd.prog 113 #[.pointer (some ⟨g, 0, none⟩), .int .i64 x] w fun e w' => e = .returned (.bool (!decide (x = 0))) ∧ RdAt w' g l x ∧ Only g w w' := by
  have HR := Aside0.mk h
  obtain ⟨A, c, k0, k1, f0, f1, _, _⟩ := h.open
  clear h
  by_cases hx : x = 0
  · subst hx
    go_enter Tryd.func113, Tryd.ntmps113
    go_wp2
    go_ret
    exact ⟨by simp, HR.out, Only.refl _ _⟩
  · have hd : decide (x = 0) = false := decide_eq_false hx
    have hn : (x != 0) = true := bne_iff_ne.2 hx
    clear hx
    go_enter Tryd.func113, Tryd.ntmps113
    go_wp2
    go_ret
    exact ⟨by rw [hd]; rfl, HR.out.err x, (Only.refl _ _).setCell rfl _⟩
set_option linter.unusedVariables false in
set_option maxHeartbeats 4000000 in
set_option maxRecDepth 100000 in
theorem Raw_calls (g : Nat) (l : List Int) (e n : Int) (w : World) (h : RdAt w g l e) :
    Calls Tryd.prog 90 #[.pointer (some ⟨g, 0, none⟩), .int .i64 n] w fun x w' => x = .returned (.string (strOfNums (rawF l e n).1)) ∧ RdAt w' g (rawF l e n).2.1 (rawF l e n).2.2 ∧ Only g w w' := by
  have HR := Aside0.mk h
  obtain ⟨A, c, k0, k1, f0, f1, hc, hC⟩ := h.open
  clear h
  by_cases he : e = 0
  · subst he
    by_cases hn : n < 0
    · have HF := Aside0.mk (show rawF l 0 n = ([], l, 2) by unfold rawF; rw [if_pos rfl, if_pos hn])
      have hd : decide (n < 0) = true := decide_eq_true hn
      clear hn hC
      go_enter Tryd.func90, Tryd.ntmps90
      go_wp2_with (go_at_call 113; refine (fail_calls g l 2 _ HR.out).mono ?_; rintro x2 w2 ⟨rfl, hr2, ho2⟩; have HR2 := Aside0.mk hr2; have HO2 := Aside0.mk ho2; clear hr2 ho2)
      go_ret
      exact ⟨by rw [HF.out]; rfl, by rw [HF.out]; exact HR2.out, HO2.out⟩
    · by_cases hl : (l.length : Int) < n
      · have HF := Aside0.mk (show rawF l 0 n = ([], l, 3) by unfold rawF; rw [if_pos rfl, if_neg hn, if_pos hl])
        have hd : decide (n < 0) = false := decide_eq_false hn
        have hd2 : decide ((l.length : Int) < n) = true := decide_eq_true hl
        clear hn hC hl
        go_enter Tryd.func90, Tryd.ntmps90
        go_wp2_with (go_at_call 113; refine (fail_calls g l 3 _ HR.out).mono ?_; rintro x2 w2 ⟨rfl, hr2, ho2⟩; have HR2 := Aside0.mk hr2; have HO2 := Aside0.mk ho2; clear hr2 ho2)
        go_ret
        exact ⟨by rw [HF.out]; rfl, by rw [HF.out]; exact HR2.out, HO2.out⟩
      · have HF := Aside0.mk (show rawF l 0 n = (l.take n.toNat, l.drop n.toNat, 0) by unfold rawF; rw [if_pos rfl, if_neg hn, if_neg hl])
        obtain ⟨i010, hi010, _, hsz10, _⟩ := info_parts info5
        obtain ⟨ht1, ht2, ht3⟩ := print_take_of (P := Tryd.prog) (Value.int .u8) 0 22 5 .i64 Tryd.underlying22 hi010 hsz10 A c l n (by omega) (by omega) hc
        obtain ⟨A2, hd1, hd2, hd3⟩ := print_drop_of (P := Tryd.prog) (Value.int .u8) 0 22 5 .i64 Tryd.underlying22 hi010 hsz10 A c l n (by omega) (by omega) hc
        obtain ⟨y1, hy1⟩ : ∃ y, l.take n.toNat = y := ⟨_, rfl⟩
        obtain ⟨y2, hy2⟩ : ∃ y, l.drop n.toNat = y := ⟨_, rfl⟩
        rw [hy1] at ht1 ht2 ht3 HF
        rw [hy2] at hd1 hd2 hd3 HF
        clear hy1 hy2
        have hcv := Kd.C_string (P := Tryd.prog) (src := 22) (dst := 9) (c := c) Tryd.underlying22 Tryd.underlying5 Tryd.underlying9 (Kd.C_of_reads (h1 := fun _ => rfl) (ht2 w (Kd.reads_of_C (hC w (Only.refl _ _)))))
        have HC2 := Aside0.mk (show ∀ W, Only g w W → Kd.C (Kd.int .u8) W A2 y2.length y2 from fun W ho => Kd.C_of_reads (h1 := fun _ => rfl) (hd2 W (Kd.reads_of_C (hC W ho))))
        have HC3 := Aside0.mk hd3
        have hcut1 := ht1 w
        have hcut2 := hd1 w
        have hd4 : decide (n < 0) = false := decide_eq_false hn
        have hd5 : decide ((l.length : Int) < n) = false := decide_eq_false hl
        clear hn hC hl ht1 ht2 ht3 hd1 hd2 hd3 hi010 hsz10 hc
        go_enter Tryd.func90, Tryd.ntmps90
        go_wp2
        go_ret
        exact ⟨by rw [HF.out]; rfl, by rw [HF.out]; exact HR.out.to HC3.out HC2.out, (Only.refl _ _).setCell rfl _⟩
  · have HF := Aside0.mk (show rawF l e n = ([], l, e) by unfold rawF; rw [if_neg he])
    have hd : decide (e = 0) = false := decide_eq_false he
    have hn : (e != 0) = true := bne_iff_ne.2 he
    clear he hC
    go_enter Tryd.func90, Tryd.ntmps90
    go_wp2
    go_ret
    exact ⟨by rw [HF.out]; rfl, by rw [HF.out]; exact HR.out, Only.refl _ _⟩
end Go.Proofs.YtiohgpcbdefokaaDoor.B
/- field.Reader: Byte, Num, Done. No condition. -/
namespace Go.Proofs.YtiohgpcbdefokaaDoor.B
open Go.RowKit Go.Proofs.YtiohgpcbdefokaaDoorW.PrintWords Go.Proofs.YtiohgpcbdefokaaDoor.RowLaws
/-- What comes behind a look at a number. -/
def lookF (n u e most : Int) : Int × Int × Int := if e = 0 ∧ most < n then (0, 0, 5) else (n, u, e)
set_option linter.unusedVariables false in
set_option maxHeartbeats 4000000 in
set_option maxRecDepth 100000 in
theorem look_calls (k g : Nat) (l : List Int) (e0 most n u e1 : Int) (w : World) (h : RdAt w g l e0) (hs : varint_Shortest.f k l = some (n, u, e1)) :
    Calls Tryd.prog 112 #[.pointer (some ⟨g, 0, none⟩), .int .i64 most] w fun x w' => x = .returned (.tuple #[.int .i64 (lookF n u e1 most).1, .int .i64 (lookF n u e1 most).2.1, .int .i64 (lookF n u e1 most).2.2]) ∧ Below w.heap.size w w' := by
  obtain ⟨A, c, k0, k1, f0, f1, hc, hC⟩ := h.open
  have HCC := Aside0.mk (hC w (Only.refl _ _))
  have HC0 := Aside0.mk hc
  have HS := Aside0.mk hs
  clear h hc hC hs
  by_cases h1 : e1 = 0
  · subst h1
    by_cases h2 : most < n
    · have HF := Aside0.mk (show lookF n u 0 most = (0, 0, 5) by unfold lookF; rw [if_pos ⟨rfl, h2⟩])
      have hd : decide (most < n) = true := decide_eq_true h2
      clear h2
      go_enter Tryd.func112, Tryd.ntmps112
      go_wp2_with (go_at_call 125; refine (varint_Shortest.calls k A c l n u 0 _ HCC.out HC0.out HS.out).mono ?_; rintro x w2 ⟨rfl, hb2⟩; have HB2 := Aside0.mk hb2; clear hb2)
      go_ret3
      exact ⟨by rw [HF.out]; rfl, HB2.out⟩
    · have HF := Aside0.mk (show lookF n u 0 most = (n, u, 0) by unfold lookF; rw [if_neg (fun h => h2 h.2)])
      have hd : decide (most < n) = false := decide_eq_false h2
      clear h2
      go_enter Tryd.func112, Tryd.ntmps112
      go_wp2_with (go_at_call 125; refine (varint_Shortest.calls k A c l n u 0 _ HCC.out HC0.out HS.out).mono ?_; rintro x w2 ⟨rfl, hb2⟩; have HB2 := Aside0.mk hb2; clear hb2)
      go_ret3
      exact ⟨by rw [HF.out]; rfl, HB2.out⟩
  · have HF := Aside0.mk (show lookF n u e1 most = (n, u, e1) by unfold lookF; rw [if_neg (fun h => h1 h.1)])
    have hd : decide (e1 = 0) = false := decide_eq_false h1
    have hn : (e1 != 0) = true := bne_iff_ne.2 h1
    have hn2 : (e1 == 0) = false := by simp [h1]
    clear h1
    go_enter Tryd.func112, Tryd.ntmps112
    go_wp2_with (go_at_call 125; refine (varint_Shortest.calls k A c l n u e1 _ HCC.out HC0.out HS.out).mono ?_; rintro x w2 ⟨rfl, hb2⟩; have HB2 := Aside0.mk hb2; clear hb2)
    go_ret3
    exact ⟨by rw [HF.out]; rfl, HB2.out⟩
def numP (n u e1 : Int) (l : List Int) (most : Int) : Int × List Int × Int := if (lookF n u e1 most).2.2 = 0 then ((lookF n u e1 most).1, l.drop (lookF n u e1 most).2.1.toNat, 0) else (0, l, (lookF n u e1 most).2.2)
set_option linter.unusedVariables false in
set_option maxHeartbeats 4000000 in
set_option maxRecDepth 100000 in
theorem Num_calls (k g : Nat) (l : List Int) (most n u e1 : Int) (w : World) (h : RdAt w g l 0) (hs : varint_Shortest.f k l = some (n, u, e1)) (hu : e1 = 0 → 0 ≤ u ∧ u ≤ l.length) :
    Calls Tryd.prog 65 #[.pointer (some ⟨g, 0, none⟩), .int .i64 most] w fun x w' => x = .returned (.int .i64 (numP n u e1 l most).1) ∧ RdAt w' g (numP n u e1 l most).2.1 (numP n u e1 l most).2.2 ∧ Only g w w' := by
  have HR := Aside0.mk h
  obtain ⟨A, c, k0, k1, f0, f1, hc, hC⟩ := h.open
  obtain ⟨⟨q1, q2, q3⟩, hq⟩ : ∃ q, lookF n u e1 most = q := ⟨_, rfl⟩
  have HL := Aside0.mk (look_calls k g l 0 most n u e1 w h hs)
  rw [hq] at HL
  simp only at HL
  have hlt := h.lt
  by_cases h3 : q3 = 0
  · subst h3
    have HF := Aside0.mk (show numP n u e1 l most = (q1, l.drop q2.toNat, 0) by unfold numP; rw [hq]; rfl)
    have hu2 : 0 ≤ q2 ∧ q2 ≤ l.length := by
      unfold lookF at hq
      split at hq
      · cases hq
      · injection hq with _ hq
        injection hq with hq1 hq2
        rw [← hq1]; exact hu hq2
    have HU := Aside0.mk hu2
    obtain ⟨y2, hy2⟩ : ∃ y, l.drop q2.toNat = y := ⟨_, rfl⟩
    rw [hy2] at HF
    have HY := Aside0.mk hy2
    clear h hs hu hq hu2 hy2 hc hC
    go_enter Tryd.func65, Tryd.ntmps65
    go_wp2_with (first
      | (go_at_call 112; refine HL.out.mono ?_; rintro x w2 ⟨rfl, hb2⟩; have HB2 := Aside0.mk hb2; have HR2 := Aside0.mk (HR.out.below hb2); clear hb2)
      | (go_at_call 113; refine (fail_calls g l 0 _ HR2.out).mono ?_; rintro x w3 ⟨rfl, hr3, ho3⟩; have HO3 := Aside0.mk ((Only.of_below HB2.out).trans ho3); have HR3 := Aside0.mk hr3; obtain ⟨A', c', m0, m1, g0, g1, hc', hC'⟩ := hr3.open;
          obtain ⟨A2, hd1, hd2, hd3⟩ := print_drop_of (P := Tryd.prog) (Value.int .u8) 0 22 5 .i64 Tryd.underlying22 (info_parts info5).choose_spec.1 (info_parts info5).choose_spec.2.2.1 A' c' l q2 HU.out.1 HU.out.2 hc';
          rw [HY.out] at hd1 hd2 hd3;
          have HC2 := Aside0.mk (show ∀ W, Only g w3 W → Kd.C (Kd.int .u8) W A2 y2.length y2 from fun W ho => Kd.C_of_reads (h1 := fun _ => rfl) (hd2 W (Kd.reads_of_C (hC' W ho))));
          have HC3 := Aside0.mk hd3;
          have hcut := hd1 w3;
          clear hr3 ho3 hc' hC' hd1 hd2 hd3))
    go_ret
    exact ⟨by rw [HF.out]; rfl, by rw [HF.out]; exact HR3.out.to HC3.out HC2.out, HO3.out.setCell rfl _⟩
  · have HF := Aside0.mk (show numP n u e1 l most = (0, l, q3) by unfold numP; rw [hq]; simp only; rw [if_neg h3])
    have hd : decide (q3 = 0) = false := decide_eq_false h3
    clear h hs hu hq hc hC h3
    go_enter Tryd.func65, Tryd.ntmps65
    go_wp2_with (first
      | (go_at_call 112; refine HL.out.mono ?_; rintro x w2 ⟨rfl, hb2⟩; have HB2 := Aside0.mk hb2; have HR2 := Aside0.mk (HR.out.below hb2); clear hb2)
      | (go_at_call 113; refine (fail_calls g l q3 _ HR2.out).mono ?_; rintro x w3 ⟨rfl, hr3, ho3⟩; have HO3 := Aside0.mk ((Only.of_below HB2.out).trans ho3); have HR3 := Aside0.mk hr3; clear hr3 ho3))
    go_ret
    exact ⟨by rw [HF.out]; rfl, by rw [HF.out]; exact HR3.out, HO3.out⟩
end Go.Proofs.YtiohgpcbdefokaaDoor.B
/- field.New; field.Reader: Byte, Err, Done. No condition. -/
namespace Go.Proofs.YtiohgpcbdefokaaDoor.B
open Go.RowKit Go.Proofs.YtiohgpcbdefokaaDoorW.PrintWords Go.Proofs.YtiohgpcbdefokaaDoor.RowLaws
set_option linter.unusedVariables false in
set_option maxHeartbeats 4000000 in
set_option maxRecDepth 100000 in
theorem New_calls (A : Option Addr) (c : Nat) (l : List Int) (w : World) (hC : Kd.C (Kd.int .u8) w A l.length l) (hc : l.length ≤ c) :
    Calls Tryd.prog 62 #[.slice A l.length c] w fun x w' => x = .returned (.pointer (some ⟨w.heap.size, 0, none⟩)) ∧ RdAt w' w.heap.size l 0 ∧ Below w.heap.size w w' := by
  have HC := Aside0.mk (rd_new hC hc)
  clear hC hc
  go_enter Tryd.func62, Tryd.ntmps62
  go_wp2
  go_ret
  exact ⟨rfl, HC.out, below_alloc (Below.refl _ _) _⟩
set_option linter.unusedVariables false in
set_option maxHeartbeats 4000000 in
set_option maxRecDepth 100000 in
theorem Byte_calls (g : Nat) (x : Int) (l : List Int) (w : World) (h : RdAt w g (x :: l) 0) (h0 : 0 ≤ x) (h1 : x < 256) :
    Calls Tryd.prog 89 #[.pointer (some ⟨g, 0, none⟩)] w fun e w' => e = .returned (.int .u8 x) ∧ RdAt w' g l 0 ∧ Only g w w' := by
  have HF := Aside0.mk (show rawF (x :: l) 0 1 = ([x], l, 0) by unfold rawF; rw [if_pos rfl, if_neg (by decide), if_neg (by simp only [List.length_cons]; omega)]; rfl)
  have HRW := Aside0.mk (Raw_calls g (x :: l) 0 1 w h)
  rw [HF.out] at HRW
  have hs : strOfNums [x] = ⟨#[x.toNat.toUInt8]⟩ := rfl
  have hx : ((x.toNat.toUInt8).toNat : Int) = x := by
    rw [UInt8.toNat_ofNat']
    omega
  have HX := Aside0.mk hx
  rw [hs] at HRW
  clear h h0 h1 HF hs hx
  go_enter Tryd.func89, Tryd.ntmps89
  go_wp2_with (go_at_call 90; refine HRW.out.mono ?_; rintro e w2 ⟨rfl, hr2, ho2⟩; have HR2 := Aside0.mk hr2; have HO2 := Aside0.mk ho2; clear hr2 ho2)
  go_ret
  exact ⟨show Ending.returned (Value.int .u8 ((x.toNat.toUInt8).toNat : Int)) = _ by rw [HX.out], HR2.out, HO2.out⟩
set_option linter.unusedVariables false in
set_option maxHeartbeats 4000000 in
set_option maxRecDepth 100000 in
theorem Err_calls (g : Nat) (l : List Int) (e : Int) (w : World) (h : RdAt w g l e) :
    Calls Tryd.prog 114 #[.pointer (some ⟨g, 0, none⟩)] w fun x w' => x = .returned (.int .i64 e) ∧ Below w.heap.size w w' := by
  obtain ⟨A, c, k0, k1, f0, f1, hc, hC⟩ := h.open
  clear h hc hC
  go_enter Tryd.func114, Tryd.ntmps114
  go_wp2
  go_ret
  exact ⟨rfl, Below.refl _ _⟩
def doneF (l : List Int) (e : Int) : Int := if e = 0 then (if l = [] then 0 else 4) else e
set_option linter.unusedVariables false in
set_option maxHeartbeats 4000000 in
set_option maxRecDepth 100000 in
theorem Done_calls (g : Nat) (l : List Int) (e : Int) (w : World) (h : RdAt w g l e) :
    Calls Tryd.prog 66 #[.pointer (some ⟨g, 0, none⟩)] w fun x w' => x = .returned (.int .i64 (doneF l e)) ∧ Below w.heap.size w w' := by
  have HR := Aside0.mk h
  have HE := Aside0.mk (Err_calls g l e w h)
  clear h
  by_cases he : e = 0
  · subst he
    cases l with
    | nil =>
      go_enter Tryd.func66, Tryd.ntmps66
      go_wp2_with (go_at_call 114; refine HE.out.mono ?_; rintro x w2 ⟨rfl, hb2⟩; have HB2 := Aside0.mk hb2; obtain ⟨A, c, k0, k1, f0, f1, _, _⟩ := (HR.out.below hb2).open; clear hb2)
      go_ret
      exact ⟨rfl, HB2.out⟩
    | cons y l =>
      have HF := Aside0.mk (show doneF (y :: l) 0 = 4 by unfold doneF; rw [if_pos rfl, if_neg (by simp)])
      have hl : (0 : Int) < ((y :: l).length : Int) := by simp only [List.length_cons]; omega
      obtain ⟨n, hn⟩ : ∃ n, (y :: l).length = n := ⟨_, rfl⟩
      rw [hn] at hl
      have HN := Aside0.mk hn
      clear hn
      go_enter Tryd.func66, Tryd.ntmps66
      go_wp2_with (go_at_call 114; refine HE.out.mono ?_; rintro x w2 ⟨rfl, hb2⟩; have HB2 := Aside0.mk hb2; obtain ⟨A, c, k0, k1, f0, f1, _, _⟩ := (HR.out.below hb2).open; rw [HN.out] at k0; clear hb2)
      go_ret
      exact ⟨by rw [HF.out]; rfl, HB2.out⟩
  · have HF := Aside0.mk (show doneF l e = e by unfold doneF; rw [if_neg he])
    have hd : decide (e = 0) = false := decide_eq_false he
    have hn : (e != 0) = true := bne_iff_ne.2 he
    clear he
    go_enter Tryd.func66, Tryd.ntmps66
    go_wp2_with (go_at_call 114; refine HE.out.mono ?_; rintro x w2 ⟨rfl, hb2⟩; have HB2 := Aside0.mk hb2; clear hb2)
    go_ret
    exact ⟨by rw [HF.out]; rfl, HB2.out⟩
end Go.Proofs.YtiohgpcbdefokaaDoor.B
/- slices.IndexFunc over parts, by the two predicates that record uses. No condition. -/
namespace Go.Proofs.YtiohgpcbdefokaaDoor.B
open Go.RowKit Go.Proofs.YtiohgpcbdefokaaDoorW.PrintWords
attribute [local go_sem ↓ high] lvO_hs ldO_hs stO_hs lvO_pt ldO_pt stO_pt zero_pt eqA_pt lvO_ptR ldO_ptR stO_ptR zero_ptR eqA_ptR lvO_rc ldO_rc stO_rc zero_rc eqA_rc lvO_rcR ldO_rcR stO_rcR zero_rcR eqA_rcR lvO_tk ldO_tk stO_tk zero_tk eqA_tk lvO_tkR ldO_tkR stO_tkR zero_tkR eqA_tkR lvO_it ldO_it stO_it zero_it eqA_it blO_pt blO_ptR blO_rc blO_rcR blO_tk blO_tkR blO_it bsO_pt bsO_ptR bsO_rc bsO_rcR bsO_it
attribute [local go_sem high] rowAt_setCell rowAt_setRow cell_setRow_ne isRow_setRow_ne rowAt_alloc rowAt_drew isRow_alloc isRow_drew isRow_setCell rowRun_some okL_hs ldV_hs ldA_hs stA_hs setRow_alloc get_pt_id get_pt_path cut_pt_sum get_pt_size get_pt_off cut_pt okL_pt size_pt lenb_pt eta_pt ldV_pt ldA_pt stA_pt ldV_ptR ldA_ptR stA_ptR get_rc_kind get_rc_id get_rc_path cut_rc_sum get_rc_size get_rc_off cut_rc okL_rc size_rc lenb_rc eta_rc ldV_rc ldA_rc stA_rc ldV_rcR ldA_rcR stA_rcR get_tk_path cut_tk_sum get_tk_size get_tk_off cut_tk_old cut_tk okL_tk size_tk lenb_tk eta_tk ldV_tk ldA_tk stA_tk ldV_tkR ldA_tkR stA_tkR get_it_path get_it_dir get_it_size cut_it_sum cut_it okL_it size_it lenb_it eta_it ldV_it ldA_it stA_it bld_pt_01234 bld_pt_0123 bld_pt_z bld_ptR_01234 bld_ptR_0123 bld_ptR_z bld_rc_012345 bld_rc_015 bld_rc_01 bld_rc_z bld_rc_01234 bld_rc_24 bld_rc_05 bld_rc_0 bld_rcR_012345 bld_rcR_015 bld_rcR_01 bld_rcR_z bld_rcR_01234 bld_rcR_24 bld_rcR_05 bld_rcR_0 bld_tk_01234 bld_tk_0 bld_tk_z bld_tkR_01234 bld_tkR_0 bld_tkR_z bld_it_0123 bld_it_023 bld_it_01 bld_it_0 bld_it_z bs0_pt bs1_pt bs0_ptR bs1_ptR bs0_rc bs1_rc bs0_rcR bs1_rcR bs0_it bs1_it
/-- The place of the first, or -1. -/
def fstI {α : Type} (p : α → Bool) (l : List α) : Int := match l.findIdx? p with
  | some i => i
  | none => -1
theorem fstI_hit {α : Type} {p : α → Bool} {l : List α} {k : Nat} {x : α} (hx : l[k]? = some x) (hp : p x = true) (hn : ∀ j, j < k → ∀ y, l[j]? = some y → p y = false) : fstI p l = k := by
  unfold fstI
  have hk := (List.getElem?_eq_some_iff.1 hx)
  have : l.findIdx? p = some k := by
    rw [List.findIdx?_eq_some_iff_getElem]
    refine ⟨hk.1, by rw [hk.2]; exact hp, fun j hj => ?_⟩
    have := hn j hj _ (List.getElem?_eq_getElem (show j < l.length by have := hk.1; omega))
    simpa using this
  rw [this]
theorem fstI_none {α : Type} {p : α → Bool} {l : List α} (hn : ∀ j, j < l.length → ∀ y, l[j]? = some y → p y = false) : fstI p l = -1 := by
  unfold fstI
  have : l.findIdx? p = none := by
    rw [List.findIdx?_eq_none_iff]
    intro x hx
    obtain ⟨j, hj, rfl⟩ := List.getElem_of_mem hx
    exact hn j hj _ (List.getElem?_eq_getElem hj)
  rw [this]
set_option maxRecDepth 100000 in
set_option maxHeartbeats 4000000 in
theorem byId (x : Pt) (id : Int) (g : Nat) (w : World) (h : w.cell? ⟨g, 1, none⟩ = some (.int .i64 id)) :
    Calls Tryd.prog 81 #[.agg (ptL x).toArray, .pointer (some ⟨g, 0, none⟩)] w fun e w' => e = .returned (.bool (decide (x.id = id))) ∧ Below w.heap.size w w' := by
  have hg := World.block_lt_of_cell? _ _ h
  have hn : ¬ g = w.heap.size := by have : g < w.heap.size := hg; omega
  go_enter Tryd.func81, Tryd.ntmps81
  go_wp2
  go_ret
  exact ⟨rfl, below_alloc (Below.refl _ _) _⟩
set_option maxRecDepth 100000 in
set_option maxHeartbeats 4000000 in
theorem byPath (x : Pt) (p : ByteArray) (g : Nat) (w : World) (h : w.cell? ⟨g, 0, none⟩ = some (.string p)) :
    Calls Tryd.prog 84 #[.agg (ptL x).toArray, .pointer (some ⟨g, 0, none⟩)] w fun e w' => e = .returned (.bool (decide (x.path = p))) ∧ Below w.heap.size w w' := by
  have hg := World.block_lt_of_cell? _ _ h
  have hn : ¬ g = w.heap.size := by have : g < w.heap.size := hg; omega
  go_enter Tryd.func84, Tryd.ntmps84
  go_wp2
  go_ret
  exact ⟨by rw [str_eq]; rfl, below_alloc (Below.refl _ _) _⟩
set_option maxRecDepth 100000 in
set_option maxHeartbeats 4000000 in
theorem idx_id (A : Option Addr) (c : Nat) (l : List Pt) (id : Int) (g : Nat) (w : World) (hC : Kd.C kPt w A l.length l) (hlen : l.length ≤ 1000) (h : w.cell? ⟨g, 1, none⟩ = some (.int .i64 id)) :
    Calls Tryd.prog 80 #[.slice A l.length c, .func (.func 81) #[] #[.pointer (some ⟨g, 0, none⟩)]] w fun e w' => e = .returned (.int .i64 (fstI (fun x => decide (x.id = id)) l)) ∧ Below w.heap.size w w' := by
  have hg := World.block_lt_of_cell? _ _ h
  have HC := Aside0.mk hC
  have HH := Aside0.mk h
  have HG := Aside0.mk hg
  clear hC h hg
  go_enter Tryd.func80, Tryd.ntmps80
  go_wp2
  go_loopw [8] (fun i wr => ∃ k : Nat, k ≤ l.length ∧ i = .int .i64 k ∧ Aside0 (Below w.heap.size w wr) ∧ Aside0 (∀ j, j < k → ∀ x, l[j]? = some x → decide (x.id = id) = false)) (fun i _ => l.length - (intOf i).toNat)
  case atStart => exact ⟨0, Nat.zero_le _, rfl, ⟨Below.refl _ _⟩, ⟨fun j hj => by omega⟩⟩
  case round =>
    obtain ⟨k, hk, rfl, HB, HN⟩ := hrel
    by_cases hlt : k < l.length
    · obtain ⟨b, o, hA, hb, hr⟩ := flat_at HC.out (by decide) (by omega)
      subst hA
      obtain ⟨hrow, _⟩ := hr k hlt
      rw [← rowAt_below HB.out hb] at hrow
      have HX := Aside0.mk (show l[k]? = some l[k] from List.getElem?_eq_getElem hlt)
      obtain ⟨x, hx⟩ : ∃ x, x = l[k] := ⟨_, rfl⟩
      rw [← hx] at hrow HX
      clear hr hx
      by_cases hp : x.id = id
      · have HP := Aside0.mk (decide_eq_true hp)
        clear hp
        go_wp2_with (go_at_call 81; refine (byId x _ g _ ((HB.out.cell HG.out).trans HH.out)).mono ?_; rintro e w2 ⟨rfl, hb2⟩; rw [HP.out]; have HB2 := Aside0.mk (below_step HB.out hb2); clear hb2)
        go_ret
        exact ⟨by rw [fstI_hit HX.out HP.out HN.out]; rfl, HB2.out⟩
      · have HP := Aside0.mk (decide_eq_false hp)
        clear hp
        go_wp2_with (go_at_call 81; refine (byId x _ g _ ((HB.out.cell HG.out).trans HH.out)).mono ?_; rintro e w2 ⟨rfl, hb2⟩; rw [HP.out]; have HB2 := Aside0.mk (below_step HB.out hb2); clear hb2)
        go_roundw
        case rel =>
          refine ⟨k + 1, by omega, by simp, HB2, ⟨fun j hj y hy => ?_⟩⟩
          by_cases hjk : j = k
          · subst hjk
            have := HX.out.symm.trans hy
            injection this with this
            subst this
            exact HP.out
          · exact HN.out j (by omega) y hy
        case measure => simp [intOf]; omega
    · have hk2 : k = l.length := by omega
      subst hk2
      go_wp2
      go_ret
      exact ⟨by rw [fstI_none HN.out]; rfl, HB.out⟩
set_option maxRecDepth 100000 in
set_option maxHeartbeats 4000000 in
theorem idx_path (A : Option Addr) (c : Nat) (l : List Pt) (p : ByteArray) (g : Nat) (w : World) (hC : Kd.C kPt w A l.length l) (hlen : l.length ≤ 1000) (h : w.cell? ⟨g, 0, none⟩ = some (.string p)) :
    Calls Tryd.prog 80 #[.slice A l.length c, .func (.func 84) #[] #[.pointer (some ⟨g, 0, none⟩)]] w fun e w' => e = .returned (.int .i64 (fstI (fun x => decide (x.path = p)) l)) ∧ Below w.heap.size w w' := by
  have hg := World.block_lt_of_cell? _ _ h
  have HC := Aside0.mk hC
  have HH := Aside0.mk h
  have HG := Aside0.mk hg
  clear hC h hg
  go_enter Tryd.func80, Tryd.ntmps80
  go_wp2
  go_loopw [8] (fun i wr => ∃ k : Nat, k ≤ l.length ∧ i = .int .i64 k ∧ Aside0 (Below w.heap.size w wr) ∧ Aside0 (∀ j, j < k → ∀ x, l[j]? = some x → decide (x.path = p) = false)) (fun i _ => l.length - (intOf i).toNat)
  case atStart => exact ⟨0, Nat.zero_le _, rfl, ⟨Below.refl _ _⟩, ⟨fun j hj => by omega⟩⟩
  case round =>
    obtain ⟨k, hk, rfl, HB, HN⟩ := hrel
    by_cases hlt : k < l.length
    · obtain ⟨b, o, hA, hb, hr⟩ := flat_at HC.out (by decide) (by omega)
      subst hA
      obtain ⟨hrow, _⟩ := hr k hlt
      rw [← rowAt_below HB.out hb] at hrow
      have HX := Aside0.mk (show l[k]? = some l[k] from List.getElem?_eq_getElem hlt)
      obtain ⟨x, hx⟩ : ∃ x, x = l[k] := ⟨_, rfl⟩
      rw [← hx] at hrow HX
      clear hr hx
      by_cases hp : x.path = p
      · have HP := Aside0.mk (decide_eq_true hp)
        clear hp
        go_wp2_with (go_at_call 84; refine (byPath x _ g _ ((HB.out.cell HG.out).trans HH.out)).mono ?_; rintro e w2 ⟨rfl, hb2⟩; rw [HP.out]; have HB2 := Aside0.mk (below_step HB.out hb2); clear hb2)
        go_ret
        exact ⟨by rw [fstI_hit HX.out HP.out HN.out]; rfl, HB2.out⟩
      · have HP := Aside0.mk (decide_eq_false hp)
        clear hp
        go_wp2_with (go_at_call 84; refine (byPath x _ g _ ((HB.out.cell HG.out).trans HH.out)).mono ?_; rintro e w2 ⟨rfl, hb2⟩; rw [HP.out]; have HB2 := Aside0.mk (below_step HB.out hb2); clear hb2)
        go_roundw
        case rel =>
          refine ⟨k + 1, by omega, by simp, HB2, ⟨fun j hj y hy => ?_⟩⟩
          by_cases hjk : j = k
          · subst hjk
            have := HX.out.symm.trans hy
            injection this with this
            subst this
            exact HP.out
          · exact HN.out j (by omega) y hy
        case measure => simp [intOf]; omega
    · have hk2 : k = l.length := by omega
      subst hk2
      go_wp2
      go_ret
      exact ⟨by rw [fstI_none HN.out]; rfl, HB.out⟩
end Go.Proofs.YtiohgpcbdefokaaDoor.B
/- record.Find: which part a path is. No condition. -/
namespace Go.Proofs.YtiohgpcbdefokaaDoor.B
open Go.RowKit Go.Proofs.YtiohgpcbdefokaaDoorW.PrintWords
attribute [local go_sem ↓ high] lvO_hs ldO_hs stO_hs lvO_pt ldO_pt stO_pt zero_pt eqA_pt lvO_ptR ldO_ptR stO_ptR zero_ptR eqA_ptR lvO_rc ldO_rc stO_rc zero_rc eqA_rc lvO_rcR ldO_rcR stO_rcR zero_rcR eqA_rcR lvO_tk ldO_tk stO_tk zero_tk eqA_tk lvO_tkR ldO_tkR stO_tkR zero_tkR eqA_tkR lvO_it ldO_it stO_it zero_it eqA_it blO_pt blO_ptR blO_rc blO_rcR blO_tk blO_tkR blO_it bsO_pt bsO_ptR bsO_rc bsO_rcR bsO_it
attribute [local go_sem high] rowAt_setCell rowAt_setRow cell_setRow_ne isRow_setRow_ne rowAt_alloc rowAt_drew isRow_alloc isRow_drew isRow_setCell rowRun_some okL_hs ldV_hs ldA_hs stA_hs setRow_alloc get_pt_id get_pt_path cut_pt_sum get_pt_size get_pt_off cut_pt okL_pt size_pt lenb_pt eta_pt ldV_pt ldA_pt stA_pt ldV_ptR ldA_ptR stA_ptR get_rc_kind get_rc_id get_rc_path cut_rc_sum get_rc_size get_rc_off cut_rc okL_rc size_rc lenb_rc eta_rc ldV_rc ldA_rc stA_rc ldV_rcR ldA_rcR stA_rcR get_tk_path cut_tk_sum get_tk_size get_tk_off cut_tk_old cut_tk okL_tk size_tk lenb_tk eta_tk ldV_tk ldA_tk stA_tk ldV_tkR ldA_tkR stA_tkR get_it_path get_it_dir get_it_size cut_it_sum cut_it okL_it size_it lenb_it eta_it ldV_it ldA_it stA_it bld_pt_01234 bld_pt_0123 bld_pt_z bld_ptR_01234 bld_ptR_0123 bld_ptR_z bld_rc_012345 bld_rc_015 bld_rc_01 bld_rc_z bld_rc_01234 bld_rc_24 bld_rc_05 bld_rc_0 bld_rcR_012345 bld_rcR_015 bld_rcR_01 bld_rcR_z bld_rcR_01234 bld_rcR_24 bld_rcR_05 bld_rcR_0 bld_tk_01234 bld_tk_0 bld_tk_z bld_tkR_01234 bld_tkR_0 bld_tkR_z bld_it_0123 bld_it_023 bld_it_01 bld_it_0 bld_it_z bs0_pt bs1_pt bs0_ptR bs1_ptR bs0_rc bs1_rc bs0_rcR bs1_rcR bs0_it bs1_it
theorem fstI_cases {α : Type} (p : α → Bool) (l : List α) : (fstI p l = -1 ∧ ∀ x ∈ l, p x = false) ∨ ∃ i x, fstI p l = ((i : Nat) : Int) ∧ l[i]? = some x ∧ p x = true ∧ ∀ j, j < i → ∀ y, l[j]? = some y → p y = false := by
  unfold fstI
  cases h : l.findIdx? p with
  | none => exact .inl ⟨rfl, by rw [List.findIdx?_eq_none_iff] at h; exact h⟩
  | some i =>
    rw [List.findIdx?_eq_some_iff_getElem] at h
    obtain ⟨h1, h2, h3⟩ := h
    refine .inr ⟨i, l[i], rfl, List.getElem?_eq_getElem h1, h2, fun j hj y hy => ?_⟩
    have := h3 j hj
    rw [List.getElem?_eq_getElem (by omega)] at hy
    injection hy with hy
    rw [← hy]; simpa using this
/-- The part of a path. -/
def findP (l : List Pt) (p : ByteArray) : Pt × Bool := match l.find? (fun x => decide (x.path = p)) with
  | some x => (x, true)
  | none => (Pt.zero, false)
theorem findP_none {l : List Pt} {p : ByteArray} (h : ∀ x ∈ l, decide (x.path = p) = false) : findP l p = (Pt.zero, false) := by
  unfold findP
  rw [List.find?_eq_none.2 (fun x hx => by rw [h x hx]; decide)]
theorem findP_some {l : List Pt} {p : ByteArray} {i : Nat} {x : Pt} (hx : l[i]? = some x) (hp : decide (x.path = p) = true) (hn : ∀ j, j < i → ∀ y, l[j]? = some y → decide (y.path = p) = false) : findP l p = (x, true) := by
  unfold findP
  have hi := List.getElem?_eq_some_iff.1 hx
  have : l.find? (fun x => decide (x.path = p)) = some x := by
    rw [List.find?_eq_some_iff_getElem]
    refine ⟨hp, i, hi.1, hi.2, fun j hj => ?_⟩
    have := hn j hj _ (List.getElem?_eq_getElem (show j < l.length by have := hi.1; omega))
    simpa using this
  rw [this]
set_option maxRecDepth 100000 in
set_option maxHeartbeats 4000000 in
theorem Find_calls (A : Option Addr) (c : Nat) (l : List Pt) (nx : Int) (p : ByteArray) (w : World) (hC : Kd.C kPt w A l.length l) (hlen : l.length ≤ 1000) :
    Calls Tryd.prog 33 #[.agg #[.slice A l.length c, .int .i64 nx], .string p] w fun e w' => e = .returned (.tuple #[.agg (ptL (findP l p).1).toArray, .bool (findP l p).2]) ∧ Below w.heap.size w w' := by
  have HC := Aside0.mk hC
  rcases fstI_cases (fun x : Pt => decide (x.path = p)) l with ⟨hi, hn⟩ | ⟨i, x, hi, hx, hp, hn⟩
  · have HI := Aside0.mk hi
    have HF := Aside0.mk (findP_none hn)
    clear hC hi hn
    go_enter Tryd.func33, Tryd.ntmps33
    go_wp2_with (go_at_call 80; refine (idx_path A c l p _ _ (Kd.C_below HC.out ?_) hlen ?_).mono ?_; (exact below_alloc (below_alloc (below_alloc (Below.refl _ _) _) _) _); (go_simp); rintro e w2 ⟨rfl, hb2⟩; rw [HI.out]; have hr2 : isRow w2 (w.heap.size + 1 + 1) 36 = true := (by rw [isRow_below hb2 (by simp)]; go_simp); have HB2 := Aside0.mk (Below.trans (below_alloc (below_alloc (below_alloc (Below.refl w.heap.size w) _) _) _) (hb2.mono (by simp; omega))); clear hb2)
    refine bodyPost_ret (v := .tuple #[.agg (ptL Pt.zero).toArray, .bool false]) (res2 rfl rfl (lv_pt (by rw [rowAt_setRow_same hr2 _ _ _ (by decide), cut_pt]; rfl)) rfl) rfl ⟨by rw [HF.out], below_setRow HB2.out (by omega) _⟩
  · have HI := Aside0.mk hi
    have HF := Aside0.mk (findP_some hx hp hn)
    have hil := (List.getElem?_eq_some_iff.1 hx)
    obtain ⟨b, o, hA, hb, hr⟩ := flat_at hC (by decide) (Nat.lt_of_le_of_lt (Nat.zero_le _) hil.1)
    subst hA
    have hrow := (hr i hil.1).1
    rw [hil.2] at hrow
    have hil := hil.1
    have HR := Aside0.mk hrow
    clear hC hi hn hx hp hr hrow
    go_enter Tryd.func33, Tryd.ntmps33
    go_wp2_with (go_at_call 80; refine (idx_path _ c l p _ _ (Kd.C_below HC.out ?_) hlen ?_).mono ?_; (exact below_alloc (below_alloc (below_alloc (Below.refl _ _) _) _) _); (go_simp); rintro e w2 ⟨rfl, hb2⟩; rw [HI.out]; have hr2 : isRow w2 (w.heap.size + 1 + 1) 36 = true := (by rw [isRow_below hb2 (by simp)]; go_simp); have hc2 : w2.cell? ⟨w.heap.size, 0, none⟩ = some (.slice (some ⟨b, o, none⟩) l.length c) := (by rw [hb2.cell (p := ⟨w.heap.size, 0, none⟩) (by simp; omega)]; go_simp); have hb3 := (Below.trans (below_alloc (below_alloc (below_alloc (Below.refl w.heap.size w) _) _) _) (hb2.mono (by simp; omega))); have hx2 := HR.out; rw [← rowAt_below hb3 hb] at hx2; have HB2 := Aside0.mk hb3; clear hb2 hb3)
    refine bodyPost_ret (v := .tuple #[.agg (ptL x).toArray, .bool true]) (res2 rfl rfl (lv_pt (by rw [rowAt_setRow_same hr2 _ _ _ (by decide), cut_pt])) rfl) rfl ⟨by rw [HF.out], below_setRow HB2.out (by omega) _⟩
end Go.Proofs.YtiohgpcbdefokaaDoor.B
/- slices.Clone, slices.Delete over parts; (State).own. No condition. -/
namespace Go.Proofs.YtiohgpcbdefokaaDoor.B
open Go.RowKit Go.Proofs.YtiohgpcbdefokaaDoorW.PrintWords Go.Proofs.YtiohgpcbdefokaaDoor.RowLaws
attribute [local go_sem ↓ high] lvO_hs ldO_hs stO_hs lvO_pt ldO_pt stO_pt zero_pt eqA_pt lvO_ptR ldO_ptR stO_ptR zero_ptR eqA_ptR lvO_rc ldO_rc stO_rc zero_rc eqA_rc lvO_rcR ldO_rcR stO_rcR zero_rcR eqA_rcR lvO_tk ldO_tk stO_tk zero_tk eqA_tk lvO_tkR ldO_tkR stO_tkR zero_tkR eqA_tkR lvO_it ldO_it stO_it zero_it eqA_it blO_pt blO_ptR blO_rc blO_rcR blO_tk blO_tkR blO_it bsO_pt bsO_ptR bsO_rc bsO_rcR bsO_it
attribute [local go_sem high] rowAt_setCell rowAt_setRow cell_setRow_ne isRow_setRow_ne rowAt_alloc rowAt_drew isRow_alloc isRow_drew isRow_setCell rowRun_some okL_hs ldV_hs ldA_hs stA_hs setRow_alloc get_pt_id get_pt_path cut_pt_sum get_pt_size get_pt_off cut_pt okL_pt size_pt lenb_pt eta_pt ldV_pt ldA_pt stA_pt ldV_ptR ldA_ptR stA_ptR get_rc_kind get_rc_id get_rc_path cut_rc_sum get_rc_size get_rc_off cut_rc okL_rc size_rc lenb_rc eta_rc ldV_rc ldA_rc stA_rc ldV_rcR ldA_rcR stA_rcR get_tk_path cut_tk_sum get_tk_size get_tk_off cut_tk_old cut_tk okL_tk size_tk lenb_tk eta_tk ldV_tk ldA_tk stA_tk ldV_tkR ldA_tkR stA_tkR get_it_path get_it_dir get_it_size cut_it_sum cut_it okL_it size_it lenb_it eta_it ldV_it ldA_it stA_it bld_pt_01234 bld_pt_0123 bld_pt_z bld_ptR_01234 bld_ptR_0123 bld_ptR_z bld_rc_012345 bld_rc_015 bld_rc_01 bld_rc_z bld_rc_01234 bld_rc_24 bld_rc_05 bld_rc_0 bld_rcR_012345 bld_rcR_015 bld_rcR_01 bld_rcR_z bld_rcR_01234 bld_rcR_24 bld_rcR_05 bld_rcR_0 bld_tk_01234 bld_tk_0 bld_tk_z bld_tkR_01234 bld_tkR_0 bld_tkR_z bld_it_0123 bld_it_023 bld_it_01 bld_it_0 bld_it_z bs0_pt bs1_pt bs0_ptR bs1_ptR bs0_rc bs1_rc bs0_rcR bs1_rcR bs0_it bs1_it
theorem bcell {W w1 : World} (hb : Below W.heap.size W w1) : (∀ b o, b < W.heap.size → w1.cell? ⟨b, o, none⟩ = W.cell? ⟨b, o, none⟩) ∧ (∀ b o, b < W.heap.size → w1.frozen? ⟨b, o, none⟩ = W.frozen? ⟨b, o, none⟩) :=
  ⟨fun b o h => hb.cell (p := ⟨b, o, none⟩) h, fun b o h => hb.frozen (p := ⟨b, o, none⟩) h⟩
theorem flat_elder {α : Type} {n : Nat} {enc : α → List Value} {hl : ∀ x, (enc x).length = n} {h1 : ∀ x, ∀ v ∈ enc x, v.oneCell' = true} {e : Nat} {W W' : World} {B : Nat} {ok : Nat → Prop} {v : Value} {xs : List α} (h : Kd.R (flat n enc hl h1) e W B ok v xs) (hm : ∀ k, B ≤ k → W'.heap[k]? = W.heap[k]?) : Kd.R (flat n enc hl h1) e W' B ok v xs := by
  obtain ⟨h0, inner, ho, hr⟩ := h
  exact ⟨h0, inner, own_move ho (fun k hk => hm k (own_base ho k hk)), hr⟩
theorem flat_keep {α : Type} {n : Nat} {enc : α → List Value} {hl : ∀ x, (enc x).length = n} {h1 : ∀ x, ∀ v ∈ enc x, v.oneCell' = true} {e : Nat} {W : World} {B g o : Nat} {u : Value} {ok : Nat → Prop} {v : Value} {xs : List α} (h : Kd.R (flat n enc hl h1) e W B ok v xs) (hg : v.ownBlock ≠ some g) : Kd.R (flat n enc hl h1) e (W.setCell ⟨g, o, none⟩ u) B ok v xs := by
  obtain ⟨h0, inner, ho, hr⟩ := h
  exact ⟨h0, inner, own_move ho (fun k hk => Below.heap_setCell _ _ _ _ (by show k ≠ g; intro e; exact hg (by rw [hk, e]))), hr⟩
theorem flat_put {α : Type} {n : Nat} {enc : α → List Value} {hl : ∀ x, (enc x).length = n} {h1 : ∀ x, ∀ v ∈ enc x, v.oneCell' = true} {e : Nat} {W : World} {B g o : Nat} {u : Value} {ok : Nat → Prop} {v : Value} {xs : List α} (h : Kd.R (flat n enc hl h1) e W B ok v xs) (hg : g < B) : Kd.R (flat n enc hl h1) e (W.setCell ⟨g, o, none⟩ u) B ok v xs :=
  flat_elder h fun k hk => Below.heap_setCell _ _ _ _ (by show k ≠ g; omega)
theorem infoPt : (Tryd.prog.info? 75).map (fun i => (i.zero, i.size, i.bytes)) = some (some (.agg (ptL Pt.zero).toArray), 36, 72) := by kernel_rfl
set_option maxHeartbeats 4000000 in
set_option maxRecDepth 100000 in
theorem Clone_calls (A : Option Addr) (c : Nat) (l : List Pt) (w : World) (hC : Kd.C kPt w A l.length l) (hc : l.length ≤ c) (hlen : l.length ≤ 1000) :
    Calls Tryd.prog 124 #[.slice A l.length c] w fun e w' => ∃ v : Value, e = .returned v ∧ Kd.R kPt 75 w' w.heap.size (fun _ => True) v l ∧ Below w.heap.size w w' := by
  have HR := Aside0.mk hC
  have HB := Aside0.mk (Below.refl w.heap.size w)
  clear hC
  have hnil := fun W a n c => Lib.run_eql_slice_nil (P := Tryd.prog) W 58 75 a n c 0 0 Tryd.underlying58
  cases A with
  | none =>
    have hn : l = [] := by
      rcases Nat.eq_zero_or_pos l.length with h0 | h0
      · exact List.eq_nil_of_length_eq_zero h0
      · obtain ⟨ad, he, _⟩ := HR.out.2.2 h0
        cases he
    subst hn
    go_enter Tryd.func124, Tryd.ntmps124
    go_wp2
    go_ret
    exact ⟨_, rfl, Kd.R_nil _ _ _ _ _, Below.refl _ _⟩
  | some ad =>
    go_enter Tryd.func124, Tryd.ntmps124
    go_wp2_with (first
      | ((with_reducible refine gate_dst (N := 5) rfl ?_); refine Kd.R_lit kPt _ 75 ?hg (N := 5) ?hd (xs := ([] : List Pt)) (inner := []) (ok := fun _ => True) (okp := fun _ => True) ?hr ?hp (fun _ hk => hk) trivial (Below.refl _ _) (Nat.le_refl _) (by simp) ?_; (case hd => rfl); (case hg => rfl); (case hr => first | (go_simp; done) | (go_simp; rfl)); (case hp => exact (Reps.none _ _)); intro v1 w1 ho hb _ _; have HO1 := Aside0.mk ho; have HB1 := Aside0.mk hb; clear ho hb)
      | ((with_reducible refine gate_builtin (b := .append) (xs := #[.tmp 5, .tmp 6]) rfl ?_); at_builtin; refine Kd.R_append_rows kPt (w0 := w) w.heap.size rfl (.tmp 5) (.tmp 6) 58 75 _ 72 rfl Tryd.underlying58 infoPt (ptL_len _) (by decide) (by omega) v1 [] l _ _ _ (fun _ => True) (fun _ => False) rfl rfl ?aO ?aR (fun _ _ h => h) (fun _ h => h.elim) ?aF ?aB ?aS ?aL ?_; (case aR => exact Kd.C_below HR.out HB1.out); (case aB => exact HB1.out); (case aF => exact (fun _ _ => trivial)); (case aO => exact HO1.out); (case aS => exact HB1.out.size); (case aL => simp; omega); intro v2 w2 ho hb _ _; have HO2 := Aside0.mk ho; have HB2 := Aside0.mk hb; clear ho hb))
    go_ret
    exact ⟨_, rfl, Kd.R_mono (by simpa using HO2.out) (fun _ _ => trivial), HB2.out⟩
#print axioms Clone_calls
end Go.Proofs.YtiohgpcbdefokaaDoor.B
/- record.read of a mark's body. No condition. -/
namespace Go.Proofs.YtiohgpcbdefokaaDoor.B
open Go.RowKit Go.Proofs.YtiohgpcbdefokaaDoorW.PrintWords Go.Proofs.YtiohgpcbdefokaaDoor.RowLaws
attribute [local go_sem ↓ high] lvO_hs ldO_hs stO_hs lvO_pt ldO_pt stO_pt zero_pt eqA_pt lvO_ptR ldO_ptR stO_ptR zero_ptR eqA_ptR lvO_rc ldO_rc stO_rc zero_rc eqA_rc lvO_rcR ldO_rcR stO_rcR zero_rcR eqA_rcR lvO_tk ldO_tk stO_tk zero_tk eqA_tk lvO_tkR ldO_tkR stO_tkR zero_tkR eqA_tkR lvO_it ldO_it stO_it zero_it eqA_it blO_pt blO_ptR blO_rc blO_rcR blO_tk blO_tkR blO_it bsO_pt bsO_ptR bsO_rc bsO_rcR bsO_it
attribute [local go_sem high] rowAt_setCell rowAt_setRow cell_setRow_ne isRow_setRow_ne rowAt_alloc rowAt_drew isRow_alloc isRow_drew isRow_setCell rowRun_some okL_hs ldV_hs ldA_hs stA_hs setRow_alloc get_pt_id get_pt_path cut_pt_sum get_pt_size get_pt_off cut_pt okL_pt size_pt lenb_pt eta_pt ldV_pt ldA_pt stA_pt ldV_ptR ldA_ptR stA_ptR get_rc_kind get_rc_id get_rc_path cut_rc_sum get_rc_size get_rc_off cut_rc okL_rc size_rc lenb_rc eta_rc ldV_rc ldA_rc stA_rc ldV_rcR ldA_rcR stA_rcR get_tk_path cut_tk_sum get_tk_size get_tk_off cut_tk_old cut_tk okL_tk size_tk lenb_tk eta_tk ldV_tk ldA_tk stA_tk ldV_tkR ldA_tkR stA_tkR get_it_path get_it_dir get_it_size cut_it_sum cut_it okL_it size_it lenb_it eta_it ldV_it ldA_it stA_it bld_pt_01234 bld_pt_0123 bld_pt_z bld_ptR_01234 bld_ptR_0123 bld_ptR_z bld_rc_012345 bld_rc_015 bld_rc_01 bld_rc_z bld_rc_01234 bld_rc_24 bld_rc_05 bld_rc_0 bld_rcR_012345 bld_rcR_015 bld_rcR_01 bld_rcR_z bld_rcR_01234 bld_rcR_24 bld_rcR_05 bld_rcR_0 bld_tk_01234 bld_tk_0 bld_tk_z bld_tkR_01234 bld_tkR_0 bld_tkR_z bld_it_0123 bld_it_023 bld_it_01 bld_it_0 bld_it_z bs0_pt bs1_pt bs0_ptR bs1_ptR bs0_rc bs1_rc bs0_rcR bs1_rcR bs0_it bs1_it
theorem isRow_only {w w' : World} {g b n : Nat} (h : Only g w w') (hb : b < w.heap.size) (hne : b ≠ g) : isRow w' b n = isRow w b n := by
  unfold isRow
  rw [h.block b hb (by intro e; injection e with e; exact hne e)]
theorem rcL_off (r : Rc) (x : Int) : (rcL r).toArray.setIfInBounds 36 (.int .i64 x) = (rcL { r with off := x }).toArray := by
  obtain ⟨b0, b1, b2, b3, b4, b5, b6, b7, b8, b9, b10, b11, b12, b13, b14, b15, b16, b17, b18, b19, b20, b21, b22, b23, b24, b25, b26, b27, b28, b29, b30, b31, e0⟩ := hs_lit r.sum
  simp [rcL, e0]
/-- A row made whole, with its last cell written. -/
theorem row_off {w w5 : World} {g : Nat} {r : Rc} {x : Int} (ho : Only g (w.alloc (.cells (rcL r).toArray 51)) w5) (hg : g < w.heap.size) : rowAt (w5.setCell ⟨w.heap.size, 36, none⟩ (.int .i64 x)) ⟨w.heap.size, 0, none⟩ 37 = some (rcL { r with off := x }) ∧ w5.frozen? ⟨w.heap.size, 36, none⟩ = false ∧ w5.cell? ⟨w.heap.size, 36, none⟩ = some (.int .i64 r.off) := by
  have h0 : w5.heap[w.heap.size]? = some (.cells (rcL r).toArray 51 (0, 0)) := (ho.block _ (by simp) (by intro e; injection e; omega)).trans (heap_alloc_new _ _)
  refine ⟨?_, blk_frozen h0 _, ?_⟩
  · have h1 := blk_set h0 36 (.int .i64 x)
    rw [rcL_off] at h1
    rw [rowAt_block h1 0 37 (by simp [rcL_len])]
    rw [List.drop_zero, List.take_of_length_le (by simp [rcL_len])]
  · rw [cell_of_row _ _ _ _ _ _ h0]
    obtain ⟨b0, b1, b2, b3, b4, b5, b6, b7, b8, b9, b10, b11, b12, b13, b14, b15, b16, b17, b18, b19, b20, b21, b22, b23, b24, b25, b26, b27, b28, b29, b30, b31, e0⟩ := hs_lit r.sum
    simp [rcL, e0]
theorem isRow_lt {w : World} {g n : Nat} (h : isRow w g n = true) : g < w.heap.size := by
  obtain ⟨cs, t, hc, _⟩ := isRow_get h
  exact (Array.getElem?_eq_some_iff.1 hc).1
theorem keepRd {r : Rc} {b g h : Nat} {w W : World} (hS : rowAt w ⟨b, 0, none⟩ 37 = some (rcL r) ∧ isRow w h 37 = true ∧ RdAt w g [] 0 ∧ TabOK w) (hb : Below w.heap.size w W) : rowAt W ⟨b, 0, none⟩ 37 = some (rcL r) ∧ isRow W h 37 = true ∧ RdAt W g [] 0 ∧ TabOK W := by
  obtain ⟨h1, h2, h3, h4⟩ := hS
  have hlt : b < w.heap.size := by
    have := (rowAt_some h1).2 0 _ (List.getElem?_eq_getElem (show 0 < (rcL r).length by rw [rcL_len]; decide))
    exact World.block_lt_of_cell? _ _ this
  exact ⟨by rw [rowAt_below hb hlt]; exact h1, by rw [isRow_below hb (isRow_lt h2)]; exact h2, h3.below hb, h4.below hb⟩
theorem keepRd2 {r q : Rc} {b g h : Nat} {w : World} (hS : rowAt w ⟨b, 0, none⟩ 37 = some (rcL r) ∧ isRow w h 37 = true ∧ RdAt w g [] 0 ∧ TabOK w) (h1 : b ≠ h) (h2 : g ≠ h) (hT : TabOK (w.setRow h (rcL q).toArray)) :
    rowAt (w.setRow h (rcL q).toArray) ⟨b, 0, none⟩ 37 = some (rcL r) ∧ isRow (w.setRow h (rcL q).toArray) h 37 = true ∧ RdAt (w.setRow h (rcL q).toArray) g [] 0 ∧ TabOK (w.setRow h (rcL q).toArray) := by
  obtain ⟨a1, a2, a3, a4⟩ := hS
  refine ⟨by rw [rowAt_setRow _ _ _ _ _ _ h1]; exact a1, by rw [isRow_setRow_same a2]; simp [rcL_len], ?_, hT⟩
  obtain ⟨A, c, b0, b1, b2⟩ := a3
  have ho : Only h w (w.setRow h (rcL q).toArray) := (Only.refl _ _).setRow _
  have hg : g < w.heap.size := (Array.getElem?_eq_some_iff.1 b0).1
  refine ⟨A, c, (ho.block g hg (by intro e; injection e with e; exact h2 e)).trans b0, b1, fun W hW => ⟨rfl, Nat.zero_le _, fun h => absurd h (Nat.lt_irrefl 0)⟩⟩
theorem rd_far {w : World} {g b o : Nat} {u : Value} (h : RdAt w g [] 0) (hne : g ≠ b) : RdAt (w.setCell ⟨b, o, none⟩ u) g [] 0 := by
  obtain ⟨A, c, b0, b1, b2⟩ := h
  exact ⟨A, c, (Below.heap_setCell _ _ _ _ (by exact hne)).trans b0, b1, fun W hW => ⟨rfl, Nat.zero_le _, fun h => absurd h (Nat.lt_irrefl 0)⟩⟩
theorem rdOf {r : Rc} {b g h : Nat} {w : World} (hS : rowAt w ⟨b, 0, none⟩ 37 = some (rcL r) ∧ isRow w h 37 = true ∧ RdAt w g [] 0 ∧ TabOK w) : RdAt w g [] 0 := hS.2.2.1
theorem tabOf {r : Rc} {b g h : Nat} {w : World} (hS : rowAt w ⟨b, 0, none⟩ 37 = some (rcL r) ∧ isRow w h 37 = true ∧ RdAt w g [] 0 ∧ TabOK w) : TabOK w := hS.2.2.2
set_option linter.unusedVariables false in
set_option maxHeartbeats 4000000 in
set_option maxRecDepth 100000 in
theorem ReadMark_calls (k : Nat) (A : Option Addr) (c : Nat) (l1 : List Int) (id u1 off u2 : Int) (w : World) (hT : TabOK w) (hC : Kd.C (Kd.int .u8) w A (1 :: l1).length (1 :: l1)) (hc : (1 :: l1).length ≤ c)
    (h1 : varint_Shortest.f k l1 = some (id, u1, 0)) (hu1 : 0 ≤ u1 ∧ u1 ≤ l1.length) (hid : ¬ 1099511627776 < id) (h2 : varint_Shortest.f k (l1.drop u1.toNat) = some (off, u2, 0)) (hu2 : 0 ≤ u2 ∧ u2 ≤ (l1.drop u1.toNat).length) (hoff : ¬ 65536 < off)
    (hn : (l1.drop u1.toNat).drop u2.toNat = []) (hk : chkE ⟨1, id, ByteArray.empty, Hs.zero, 0, off⟩ = 0) :
    Calls Tryd.prog 127 #[.slice A (1 :: l1).length c] w fun e w' => e = .returned (.tuple #[.agg (rcL ⟨1, id, ByteArray.empty, Hs.zero, 0, off⟩).toArray, .bool true]) ∧ Below w.heap.size w w' := by
  have HT := Aside0.mk hT
  have HC := Aside0.mk (And.intro hC hc)
  obtain ⟨l2, hl2⟩ : ∃ l2, l1.drop u1.toNat = l2 := ⟨_, rfl⟩
  rw [hl2] at h2 hu2 hn
  have HN1 := Aside0.mk (show numP id u1 0 l1 1099511627776 = (id, l2, 0) by have e : lookF id u1 0 1099511627776 = (id, u1, 0) := if_neg (fun h => hid h.2); unfold numP; rw [e]; simp only; rw [if_true, hl2])
  have HN2 := Aside0.mk (show numP off u2 0 l2 65536 = (off, [], 0) by have e : lookF off u2 0 65536 = (off, u2, 0) := if_neg (fun h => hoff h.2); unfold numP; rw [e]; simp only; rw [if_true, hn])
  have H1 := Aside0.mk (And.intro h1 hu1)
  have H2 := Aside0.mk (And.intro h2 hu2)
  have HK := Aside0.mk hk
  obtain ⟨n, hn0⟩ : ∃ n, (1 :: l1).length = n := ⟨_, rfl⟩
  rw [hn0]
  have HN := Aside0.mk hn0
  clear hT hC hc h1 hu1 hid h2 hu2 hoff hn hk hl2 hn0
  go_enter Tryd.func127, Tryd.ntmps127
  go_wp2_with (first
    | (go_at_call 62; rw [← HN.out]; refine (New_calls A c (1 :: l1) _ (Kd.C_below HC.out.1 ?_) HC.out.2).mono ?_; (exact below_alloc (Below.refl _ _) _); rintro e w2 ⟨rfl, hr2, hb2⟩; rw [World.size_alloc] at hr2; have HR2 := Aside0.mk hr2; have HB2 := Aside0.mk (Below.trans (below_alloc (Below.refl w.heap.size w) _) (hb2.mono (by simp))); have i2 : isRow w2 w.heap.size 37 = true := (by rw [isRow_below hb2 (by simp)]; first | (go_simp; done) | (simp [*]; done)); have HLT := Aside0.mk hr2.lt; clear hr2 hb2)
    | (go_at_call 89; refine (Byte_calls (w.heap.size + 1) 1 l1 _ HR2.out (by decide) (by decide)).mono ?_; rintro e w3 ⟨rfl, hr3, ho3⟩; have HR3 := Aside0.mk hr3; have HO3 := Aside0.mk ho3; have i3 : isRow w3 w.heap.size 37 = true := (by rw [isRow_only ho3 (by have := HLT.out; omega) (by omega)]; exact i2); have HB3 := Aside0.mk (Below.trans HB2.out (ho3.below (n := w.heap.size) (by omega) (by have := HLT.out; omega))); clear hr3 ho3)
    | (go_at_call 65; with_reducible refine Calls.mono (Num_calls k (w.heap.size + 1) l1 1099511627776 id u1 0 w3 HR3.out H1.out.1 (fun _ => H1.out.2)) ?_; rw [HN1.out]; rintro e w4 ⟨rfl, hr4, ho4⟩; have HR4 := Aside0.mk hr4; have HLT4 := Aside0.mk hr4.lt; have i4 : isRow w4 w.heap.size 37 = true := (by rw [isRow_only ho4 (by have := HR3.out.lt; omega) (by omega)]; exact i3); have HB4 := Aside0.mk (Below.trans HB3.out (ho4.below (n := w.heap.size) (by omega) (by have := HR3.out.lt; omega))); clear hr4 ho4)
    | (go_at_call 65; with_reducible refine Calls.mono (Num_calls k (w.heap.size + 1) l2 65536 off u2 0 _ (HR4.out.below (below_alloc (Below.refl _ _) _)) H2.out.1 (fun _ => H2.out.2)) ?_; rw [HN2.out]; rintro e w5 ⟨rfl, hr5, ho5⟩; obtain ⟨rw5, fz5, cc5⟩ := row_off (x := off) ho5 HLT4.out; have HR5 := Aside0.mk hr5; have HO5 := Aside0.mk ho5; have i5 : isRow w5 w.heap.size 37 = true := (by rw [isRow_only ho5 (by have := HLT4.out; simp; omega) (by omega), isRow_below (below_alloc (Below.refl w4.heap.size w4) _) (by have := HLT4.out; omega)]; exact i4); have HB5 := Aside0.mk (Below.trans HB4.out (Below.trans ((below_alloc (Below.refl w4.heap.size w4) _).mono (by have := HLT4.out; omega)) (ho5.below (n := w.heap.size) (by omega) (by have := HLT4.out; simp; omega)))); have HS5 := Aside0.mk (show w4.heap.size + 1 ≤ w5.heap.size from by have := ho5.size; simpa using this); clear hr5 ho5))
  have hS : rowAt (w5.setCell ⟨w4.heap.size, 36, none⟩ (.int .i64 off)) ⟨w4.heap.size, 0, none⟩ 37 = some (rcL ⟨1, id, ByteArray.empty, Hs.zero, 0, off⟩) ∧ isRow (w5.setCell ⟨w4.heap.size, 36, none⟩ (.int .i64 off)) w.heap.size 37 = true ∧ RdAt (w5.setCell ⟨w4.heap.size, 36, none⟩ (.int .i64 off)) (w.heap.size + 1) [] 0 ∧ TabOK (w5.setCell ⟨w4.heap.size, 36, none⟩ (.int .i64 off)) := ⟨rw5, by rw [isRow_setCell]; exact i5, rd_far HR5.out (by have := HLT4.out; omega), HT.out.below (below_setCell HB5.out (by have := HLT4.out; omega) _)⟩
  have HB6 := Aside0.mk (show Below w.heap.size w (w5.setCell ⟨w4.heap.size, 36, none⟩ (.int .i64 off)) from below_setCell HB5.out (by have := HLT4.out; omega) _)
  generalize w5.setCell ⟨w4.heap.size, 36, none⟩ (.int .i64 off) = w6 at hS HB6 ⊢
  clear rw5 fz5 cc5 i2 i3 i4 i5
  go_region_held3 (fun w' => rowAt w' ⟨w4.heap.size, 0, none⟩ 37 = some (rcL ⟨1, id, ByteArray.empty, Hs.zero, 0, off⟩) ∧ isRow w' w.heap.size 37 = true ∧ RdAt w' (w.heap.size + 1) [] 0 ∧ TabOK w') (first | assumption | exact keepRd (by assumption) (below_drew (Below.refl _ _)) | exact keepRd2 (by assumption) (by have := HLT4.out; omega) (by omega) (HT.out.below (below_setRow HB8.out (Nat.le_refl _) _)))
    (first
      | (go_at_call 66; refine (Done_calls (w.heap.size + 1) [] 0 _ (rdOf (by assumption))).mono ?_; rintro e w7 ⟨rfl, hb7⟩; have hS7 := keepRd (by assumption) hb7; have HB7 := Aside0.mk (below_step (by first | exact HB6.out | exact below_drew HB6.out) hb7); clear hb7)
      | (go_at_call 26; refine (Check_calls ⟨1, id, ByteArray.empty, Hs.zero, 0, off⟩ _ (tabOf (by assumption))).mono ?_; rintro e w8 ⟨rfl, hb8⟩; rw [HK.out]; have hS8 := keepRd (by assumption) hb8; have HB8 := Aside0.mk (below_step (by first | exact HB7.out | exact below_drew HB7.out) hb8); clear hb8))
  go_wp2
  refine bodyPost_ret (v := .tuple #[.agg (rcL ⟨1, id, ByteArray.empty, Hs.zero, 0, off⟩).toArray, .bool true]) (res2 rfl rfl (lv_rc (by rw [rowAt_setRow_same hS8.2.1 _ _ _ (by decide), cut_rc])) rfl) rfl ⟨rfl, below_setRow HB8.out (Nat.le_refl _) _⟩
end Go.Proofs.YtiohgpcbdefokaaDoor.B
/- field.Reader against an elder world: what it has left; fail, Raw. No condition. -/
namespace Go.Proofs.YtiohgpcbdefokaaDoor.B
open Go.RowKit Go.Proofs.YtiohgpcbdefokaaDoorW.PrintWords Go.Proofs.YtiohgpcbdefokaaDoor.RowLaws
/-- A reader at block g that was there in the elder world w0: what is left (it lay there then), and its error. -/
def RdB (w0 w : World) (g : Nat) (l : List Int) (e : Int) : Prop := Only g w0 w ∧ g < w0.heap.size ∧ ∃ A c, w.heap[g]? = some (.cells #[.slice A l.length c, .int .i64 e] 162 (0, 0)) ∧ l.length ≤ c ∧ ∀ W, Only g w0 W → Kd.C (Kd.int .u8) W A l.length l
theorem RdB.lt {w0 w : World} {g : Nat} {l : List Int} {e : Int} (h : RdB w0 w g l e) : g < w.heap.size := Nat.lt_of_lt_of_le h.2.1 h.1.size
theorem RdB.below {w0 w W : World} {g : Nat} {l : List Int} {e : Int} (h : RdB w0 w g l e) (hb : Below w.heap.size w W) : RdB w0 W g l e := by
  have hg := h.lt
  obtain ⟨ho, hl, A, c, h0, h1, h2⟩ := h
  exact ⟨ho.trans (Only.of_below hb), hl, A, c, (hb.block g hg).trans h0, h1, h2⟩
theorem RdB.of {w : World} {g : Nat} {l : List Int} {e : Int} (h : RdAt w g l e) : RdB w w g l e := ⟨Only.refl _ _, h.lt, h⟩
theorem RdB.err {w0 w : World} {g : Nat} {l : List Int} {e : Int} (h : RdB w0 w g l e) (x : Int) : RdB w0 (w.setCell ⟨g, 1, none⟩ (.int .i64 x)) g l x := by
  obtain ⟨ho, hl, A, c, h0, h1, h2⟩ := h
  exact ⟨ho.setCell rfl _, hl, A, c, by rw [blk_set h0]; rfl, h1, h2⟩
theorem RdB.to {w0 w : World} {g : Nat} {l l' : List Int} {e : Int} {A' : Option Addr} {c' : Nat} (h : RdB w0 w g l e) (hc : l'.length ≤ c') (h2 : ∀ W, Only g w0 W → Kd.C (Kd.int .u8) W A' l'.length l') : RdB w0 (w.setCell ⟨g, 0, none⟩ (.slice A' l'.length c')) g l' e := by
  obtain ⟨ho, hl, A, c, h0, h1, _⟩ := h
  exact ⟨ho.setCell rfl _, hl, A', c', by rw [blk_set h0]; rfl, hc, h2⟩
theorem RdB.open {w0 w : World} {g : Nat} {l : List Int} {e : Int} (h : RdB w0 w g l e) : ∃ A c, w.cell? ⟨g, 0, none⟩ = some (.slice A l.length c) ∧ w.cell? ⟨g, 1, none⟩ = some (.int .i64 e) ∧ w.frozen? ⟨g, 0, none⟩ = false ∧ w.frozen? ⟨g, 1, none⟩ = false ∧ l.length ≤ c ∧ ∀ W, Only g w0 W → Kd.C (Kd.int .u8) W A l.length l := by
  obtain ⟨_, _, A, c, h0, h1, h2⟩ := h
  exact ⟨A, c, cell_of_row _ _ _ _ _ _ h0, cell_of_row _ _ _ _ _ _ h0, blk_frozen h0 _, blk_frozen h0 _, h1, h2⟩
/-- What turns in a block made since is nothing to the reader. -/
theorem RdB.far {w0 w W : World} {g b : Nat} {l : List Int} {e : Int} (h : RdB w0 w g l e) (hb : w0.heap.size ≤ b) (ho : Only b w W) : RdB w0 W g l e := by
  obtain ⟨h1, hl, A, c, h0, h2, h3⟩ := h
  refine ⟨⟨ho.os.trans h1.os, ho.tape.trans h1.tape, ho.output.trans h1.output, Nat.le_trans h1.size ho.size, fun i hi hn => ?_⟩, hl, A, c, (ho.block g (Nat.lt_of_lt_of_le hl h1.size) (by intro e; injection e with e; omega)).trans h0, h2, h3⟩
  exact (ho.block i (Nat.lt_of_lt_of_le hi h1.size) (by intro e; injection e with e; omega)).trans (h1.block i hi hn)
set_option linter.unusedVariables false in
set_option maxHeartbeats 4000000 in
set_option maxRecDepth 100000 in
theorem failB_calls (g : Nat) (l : List Int) (x : Int) {w0 : World} (w : World) (h : RdB w0 w g l 0) :
    Calls Tryd.prog 113 #[.pointer (some ⟨g, 0, none⟩), .int .i64 x] w fun e w' => e = .returned (.bool (!decide (x = 0))) ∧ RdB w0 w' g l x ∧ Only g w w' := by
  have HR := Aside0.mk h
  obtain ⟨A, c, k0, k1, f0, f1, _, _⟩ := h.open
  clear h
  by_cases hx : x = 0
  · subst hx
    go_enter Tryd.func113, Tryd.ntmps113
    go_wp2
    go_ret
    exact ⟨by simp, HR.out, Only.refl _ _⟩
  · have hd : decide (x = 0) = false := decide_eq_false hx
    have hn : (x != 0) = true := bne_iff_ne.2 hx
    clear hx
    go_enter Tryd.func113, Tryd.ntmps113
    go_wp2
    go_ret
    exact ⟨by rw [hd]; rfl, HR.out.err x, (Only.refl _ _).setCell rfl _⟩
set_option linter.unusedVariables false in
set_option maxHeartbeats 4000000 in
set_option maxRecDepth 100000 in
theorem RawB_calls (g : Nat) (l : List Int) (e n : Int) {w0 : World} (w : World) (h : RdB w0 w g l e) :
    Calls Tryd.prog 90 #[.pointer (some ⟨g, 0, none⟩), .int .i64 n] w fun x w' => x = .returned (.string (strOfNums (rawF l e n).1)) ∧ RdB w0 w' g (rawF l e n).2.1 (rawF l e n).2.2 ∧ Only g w w' := by
  have HR := Aside0.mk h
  obtain ⟨A, c, k0, k1, f0, f1, hc, hC⟩ := h.open
  have h0 := h.1
  clear h
  by_cases he : e = 0
  · subst he
    by_cases hn : n < 0
    · have HF := Aside0.mk (show rawF l 0 n = ([], l, 2) by unfold rawF; rw [if_pos rfl, if_pos hn])
      have hd : decide (n < 0) = true := decide_eq_true hn
      clear hn hC
      go_enter Tryd.func90, Tryd.ntmps90
      go_wp2_with (go_at_call 113; refine (failB_calls g l 2 _ HR.out).mono ?_; rintro x2 w2 ⟨rfl, hr2, ho2⟩; have HR2 := Aside0.mk hr2; have HO2 := Aside0.mk ho2; clear hr2 ho2)
      go_ret
      exact ⟨by rw [HF.out]; rfl, by rw [HF.out]; exact HR2.out, HO2.out⟩
    · by_cases hl : (l.length : Int) < n
      · have HF := Aside0.mk (show rawF l 0 n = ([], l, 3) by unfold rawF; rw [if_pos rfl, if_neg hn, if_pos hl])
        have hd : decide (n < 0) = false := decide_eq_false hn
        have hd2 : decide ((l.length : Int) < n) = true := decide_eq_true hl
        clear hn hC hl
        go_enter Tryd.func90, Tryd.ntmps90
        go_wp2_with (go_at_call 113; refine (failB_calls g l 3 _ HR.out).mono ?_; rintro x2 w2 ⟨rfl, hr2, ho2⟩; have HR2 := Aside0.mk hr2; have HO2 := Aside0.mk ho2; clear hr2 ho2)
        go_ret
        exact ⟨by rw [HF.out]; rfl, by rw [HF.out]; exact HR2.out, HO2.out⟩
      · have HF := Aside0.mk (show rawF l 0 n = (l.take n.toNat, l.drop n.toNat, 0) by unfold rawF; rw [if_pos rfl, if_neg hn, if_neg hl])
        obtain ⟨i010, hi010, _, hsz10, _⟩ := info_parts info5
        obtain ⟨ht1, ht2, ht3⟩ := print_take_of (P := Tryd.prog) (Value.int .u8) 0 22 5 .i64 Tryd.underlying22 hi010 hsz10 A c l n (by omega) (by omega) hc
        obtain ⟨A2, hd1, hd2, hd3⟩ := print_drop_of (P := Tryd.prog) (Value.int .u8) 0 22 5 .i64 Tryd.underlying22 hi010 hsz10 A c l n (by omega) (by omega) hc
        obtain ⟨y1, hy1⟩ : ∃ y, l.take n.toNat = y := ⟨_, rfl⟩
        obtain ⟨y2, hy2⟩ : ∃ y, l.drop n.toNat = y := ⟨_, rfl⟩
        rw [hy1] at ht1 ht2 ht3 HF
        rw [hy2] at hd1 hd2 hd3 HF
        clear hy1 hy2
        have hcv := Kd.C_string (P := Tryd.prog) (src := 22) (dst := 9) (c := c) Tryd.underlying22 Tryd.underlying5 Tryd.underlying9 (Kd.C_of_reads (h1 := fun _ => rfl) (ht2 w (Kd.reads_of_C (hC w h0))))
        have HC2 := Aside0.mk (show ∀ W, Only g w0 W → Kd.C (Kd.int .u8) W A2 y2.length y2 from fun W ho => Kd.C_of_reads (h1 := fun _ => rfl) (hd2 W (Kd.reads_of_C (hC W ho))))
        have HC3 := Aside0.mk hd3
        have hcut1 := ht1 w
        have hcut2 := hd1 w
        have hd4 : decide (n < 0) = false := decide_eq_false hn
        have hd5 : decide ((l.length : Int) < n) = false := decide_eq_false hl
        clear hn hC hl ht1 ht2 ht3 hd1 hd2 hd3 hi010 hsz10 hc
        go_enter Tryd.func90, Tryd.ntmps90
        go_wp2
        go_ret
        exact ⟨by rw [HF.out]; rfl, by rw [HF.out]; exact HR.out.to HC3.out HC2.out, (Only.refl _ _).setCell rfl _⟩
  · have HF := Aside0.mk (show rawF l e n = ([], l, e) by unfold rawF; rw [if_neg he])
    have hd : decide (e = 0) = false := decide_eq_false he
    have hn : (e != 0) = true := bne_iff_ne.2 he
    clear he hC
    go_enter Tryd.func90, Tryd.ntmps90
    go_wp2
    go_ret
    exact ⟨by rw [HF.out]; rfl, by rw [HF.out]; exact HR.out, Only.refl _ _⟩
end Go.Proofs.YtiohgpcbdefokaaDoor.B
/- field.Reader against an elder world: Num. No condition. -/
namespace Go.Proofs.YtiohgpcbdefokaaDoor.B
open Go.RowKit Go.Proofs.YtiohgpcbdefokaaDoorW.PrintWords Go.Proofs.YtiohgpcbdefokaaDoor.RowLaws
set_option linter.unusedVariables false in
set_option maxHeartbeats 4000000 in
set_option maxRecDepth 100000 in
theorem lookB_calls (k g : Nat) (l : List Int) (e0 most n u e1 : Int) {w0 : World} (w : World) (h : RdB w0 w g l e0) (hs : varint_Shortest.f k l = some (n, u, e1)) :
    Calls Tryd.prog 112 #[.pointer (some ⟨g, 0, none⟩), .int .i64 most] w fun x w' => x = .returned (.tuple #[.int .i64 (lookF n u e1 most).1, .int .i64 (lookF n u e1 most).2.1, .int .i64 (lookF n u e1 most).2.2]) ∧ Below w.heap.size w w' := by
  obtain ⟨A, c, k0, k1, f0, f1, hc, hC⟩ := h.open
  have HCC := Aside0.mk (hC w h.1)
  have HC0 := Aside0.mk hc
  have HS := Aside0.mk hs
  clear h hc hC hs
  by_cases h1 : e1 = 0
  · subst h1
    by_cases h2 : most < n
    · have HF := Aside0.mk (show lookF n u 0 most = (0, 0, 5) by unfold lookF; rw [if_pos ⟨rfl, h2⟩])
      have hd : decide (most < n) = true := decide_eq_true h2
      clear h2
      go_enter Tryd.func112, Tryd.ntmps112
      go_wp2_with (go_at_call 125; refine (varint_Shortest.calls k A c l n u 0 _ HCC.out HC0.out HS.out).mono ?_; rintro x w2 ⟨rfl, hb2⟩; have HB2 := Aside0.mk hb2; clear hb2)
      go_ret3
      exact ⟨by rw [HF.out]; rfl, HB2.out⟩
    · have HF := Aside0.mk (show lookF n u 0 most = (n, u, 0) by unfold lookF; rw [if_neg (fun h => h2 h.2)])
      have hd : decide (most < n) = false := decide_eq_false h2
      clear h2
      go_enter Tryd.func112, Tryd.ntmps112
      go_wp2_with (go_at_call 125; refine (varint_Shortest.calls k A c l n u 0 _ HCC.out HC0.out HS.out).mono ?_; rintro x w2 ⟨rfl, hb2⟩; have HB2 := Aside0.mk hb2; clear hb2)
      go_ret3
      exact ⟨by rw [HF.out]; rfl, HB2.out⟩
  · have HF := Aside0.mk (show lookF n u e1 most = (n, u, e1) by unfold lookF; rw [if_neg (fun h => h1 h.1)])
    have hd : decide (e1 = 0) = false := decide_eq_false h1
    have hn : (e1 != 0) = true := bne_iff_ne.2 h1
    have hn2 : (e1 == 0) = false := by simp [h1]
    clear h1
    go_enter Tryd.func112, Tryd.ntmps112
    go_wp2_with (go_at_call 125; refine (varint_Shortest.calls k A c l n u e1 _ HCC.out HC0.out HS.out).mono ?_; rintro x w2 ⟨rfl, hb2⟩; have HB2 := Aside0.mk hb2; clear hb2)
    go_ret3
    exact ⟨by rw [HF.out]; rfl, HB2.out⟩
set_option linter.unusedVariables false in
set_option maxHeartbeats 4000000 in
set_option maxRecDepth 100000 in
theorem NumB_calls (k g : Nat) (l : List Int) (most n u e1 : Int) {w0 : World} (w : World) (h : RdB w0 w g l 0) (hs : varint_Shortest.f k l = some (n, u, e1)) (hu : e1 = 0 → 0 ≤ u ∧ u ≤ l.length) :
    Calls Tryd.prog 65 #[.pointer (some ⟨g, 0, none⟩), .int .i64 most] w fun x w' => x = .returned (.int .i64 (numP n u e1 l most).1) ∧ RdB w0 w' g (numP n u e1 l most).2.1 (numP n u e1 l most).2.2 ∧ Only g w w' := by
  have HR := Aside0.mk h
  obtain ⟨A, c, k0, k1, f0, f1, hc, hC⟩ := h.open
  obtain ⟨⟨q1, q2, q3⟩, hq⟩ : ∃ q, lookF n u e1 most = q := ⟨_, rfl⟩
  have HL := Aside0.mk (lookB_calls k g l 0 most n u e1 w h hs)
  rw [hq] at HL
  simp only at HL
  have hlt := h.lt
  by_cases h3 : q3 = 0
  · subst h3
    have HF := Aside0.mk (show numP n u e1 l most = (q1, l.drop q2.toNat, 0) by unfold numP; rw [hq]; rfl)
    have hu2 : 0 ≤ q2 ∧ q2 ≤ l.length := by
      unfold lookF at hq
      split at hq
      · cases hq
      · injection hq with _ hq
        injection hq with hq1 hq2
        rw [← hq1]; exact hu hq2
    have HU := Aside0.mk hu2
    obtain ⟨y2, hy2⟩ : ∃ y, l.drop q2.toNat = y := ⟨_, rfl⟩
    rw [hy2] at HF
    have HY := Aside0.mk hy2
    clear h hs hu hq hu2 hy2 hc hC
    go_enter Tryd.func65, Tryd.ntmps65
    go_wp2_with (first
      | (go_at_call 112; refine HL.out.mono ?_; rintro x w2 ⟨rfl, hb2⟩; have HB2 := Aside0.mk hb2; have HR2 := Aside0.mk (HR.out.below hb2); clear hb2)
      | (go_at_call 113; refine (failB_calls g l 0 _ HR2.out).mono ?_; rintro x w3 ⟨rfl, hr3, ho3⟩; have HO3 := Aside0.mk ((Only.of_below HB2.out).trans ho3); have HR3 := Aside0.mk hr3; obtain ⟨A', c', m0, m1, g0, g1, hc', hC'⟩ := hr3.open;
          obtain ⟨A2, hd1, hd2, hd3⟩ := print_drop_of (P := Tryd.prog) (Value.int .u8) 0 22 5 .i64 Tryd.underlying22 (info_parts info5).choose_spec.1 (info_parts info5).choose_spec.2.2.1 A' c' l q2 HU.out.1 HU.out.2 hc';
          rw [HY.out] at hd1 hd2 hd3;
          have HC2 := Aside0.mk (show ∀ W, Only g w0 W → Kd.C (Kd.int .u8) W A2 y2.length y2 from fun W ho => Kd.C_of_reads (h1 := fun _ => rfl) (hd2 W (Kd.reads_of_C (hC' W ho))));
          have HC3 := Aside0.mk hd3;
          have hcut := hd1 w3;
          clear hr3 ho3 hc' hC' hd1 hd2 hd3))
    go_ret
    exact ⟨by rw [HF.out]; rfl, by rw [HF.out]; exact HR3.out.to HC3.out HC2.out, HO3.out.setCell rfl _⟩
  · have HF := Aside0.mk (show numP n u e1 l most = (0, l, q3) by unfold numP; rw [hq]; simp only; rw [if_neg h3])
    have hd : decide (q3 = 0) = false := decide_eq_false h3
    clear h hs hu hq hc hC h3
    go_enter Tryd.func65, Tryd.ntmps65
    go_wp2_with (first
      | (go_at_call 112; refine HL.out.mono ?_; rintro x w2 ⟨rfl, hb2⟩; have HB2 := Aside0.mk hb2; have HR2 := Aside0.mk (HR.out.below hb2); clear hb2)
      | (go_at_call 113; refine (failB_calls g l q3 _ HR2.out).mono ?_; rintro x w3 ⟨rfl, hr3, ho3⟩; have HO3 := Aside0.mk ((Only.of_below HB2.out).trans ho3); have HR3 := Aside0.mk hr3; clear hr3 ho3))
    go_ret
    exact ⟨by rw [HF.out]; rfl, by rw [HF.out]; exact HR3.out, HO3.out⟩
end Go.Proofs.YtiohgpcbdefokaaDoor.B
/- field.Reader against an elder world: Byte, Err, Done. No condition. -/
namespace Go.Proofs.YtiohgpcbdefokaaDoor.B
open Go.RowKit Go.Proofs.YtiohgpcbdefokaaDoorW.PrintWords Go.Proofs.YtiohgpcbdefokaaDoor.RowLaws
set_option linter.unusedVariables false in
set_option maxHeartbeats 4000000 in
set_option maxRecDepth 100000 in
theorem ByteB_calls (g : Nat) (x : Int) (l : List Int) {w0 : World} (w : World) (h : RdB w0 w g (x :: l) 0) (h0 : 0 ≤ x) (h1 : x < 256) :
    Calls Tryd.prog 89 #[.pointer (some ⟨g, 0, none⟩)] w fun e w' => e = .returned (.int .u8 x) ∧ RdB w0 w' g l 0 ∧ Only g w w' := by
  have HF := Aside0.mk (show rawF (x :: l) 0 1 = ([x], l, 0) by unfold rawF; rw [if_pos rfl, if_neg (by decide), if_neg (by simp only [List.length_cons]; omega)]; rfl)
  have HRW := Aside0.mk (RawB_calls g (x :: l) 0 1 w h)
  rw [HF.out] at HRW
  have hs : strOfNums [x] = ⟨#[x.toNat.toUInt8]⟩ := rfl
  have hx : ((x.toNat.toUInt8).toNat : Int) = x := by
    rw [UInt8.toNat_ofNat']
    omega
  have HX := Aside0.mk hx
  rw [hs] at HRW
  clear h h0 h1 HF hs hx
  go_enter Tryd.func89, Tryd.ntmps89
  go_wp2_with (go_at_call 90; refine HRW.out.mono ?_; rintro e w2 ⟨rfl, hr2, ho2⟩; have HR2 := Aside0.mk hr2; have HO2 := Aside0.mk ho2; clear hr2 ho2)
  go_ret
  exact ⟨show Ending.returned (Value.int .u8 ((x.toNat.toUInt8).toNat : Int)) = _ by rw [HX.out], HR2.out, HO2.out⟩
end Go.Proofs.YtiohgpcbdefokaaDoor.B
/- field.Reader against an elder world: Text, of a text that is whole. No condition. -/
namespace Go.Proofs.YtiohgpcbdefokaaDoor.B
open Go.RowKit Go.Proofs.YtiohgpcbdefokaaDoorW.PrintWords Go.Proofs.YtiohgpcbdefokaaDoor.RowLaws
set_option linter.unusedVariables false in
set_option maxHeartbeats 4000000 in
set_option maxRecDepth 100000 in
theorem TextB_calls (k g : Nat) (l : List Int) (most n u : Int) {w0 : World} (w : World) (h : RdB w0 w g l 0) (hs : varint_Shortest.f k l = some (n, u, 0)) (hu : 0 ≤ u ∧ u ≤ l.length) (hl : l.length ≤ 1000000) (hm : ¬ most < n) (hn0 : 0 ≤ n) (hn : n ≤ ((l.drop u.toNat).length : Int)) :
    Calls Tryd.prog 63 #[.pointer (some ⟨g, 0, none⟩), .int .i64 most] w fun x w' => x = .returned (.string (strOfNums ((l.drop u.toNat).take n.toNat))) ∧ RdB w0 w' g ((l.drop u.toNat).drop n.toNat) 0 ∧ Only g w w' := by
  have HR := Aside0.mk h
  obtain ⟨A, c, k0, k1, f0, f1, hc, hC⟩ := h.open
  have HL := Aside0.mk (lookB_calls k g l 0 most n u 0 w h hs)
  have hq : lookF n u 0 most = (n, u, 0) := if_neg (fun h => hm h.2)
  rw [hq] at HL
  simp only at HL
  have HU := Aside0.mk hu
  have hlt := h.lt
  obtain ⟨y2, hy2⟩ : ∃ y, l.drop u.toNat = y := ⟨_, rfl⟩
  rw [hy2] at hn ⊢
  have HY := Aside0.mk hy2
  have hyl : ((y2.length : Nat) : Int) = (l.length : Int) - u := by rw [← hy2, List.length_drop]; omega
  have e1 : IntKind.i64.wrap ((l.length : Int) - u) = (l.length : Int) - u := IntWalk.i64_in _ (by omega)
  have d1 : decide ((l.length : Int) - u < n) = false := decide_eq_false (by omega)
  have HF := Aside0.mk (show rawF y2 0 n = (y2.take n.toNat, y2.drop n.toNat, 0) by unfold rawF; rw [if_pos rfl, if_neg (by omega), if_neg (by omega)])
  obtain ⟨z1, hz1⟩ : ∃ z, y2.take n.toNat = z := ⟨_, rfl⟩
  obtain ⟨z2, hz2⟩ : ∃ z, y2.drop n.toNat = z := ⟨_, rfl⟩
  rw [hz1, hz2] at HF ⊢
  have HLEN := Aside0.mk hl
  clear h hs hq hy2 hc hC hn hz1 hz2 hyl hm hn0
  go_enter Tryd.func63, Tryd.ntmps63
  go_wp2_with (first
    | (go_at_call 112; refine HL.out.mono ?_; rintro x w2 ⟨rfl, hb2⟩; have HB2 := Aside0.mk hb2; have HR2 := Aside0.mk (HR.out.below hb2); obtain ⟨A1, c1, m0, m1, g0, g1, _, _⟩ := (HR.out.below hb2).open; clear hb2)
    | (go_at_call 113; refine (failB_calls g l 0 _ HR2.out).mono ?_; rintro x w3 ⟨rfl, hr3, ho3⟩; have HO3 := Aside0.mk ((Only.of_below HB2.out).trans ho3); have HR3 := Aside0.mk hr3; obtain ⟨A', c', n0, n1, i0, i1, hc', hC'⟩ := hr3.open;
        obtain ⟨A2, hd1, hd2, hd3⟩ := print_drop_of (P := Tryd.prog) (Value.int .u8) 0 22 5 .i64 Tryd.underlying22 (info_parts info5).choose_spec.1 (info_parts info5).choose_spec.2.2.1 A' c' l u HU.out.1 HU.out.2 hc';
        rw [HY.out] at hd1 hd2 hd3;
        have HC2 := Aside0.mk (show ∀ W, Only g w0 W → Kd.C (Kd.int .u8) W A2 y2.length y2 from fun W ho => Kd.C_of_reads (h1 := fun _ => rfl) (hd2 W (Kd.reads_of_C (hC' W ho))));
        have HC3 := Aside0.mk hd3;
        have hcut := hd1 w3;
        clear hr3 ho3 hc' hC' hd1 hd2 hd3)
    | (go_at_call 90; have HR4 := Aside0.mk (HR3.out.to HC3.out HC2.out); have HRW := RawB_calls g y2 0 n _ HR4.out; rw [HF.out] at HRW; refine HRW.mono ?_; clear HRW; rintro x w5 ⟨rfl, hr5, ho5⟩; have HR5 := Aside0.mk hr5; have HO5 := Aside0.mk ((HO3.out.setCell rfl _).trans ho5); clear hr5 ho5))
  go_ret
  exact ⟨rfl, HR5.out, HO5.out⟩
end Go.Proofs.YtiohgpcbdefokaaDoor.B
/- A record's box and what is stored in it; a string copied onto cells. No condition. -/
namespace Go.Proofs.YtiohgpcbdefokaaDoor.B
open Go.RowKit Go.Proofs.YtiohgpcbdefokaaDoorW.PrintWords Go.Proofs.YtiohgpcbdefokaaDoor.RowLaws
/-- A record's box. -/
def BoxRc (w : World) (b : Nat) (r : Rc) : Prop := w.heap[b]? = some (.cells (rcL r).toArray 51 (0, 0))
theorem rcL_path (r : Rc) (x : ByteArray) : (rcL r).toArray.setIfInBounds 2 (.string x) = (rcL { r with path := x }).toArray := by
  simp [rcL]
theorem rcL_size (r : Rc) (x : Int) : (rcL r).toArray.setIfInBounds 35 (.int .i64 x) = (rcL { r with size := x }).toArray := by
  obtain ⟨b0, b1, b2, b3, b4, b5, b6, b7, b8, b9, b10, b11, b12, b13, b14, b15, b16, b17, b18, b19, b20, b21, b22, b23, b24, b25, b26, b27, b28, b29, b30, b31, e0⟩ := hs_lit r.sum
  simp [rcL, e0]
theorem rcL_sum (r : Rc) (h : Hs) : splice (rcL r) 3 (hsL h) = rcL { r with sum := h } := by
  have e : rcL r = [.int .u8 r.kind, .int .i64 r.id, .string r.path] ++ (hsL r.sum ++ ([.int .i64 r.size, .int .i64 r.off])) := rfl
  have d : (rcL r).drop (3 + (hsL h).length) = [.int .i64 r.size, .int .i64 r.off] := by
    rw [hsL_len, show 3 + 32 = 32 + 3 from rfl, e, List.drop_append, List.drop_append]
    simp [hsL_len]
  have t : (rcL r).take 3 = [.int .u8 r.kind, .int .i64 r.id, .string r.path] := rfl
  unfold splice
  rw [d, t]
  simp [rcL]
theorem BoxRc.lt {w : World} {b : Nat} {r : Rc} (h : BoxRc w b r) : b < w.heap.size := (Array.getElem?_eq_some_iff.1 h).1
theorem BoxRc.cell {w : World} {b : Nat} {r : Rc} (h : BoxRc w b r) {j : Nat} {v : Value} (hj : (rcL r)[j]? = some v) : w.cell? ⟨b, j, none⟩ = some v := by
  rw [cell_of_row _ _ _ _ _ _ h, List.getElem?_toArray]; exact hj
theorem BoxRc.froz {w : World} {b : Nat} {r : Rc} (h : BoxRc w b r) (j : Nat) : w.frozen? ⟨b, j, none⟩ = false := blk_frozen h _
theorem BoxRc.row {w : World} {b : Nat} {r : Rc} (h : BoxRc w b r) : rowAt w ⟨b, 0, none⟩ 37 = some (rcL r) := by
  rw [rowAt_block h 0 37 (by simp [rcL_len]), List.drop_zero, List.take_of_length_le (by simp [rcL_len])]
theorem BoxRc.only {w W : World} {b g : Nat} {r : Rc} (h : BoxRc w b r) (ho : Only g w W) (hne : b ≠ g) : BoxRc W b r :=
  (ho.block b h.lt (by intro e; injection e with e; exact hne e)).trans h
theorem BoxRc.below {w W : World} {b : Nat} {r : Rc} (h : BoxRc w b r) (hb : Below w.heap.size w W) : BoxRc W b r := (hb.block b h.lt).trans h
theorem BoxRc.new (w : World) (r : Rc) : BoxRc (w.alloc (.cells (rcL r).toArray 51)) w.heap.size r := heap_alloc_new _ _
theorem BoxRc.path {w : World} {b : Nat} {r : Rc} (h : BoxRc w b r) (x : ByteArray) : BoxRc (w.setCell ⟨b, 2, none⟩ (.string x)) b { r with path := x } := by
  have h1 := blk_set h 2 (.string x); rw [rcL_path] at h1; exact h1
theorem BoxRc.size {w : World} {b : Nat} {r : Rc} (h : BoxRc w b r) (x : Int) : BoxRc (w.setCell ⟨b, 35, none⟩ (.int .i64 x)) b { r with size := x } := by
  have h1 := blk_set h 35 (.int .i64 x); rw [rcL_size] at h1; exact h1
theorem RdB.at_ {w0 w : World} {g : Nat} {l : List Int} {e : Int} (h : RdB w0 w g l e) : RdAt w g l e := by
  obtain ⟨h1, _, A, c, h2, h3, h4⟩ := h
  exact ⟨A, c, h2, h3, fun W ho => h4 W (h1.trans ho)⟩
theorem RdB.set {w0 w : World} {g b o : Nat} {l : List Int} {e : Int} (h : RdB w0 w g l e) (hb : w0.heap.size ≤ b) (u : Value) : RdB w0 (w.setCell ⟨b, o, none⟩ u) g l e := h.far hb ((Only.refl _ _).setCell rfl _)
theorem hsN_cells (h : Hs) (s : ByteArray) (hs : s = strOfNums (hsN h)) : (s.data.toList.map fun b => Value.int .u8 (b.toNat : Int)) = hsL h ∧ s.size = 32 := by
  subst hs
  have e : (strOfNums (hsN h)).data.toList = h.1 := by
    unfold strOfNums hsN
    simp only [List.map_map]
    conv => rhs; rw [← List.map_id h.1]
    apply List.map_congr_left
    intro b _
    simp
  refine ⟨by rw [e]; rfl, ?_⟩
  simp [strOfNums, ByteArray.size, hsN_len]
section
variable {P : Program} {w : World} {ops : Array Oper} {o : Oper} {a : Act} {Q : Exit → Act → World → Prop}
/-- copy(cells, string), as many as the cells are. -/
theorem step_copy_str {K : Act → World → Prop} {E : Prop} (hgd : o.guard = none) (d s : Operand) (dT sT : TypeId)
    (ho : o.op = .call { callee := .builtin .copy, args := #[d, s], argTypes := #[dT, sT] }) (elem : TypeId) (hu : P.underlying dT = some (.slice elem)) (hsz : (P.info? elem).map (·.size) = some 1)
    (g off n dCap : Nat) (str : ByteArray) (hd : a.eval d = .slice (some ⟨g, off, none⟩) n dCap) (hs : a.eval s = .string str) (hn : str.size = n)
    (cur : List Value) (t : TypeId) (hg : w.heap[g]? = some (.cells cur.toArray t (0, 0))) (cs : List Value) (hcs : (str.data.toList.map fun b => Value.int .u8 (b.toNat : Int)) = cs) (hfit : off + n ≤ cur.length)
    (h : ∀ w', Hid (w'.heap[g]? = some (.cells (splice cur off cs).toArray t (0, 0))) → Only g w w' → K (a.put o.dst (goInt n)) w') :
    if Region.wanted o (yielded ops a.tmps) = true then Oper.wp P o a w K Q else E := by
  have hw : Region.wanted o (yielded ops a.tmps) = true := by simp [Region.wanted, hgd]
  rw [if_pos hw]
  have hl : cs.length = n := by rw [← hcs, List.length_map, ← hn]; rfl
  have h1 : ∀ v ∈ cs, v.oneCell' = true := by
    intro v hv
    rw [← hcs] at hv
    obtain ⟨b, _, rfl⟩ := List.mem_map.1 hv
    rfl
  have hst := run_storeCells_at P g off t cs 0 cur.toArray w hg (by simp [hl]; omega) h1
  have htk : List.take n (List.map (fun b : UInt8 => Value.int .u8 (b.toNat : Int)) str.data.toList) = cs := by rw [hcs, ← hl, List.take_length]
  obtain ⟨i, hq, hi⟩ : ∃ i, P.info? elem = some i ∧ i.size = 1 := by
    cases hq : P.info? elem with
    | none => simp [hq] at hsz
    | some i => exact ⟨i, rfl, by simpa [hq] using hsz⟩
  have hrun : (Builtin.copy_ #[dT, sT] o.type #[.slice (some ⟨g, off, none⟩) n dCap, .string str]).run P w = .ok (goInt n) (w.setRow g (cur.take off ++ cs ++ cur.drop (off + cs.length)).toArray) := by
    simp only [Nat.add_zero] at hst
    simp [Builtin.copy_, run_underlying hu, Builtin.lenOf, Builtin.firstCells, sizeOf, typeInfo, hq, hn, htk, hst]
  unfold Oper.wp
  simp [execOp, ho, resolve, invoke, builtin, hd, hs, hrun, Result.andThen]
  have hh := h _ (show _ = _ by simpa [splice] using setRow_heap w g _ _ t _ hg) ((Only.refl _ _).setRow (cur.take off ++ cs ++ cur.drop (off + cs.length)).toArray)
  simp only [List.append_assoc] at hh
  exact hh
end
end Go.Proofs.YtiohgpcbdefokaaDoor.B
