/- Contracts and plain laws for the statement RecordPlays, part b: several texts of this session behind one another. No condition. -/
import Derived.Test.YtiohgpcbdefokaaDoorMRecordPlaysa
import Derived.Test.YtiohgpcbdefokaaDoorWEqStruct
import Derived.Stop.BytesEq
import Derived.WalkLawsBesides
import Derived.Laws.CopyOwn
import Derived.Laws.AppendOwn
import Derived.Lib.AppendZerosOnto
import Derived.Lib.Overlaps
import Derived.Below
import Derived.WalkKit
import Derived.StillTailTactics
import Derived.Lib.Hide
import Derived.WalkSpells
import Derived.Deep.QuietTactic
import Derived.BigQuiet
import Derived.Deep.RegionLaw
/- Structs that bear 32 bytes, as lists of cells that stay shut: what a load, a store, a field, a literal and '==' make of them. No condition. -/
namespace Go.Proofs.YtiohgpcbdefokaaDoor.B
open Go.RowKit Go.Proofs.YtiohgpcbdefokaaDoorW.PrintWords
/-- 32 bytes. -/
def Hs : Type := { l : List UInt8 // l.length = 32 }
instance : DecidableEq Hs := fun a b => if h : a.1 = b.1 then .isTrue (Subtype.ext h) else .isFalse (fun e => h (by rw [e]))
def Hs.zero : Hs := ⟨List.replicate 32 0, by simp⟩
instance : Inhabited Hs := ⟨Hs.zero⟩
def hsL (h : Hs) : List Value := h.1.map Extern.Stop.cell
theorem hs_lit (h : Hs) : ∃ b0 b1 b2 b3 b4 b5 b6 b7 b8 b9 b10 b11 b12 b13 b14 b15 b16 b17 b18 b19 b20 b21 b22 b23 b24 b25 b26 b27 b28 b29 b30 b31 : UInt8, hsL h = [Extern.Stop.cell b0, Extern.Stop.cell b1, Extern.Stop.cell b2, Extern.Stop.cell b3, Extern.Stop.cell b4, Extern.Stop.cell b5, Extern.Stop.cell b6, Extern.Stop.cell b7, Extern.Stop.cell b8, Extern.Stop.cell b9, Extern.Stop.cell b10, Extern.Stop.cell b11, Extern.Stop.cell b12, Extern.Stop.cell b13, Extern.Stop.cell b14, Extern.Stop.cell b15, Extern.Stop.cell b16, Extern.Stop.cell b17, Extern.Stop.cell b18, Extern.Stop.cell b19, Extern.Stop.cell b20, Extern.Stop.cell b21, Extern.Stop.cell b22, Extern.Stop.cell b23, Extern.Stop.cell b24, Extern.Stop.cell b25, Extern.Stop.cell b26, Extern.Stop.cell b27, Extern.Stop.cell b28, Extern.Stop.cell b29, Extern.Stop.cell b30, Extern.Stop.cell b31] := by
  obtain ⟨l, hl⟩ := h
  match l, hl with
  | [b0, b1, b2, b3, b4, b5, b6, b7, b8, b9, b10, b11, b12, b13, b14, b15, b16, b17, b18, b19, b20, b21, b22, b23, b24, b25, b26, b27, b28, b29, b30, b31], _ => exact ⟨b0, b1, b2, b3, b4, b5, b6, b7, b8, b9, b10, b11, b12, b13, b14, b15, b16, b17, b18, b19, b20, b21, b22, b23, b24, b25, b26, b27, b28, b29, b30, b31, rfl⟩
theorem hsL_len (h : Hs) : (hsL h).length = 32 := by simp [hsL, h.2]
theorem hsL_one (h : Hs) : ∀ v ∈ hsL h, v.oneCell' = true := by
  intro v hv
  obtain ⟨x, _, rfl⟩ := List.mem_map.1 hv
  rfl
theorem okL_hs (h : Hs) : okL (hsL h) 32 = true := by unfold okL; simp [hsL_len]; exact hsL_one h
theorem beq_hs (a b : Hs) : (a.1 == b.1) = decide (a = b) := by
  by_cases h : a = b
  · subst h; simp
  · have : a.1 ≠ b.1 := fun e => h (Subtype.ext e)
    simp [h, this]
theorem eqA_hs (d : Nat) (a b : Hs) (w : World) : (Op.equalIn (d + 2) 24 (.agg (hsL a).toArray) (.agg (hsL b).toArray)).run Tryd.prog w = .ok (decide (a = b)) w := by
  rw [← beq_hs]
  exact run_equalIn_bytes w d 24 5 32 (by kernel_rfl) (by kernel_rfl) (fun w => Tryd.sizeOf5 w) a.1 b.1 a.2 b.2
theorem str_eq (a b : ByteArray) : (a.toList == b.toList) = decide (a = b) := by
  rw [ByteArray.toList_eq, ByteArray.toList_eq]
  by_cases h : a = b
  · subst h; simp
  · have : a.data.toList ≠ b.data.toList := fun e => h (ByteArray.ext (Array.ext' e))
    simp only [h, decide_false, beq_eq_false_iff_ne]; exact this
theorem beq_bool (a b : Bool) : (a == b) = decide (a = b) := by cases a <;> cases b <;> rfl
theorem lvO_hs (a : Addr) : loadVar 24 a = lvRow 24 a := rfl
theorem ldV_hs (a : Addr) (w : World) : (lvRow 24 a).run Tryd.prog w = rowRun Tryd.prog 24 a w (rowAt w a 32) := loadVar_row Tryd.underlying24 rfl (by kernel_rfl) a w
theorem ldO_hs (v : Value) : Instr.loadAt 24 v = ldRow 24 v := rfl
theorem stO_hs (p v : Value) : Instr.storeAt 24 p v = stRow 24 p v := rfl
theorem ldA_hs (a : Addr) (w : World) : (ldRow 24 (.pointer (some a))).run Tryd.prog w = rowRun Tryd.prog 24 a w (rowAt w a 32) := loadAt_row Tryd.underlying24 rfl (by kernel_rfl) a w
theorem stA_hs (g : Nat) (l : List Value) (w : World) (h1 : isRow w g 32 = true) (h2 : okL l 32 = true) : (stRow 24 (.pointer (some ⟨g, 0, none⟩)) (.agg l.toArray)).run Tryd.prog w = .ok () (w.setRow g l.toArray) := storeAt_row (by kernel_rfl) g l w h1 h2

/-- A struct by value. -/
structure Pt where
  id : Int
  path : ByteArray
  sum : Hs
  size : Int
  off : Int
deriving DecidableEq
def Pt.zero : Pt := ⟨0, ByteArray.empty, Hs.zero, 0, 0⟩
instance : Inhabited Pt := ⟨Pt.zero⟩
def ptL (x : Pt) : List Value := [.int .i64 x.id, .string x.path] ++ (hsL x.sum ++ ([.int .i64 x.size, .int .i64 x.off]))
theorem ptL_len (x : Pt) : (ptL x).length = 36 := by simp [ptL, hsL_len]
theorem ptL_one (x : Pt) : ∀ v ∈ ptL x, v.oneCell' = true := by
  intro v hv
  simp only [ptL, List.mem_append, List.mem_cons, List.not_mem_nil, or_false] at hv
  rcases hv with (rfl | rfl) | (hv | (rfl | rfl)) <;> first | rfl | exact hsL_one _ v hv
theorem okL_pt (x : Pt) : okL (ptL x) 36 = true := by unfold okL; simp only [ptL_len, beq_self_eq_true, Bool.true_and, List.all_eq_true]; exact ptL_one x
theorem size_pt (x : Pt) : (ptL x).toArray.size = 36 := by simp [ptL_len]
theorem get_pt_id (x : Pt) : (ptL x)[0]? = some (.int .i64 x.id) := by
  simp [ptL]
theorem get_pt_path (x : Pt) : (ptL x)[1]? = some (.string x.path) := by
  simp [ptL]
theorem cut_pt_sum (x : Pt) : cutL (ptL x).toArray 2 32 = some (hsL x.sum) := by
  obtain ⟨a0, a1, a2, a3, a4, a5, a6, a7, a8, a9, a10, a11, a12, a13, a14, a15, a16, a17, a18, a19, a20, a21, a22, a23, a24, a25, a26, a27, a28, a29, a30, a31, e0⟩ := hs_lit x.sum
  simp [cutL, ptL, e0]
theorem get_pt_size (x : Pt) : (ptL x)[34]? = some (.int .i64 x.size) := by
  obtain ⟨a0, a1, a2, a3, a4, a5, a6, a7, a8, a9, a10, a11, a12, a13, a14, a15, a16, a17, a18, a19, a20, a21, a22, a23, a24, a25, a26, a27, a28, a29, a30, a31, e0⟩ := hs_lit x.sum
  simp [ptL, e0]
theorem get_pt_off (x : Pt) : (ptL x)[35]? = some (.int .i64 x.off) := by
  obtain ⟨a0, a1, a2, a3, a4, a5, a6, a7, a8, a9, a10, a11, a12, a13, a14, a15, a16, a17, a18, a19, a20, a21, a22, a23, a24, a25, a26, a27, a28, a29, a30, a31, e0⟩ := hs_lit x.sum
  simp [ptL, e0]
theorem cut_pt (x : Pt) : cutL (ptL x).toArray 0 36 = some (ptL x) := by simp [cutL, ptL_len, List.take_of_length_le (Nat.le_of_eq (ptL_len x))]
theorem eta_pt (x : Pt) : Pt.mk x.id x.path x.sum x.size x.off = x := rfl
theorem lenb_pt (x : Pt) : ((ptL x).length == 36) = true := by simp [ptL_len]
theorem lvO_pt (a : Addr) : loadVar 75 a = lvRow 75 a := rfl
theorem ldV_pt (a : Addr) (w : World) : (lvRow 75 a).run Tryd.prog w = rowRun Tryd.prog 75 a w (rowAt w a 36) := loadVar_row Tryd.underlying75 rfl (by kernel_rfl) a w
theorem ldO_pt (v : Value) : Instr.loadAt 75 v = ldRow 75 v := rfl
theorem stO_pt (p v : Value) : Instr.storeAt 75 p v = stRow 75 p v := rfl
theorem ldA_pt (a : Addr) (w : World) : (ldRow 75 (.pointer (some a))).run Tryd.prog w = rowRun Tryd.prog 75 a w (rowAt w a 36) := loadAt_row Tryd.underlying75 rfl (by kernel_rfl) a w
theorem stA_pt (g : Nat) (l : List Value) (w : World) (h1 : isRow w g 36 = true) (h2 : okL l 36 = true) : (stRow 75 (.pointer (some ⟨g, 0, none⟩)) (.agg l.toArray)).run Tryd.prog w = .ok () (w.setRow g l.toArray) := storeAt_row (by kernel_rfl) g l w h1 h2
theorem lv_pt {a : Addr} {w : World} {l : List Value} (h : rowAt w a 36 = some l) : (loadVar 75 a).run Tryd.prog w = .ok (.agg l.toArray) w := by rw [loadVar_row Tryd.underlying75 rfl (by kernel_rfl) a w, h, rowRun_some]
theorem zero_pt (w : World) : (zeroValue 75).run Tryd.prog w = .ok (.agg (ptL Pt.zero).toArray) w := by kernel_rfl
theorem part_pt_id (x : Pt) (w : World) : (part 3 (ptL x).toArray 0).run Tryd.prog w = .ok (.int .i64 x.id) w := by
  obtain ⟨a0, a1, a2, a3, a4, a5, a6, a7, a8, a9, a10, a11, a12, a13, a14, a15, a16, a17, a18, a19, a20, a21, a22, a23, a24, a25, a26, a27, a28, a29, a30, a31, e0⟩ := hs_lit x.sum
  simp only [ptL, e0]
  kernel_rfl
theorem part_pt_path (x : Pt) (w : World) : (part 9 (ptL x).toArray 1).run Tryd.prog w = .ok (.string x.path) w := by
  obtain ⟨a0, a1, a2, a3, a4, a5, a6, a7, a8, a9, a10, a11, a12, a13, a14, a15, a16, a17, a18, a19, a20, a21, a22, a23, a24, a25, a26, a27, a28, a29, a30, a31, e0⟩ := hs_lit x.sum
  simp only [ptL, e0]
  kernel_rfl
theorem part_pt_sum (x : Pt) (w : World) : (part 24 (ptL x).toArray 2).run Tryd.prog w = .ok (.agg (hsL x.sum).toArray) w := by
  obtain ⟨a0, a1, a2, a3, a4, a5, a6, a7, a8, a9, a10, a11, a12, a13, a14, a15, a16, a17, a18, a19, a20, a21, a22, a23, a24, a25, a26, a27, a28, a29, a30, a31, e0⟩ := hs_lit x.sum
  simp only [ptL, e0]
  kernel_rfl
theorem part_pt_size (x : Pt) (w : World) : (part 3 (ptL x).toArray 34).run Tryd.prog w = .ok (.int .i64 x.size) w := by
  obtain ⟨a0, a1, a2, a3, a4, a5, a6, a7, a8, a9, a10, a11, a12, a13, a14, a15, a16, a17, a18, a19, a20, a21, a22, a23, a24, a25, a26, a27, a28, a29, a30, a31, e0⟩ := hs_lit x.sum
  simp only [ptL, e0]
  kernel_rfl
theorem part_pt_off (x : Pt) (w : World) : (part 3 (ptL x).toArray 35).run Tryd.prog w = .ok (.int .i64 x.off) w := by
  obtain ⟨a0, a1, a2, a3, a4, a5, a6, a7, a8, a9, a10, a11, a12, a13, a14, a15, a16, a17, a18, a19, a20, a21, a22, a23, a24, a25, a26, a27, a28, a29, a30, a31, e0⟩ := hs_lit x.sum
  simp only [ptL, e0]
  kernel_rfl
theorem eqA_pt (d : Nat) (a b : Pt) (w : World) : (Op.equalIn (d + 4) 75 (.agg (ptL a).toArray) (.agg (ptL b).toArray)).run Tryd.prog w = .ok (decide (a = b)) w := by
  have e : decide (a = b) = (decide (a.id = b.id) && (decide (a.path = b.path) && (decide (a.sum = b.sum) && (decide (a.size = b.size) && (decide (a.off = b.off)))))) := by
    cases a; cases b; simp
  rw [e]
  refine eqA_of Tryd.underlying75 (by kernel_rfl) ?_
  refine eqf_cons (by rfl) (part_pt_id a w) (part_pt_id b w) (by go_simp; rfl) ?_
  refine eqf_cons (by rfl) (part_pt_path a w) (part_pt_path b w) (by rw [← str_eq]; go_simp) ?_
  refine eqf_cons (by rfl) (part_pt_sum a w) (part_pt_sum b w) (eqA_hs (d + 1) a.sum b.sum w) ?_
  refine eqf_cons (by rfl) (part_pt_size a w) (part_pt_size b w) (by go_simp; rfl) ?_
  exact eqf_last (by rfl) (part_pt_off a w) (part_pt_off b w) (by go_simp; rfl)
theorem lvO_ptR (a : Addr) : loadVar 78 a = lvRow 78 a := rfl
theorem ldV_ptR (a : Addr) (w : World) : (lvRow 78 a).run Tryd.prog w = rowRun Tryd.prog 78 a w (rowAt w a 36) := loadVar_row Tryd.underlying78 rfl (by kernel_rfl) a w
theorem ldO_ptR (v : Value) : Instr.loadAt 78 v = ldRow 78 v := rfl
theorem stO_ptR (p v : Value) : Instr.storeAt 78 p v = stRow 78 p v := rfl
theorem ldA_ptR (a : Addr) (w : World) : (ldRow 78 (.pointer (some a))).run Tryd.prog w = rowRun Tryd.prog 78 a w (rowAt w a 36) := loadAt_row Tryd.underlying78 rfl (by kernel_rfl) a w
theorem stA_ptR (g : Nat) (l : List Value) (w : World) (h1 : isRow w g 36 = true) (h2 : okL l 36 = true) : (stRow 78 (.pointer (some ⟨g, 0, none⟩)) (.agg l.toArray)).run Tryd.prog w = .ok () (w.setRow g l.toArray) := storeAt_row (by kernel_rfl) g l w h1 h2
theorem lv_ptR {a : Addr} {w : World} {l : List Value} (h : rowAt w a 36 = some l) : (loadVar 78 a).run Tryd.prog w = .ok (.agg l.toArray) w := by rw [loadVar_row Tryd.underlying78 rfl (by kernel_rfl) a w, h, rowRun_some]
theorem zero_ptR (w : World) : (zeroValue 78).run Tryd.prog w = .ok (.agg (ptL Pt.zero).toArray) w := by kernel_rfl
theorem part_ptR_id (x : Pt) (w : World) : (part 3 (ptL x).toArray 0).run Tryd.prog w = .ok (.int .i64 x.id) w := by
  obtain ⟨a0, a1, a2, a3, a4, a5, a6, a7, a8, a9, a10, a11, a12, a13, a14, a15, a16, a17, a18, a19, a20, a21, a22, a23, a24, a25, a26, a27, a28, a29, a30, a31, e0⟩ := hs_lit x.sum
  simp only [ptL, e0]
  kernel_rfl
theorem part_ptR_path (x : Pt) (w : World) : (part 9 (ptL x).toArray 1).run Tryd.prog w = .ok (.string x.path) w := by
  obtain ⟨a0, a1, a2, a3, a4, a5, a6, a7, a8, a9, a10, a11, a12, a13, a14, a15, a16, a17, a18, a19, a20, a21, a22, a23, a24, a25, a26, a27, a28, a29, a30, a31, e0⟩ := hs_lit x.sum
  simp only [ptL, e0]
  kernel_rfl
theorem part_ptR_sum (x : Pt) (w : World) : (part 24 (ptL x).toArray 2).run Tryd.prog w = .ok (.agg (hsL x.sum).toArray) w := by
  obtain ⟨a0, a1, a2, a3, a4, a5, a6, a7, a8, a9, a10, a11, a12, a13, a14, a15, a16, a17, a18, a19, a20, a21, a22, a23, a24, a25, a26, a27, a28, a29, a30, a31, e0⟩ := hs_lit x.sum
  simp only [ptL, e0]
  kernel_rfl
theorem part_ptR_size (x : Pt) (w : World) : (part 3 (ptL x).toArray 34).run Tryd.prog w = .ok (.int .i64 x.size) w := by
  obtain ⟨a0, a1, a2, a3, a4, a5, a6, a7, a8, a9, a10, a11, a12, a13, a14, a15, a16, a17, a18, a19, a20, a21, a22, a23, a24, a25, a26, a27, a28, a29, a30, a31, e0⟩ := hs_lit x.sum
  simp only [ptL, e0]
  kernel_rfl
theorem part_ptR_off (x : Pt) (w : World) : (part 3 (ptL x).toArray 35).run Tryd.prog w = .ok (.int .i64 x.off) w := by
  obtain ⟨a0, a1, a2, a3, a4, a5, a6, a7, a8, a9, a10, a11, a12, a13, a14, a15, a16, a17, a18, a19, a20, a21, a22, a23, a24, a25, a26, a27, a28, a29, a30, a31, e0⟩ := hs_lit x.sum
  simp only [ptL, e0]
  kernel_rfl
theorem eqA_ptR (d : Nat) (a b : Pt) (w : World) : (Op.equalIn (d + 4) 78 (.agg (ptL a).toArray) (.agg (ptL b).toArray)).run Tryd.prog w = .ok (decide (a = b)) w := by
  have e : decide (a = b) = (decide (a.id = b.id) && (decide (a.path = b.path) && (decide (a.sum = b.sum) && (decide (a.size = b.size) && (decide (a.off = b.off)))))) := by
    cases a; cases b; simp
  rw [e]
  refine eqA_of Tryd.underlying78 (by kernel_rfl) ?_
  refine eqf_cons (by rfl) (part_ptR_id a w) (part_ptR_id b w) (by go_simp; rfl) ?_
  refine eqf_cons (by rfl) (part_ptR_path a w) (part_ptR_path b w) (by rw [← str_eq]; go_simp) ?_
  refine eqf_cons (by rfl) (part_ptR_sum a w) (part_ptR_sum b w) (eqA_hs (d + 1) a.sum b.sum w) ?_
  refine eqf_cons (by rfl) (part_ptR_size a w) (part_ptR_size b w) (by go_simp; rfl) ?_
  exact eqf_last (by rfl) (part_ptR_off a w) (part_ptR_off b w) (by go_simp; rfl)
/-- A struct by value. -/
structure Rc where
  kind : Int
  id : Int
  path : ByteArray
  sum : Hs
  size : Int
  off : Int
deriving DecidableEq
def Rc.zero : Rc := ⟨0, 0, ByteArray.empty, Hs.zero, 0, 0⟩
instance : Inhabited Rc := ⟨Rc.zero⟩
def rcL (x : Rc) : List Value := [.int .u8 x.kind, .int .i64 x.id, .string x.path] ++ (hsL x.sum ++ ([.int .i64 x.size, .int .i64 x.off]))
theorem rcL_len (x : Rc) : (rcL x).length = 37 := by simp [rcL, hsL_len]
theorem rcL_one (x : Rc) : ∀ v ∈ rcL x, v.oneCell' = true := by
  intro v hv
  simp only [rcL, List.mem_append, List.mem_cons, List.not_mem_nil, or_false] at hv
  rcases hv with (rfl | rfl | rfl) | (hv | (rfl | rfl)) <;> first | rfl | exact hsL_one _ v hv
theorem okL_rc (x : Rc) : okL (rcL x) 37 = true := by unfold okL; simp only [rcL_len, beq_self_eq_true, Bool.true_and, List.all_eq_true]; exact rcL_one x
theorem size_rc (x : Rc) : (rcL x).toArray.size = 37 := by simp [rcL_len]
theorem get_rc_kind (x : Rc) : (rcL x)[0]? = some (.int .u8 x.kind) := by
  simp [rcL]
theorem get_rc_id (x : Rc) : (rcL x)[1]? = some (.int .i64 x.id) := by
  simp [rcL]
theorem get_rc_path (x : Rc) : (rcL x)[2]? = some (.string x.path) := by
  simp [rcL]
theorem cut_rc_sum (x : Rc) : cutL (rcL x).toArray 3 32 = some (hsL x.sum) := by
  obtain ⟨a0, a1, a2, a3, a4, a5, a6, a7, a8, a9, a10, a11, a12, a13, a14, a15, a16, a17, a18, a19, a20, a21, a22, a23, a24, a25, a26, a27, a28, a29, a30, a31, e0⟩ := hs_lit x.sum
  simp [cutL, rcL, e0]
theorem get_rc_size (x : Rc) : (rcL x)[35]? = some (.int .i64 x.size) := by
  obtain ⟨a0, a1, a2, a3, a4, a5, a6, a7, a8, a9, a10, a11, a12, a13, a14, a15, a16, a17, a18, a19, a20, a21, a22, a23, a24, a25, a26, a27, a28, a29, a30, a31, e0⟩ := hs_lit x.sum
  simp [rcL, e0]
theorem get_rc_off (x : Rc) : (rcL x)[36]? = some (.int .i64 x.off) := by
  obtain ⟨a0, a1, a2, a3, a4, a5, a6, a7, a8, a9, a10, a11, a12, a13, a14, a15, a16, a17, a18, a19, a20, a21, a22, a23, a24, a25, a26, a27, a28, a29, a30, a31, e0⟩ := hs_lit x.sum
  simp [rcL, e0]
theorem cut_rc (x : Rc) : cutL (rcL x).toArray 0 37 = some (rcL x) := by simp [cutL, rcL_len, List.take_of_length_le (Nat.le_of_eq (rcL_len x))]
theorem eta_rc (x : Rc) : Rc.mk x.kind x.id x.path x.sum x.size x.off = x := rfl
theorem lenb_rc (x : Rc) : ((rcL x).length == 37) = true := by simp [rcL_len]
theorem lvO_rc (a : Addr) : loadVar 51 a = lvRow 51 a := rfl
theorem ldV_rc (a : Addr) (w : World) : (lvRow 51 a).run Tryd.prog w = rowRun Tryd.prog 51 a w (rowAt w a 37) := loadVar_row Tryd.underlying51 rfl (by kernel_rfl) a w
theorem ldO_rc (v : Value) : Instr.loadAt 51 v = ldRow 51 v := rfl
theorem stO_rc (p v : Value) : Instr.storeAt 51 p v = stRow 51 p v := rfl
theorem ldA_rc (a : Addr) (w : World) : (ldRow 51 (.pointer (some a))).run Tryd.prog w = rowRun Tryd.prog 51 a w (rowAt w a 37) := loadAt_row Tryd.underlying51 rfl (by kernel_rfl) a w
theorem stA_rc (g : Nat) (l : List Value) (w : World) (h1 : isRow w g 37 = true) (h2 : okL l 37 = true) : (stRow 51 (.pointer (some ⟨g, 0, none⟩)) (.agg l.toArray)).run Tryd.prog w = .ok () (w.setRow g l.toArray) := storeAt_row (by kernel_rfl) g l w h1 h2
theorem lv_rc {a : Addr} {w : World} {l : List Value} (h : rowAt w a 37 = some l) : (loadVar 51 a).run Tryd.prog w = .ok (.agg l.toArray) w := by rw [loadVar_row Tryd.underlying51 rfl (by kernel_rfl) a w, h, rowRun_some]
theorem zero_rc (w : World) : (zeroValue 51).run Tryd.prog w = .ok (.agg (rcL Rc.zero).toArray) w := by kernel_rfl
theorem part_rc_kind (x : Rc) (w : World) : (part 49 (rcL x).toArray 0).run Tryd.prog w = .ok (.int .u8 x.kind) w := by
  obtain ⟨a0, a1, a2, a3, a4, a5, a6, a7, a8, a9, a10, a11, a12, a13, a14, a15, a16, a17, a18, a19, a20, a21, a22, a23, a24, a25, a26, a27, a28, a29, a30, a31, e0⟩ := hs_lit x.sum
  simp only [rcL, e0]
  kernel_rfl
theorem part_rc_id (x : Rc) (w : World) : (part 3 (rcL x).toArray 1).run Tryd.prog w = .ok (.int .i64 x.id) w := by
  obtain ⟨a0, a1, a2, a3, a4, a5, a6, a7, a8, a9, a10, a11, a12, a13, a14, a15, a16, a17, a18, a19, a20, a21, a22, a23, a24, a25, a26, a27, a28, a29, a30, a31, e0⟩ := hs_lit x.sum
  simp only [rcL, e0]
  kernel_rfl
theorem part_rc_path (x : Rc) (w : World) : (part 9 (rcL x).toArray 2).run Tryd.prog w = .ok (.string x.path) w := by
  obtain ⟨a0, a1, a2, a3, a4, a5, a6, a7, a8, a9, a10, a11, a12, a13, a14, a15, a16, a17, a18, a19, a20, a21, a22, a23, a24, a25, a26, a27, a28, a29, a30, a31, e0⟩ := hs_lit x.sum
  simp only [rcL, e0]
  kernel_rfl
theorem part_rc_sum (x : Rc) (w : World) : (part 24 (rcL x).toArray 3).run Tryd.prog w = .ok (.agg (hsL x.sum).toArray) w := by
  obtain ⟨a0, a1, a2, a3, a4, a5, a6, a7, a8, a9, a10, a11, a12, a13, a14, a15, a16, a17, a18, a19, a20, a21, a22, a23, a24, a25, a26, a27, a28, a29, a30, a31, e0⟩ := hs_lit x.sum
  simp only [rcL, e0]
  kernel_rfl
theorem part_rc_size (x : Rc) (w : World) : (part 3 (rcL x).toArray 35).run Tryd.prog w = .ok (.int .i64 x.size) w := by
  obtain ⟨a0, a1, a2, a3, a4, a5, a6, a7, a8, a9, a10, a11, a12, a13, a14, a15, a16, a17, a18, a19, a20, a21, a22, a23, a24, a25, a26, a27, a28, a29, a30, a31, e0⟩ := hs_lit x.sum
  simp only [rcL, e0]
  kernel_rfl
theorem part_rc_off (x : Rc) (w : World) : (part 3 (rcL x).toArray 36).run Tryd.prog w = .ok (.int .i64 x.off) w := by
  obtain ⟨a0, a1, a2, a3, a4, a5, a6, a7, a8, a9, a10, a11, a12, a13, a14, a15, a16, a17, a18, a19, a20, a21, a22, a23, a24, a25, a26, a27, a28, a29, a30, a31, e0⟩ := hs_lit x.sum
  simp only [rcL, e0]
  kernel_rfl
theorem eqA_rc (d : Nat) (a b : Rc) (w : World) : (Op.equalIn (d + 4) 51 (.agg (rcL a).toArray) (.agg (rcL b).toArray)).run Tryd.prog w = .ok (decide (a = b)) w := by
  have e : decide (a = b) = (decide (a.kind = b.kind) && (decide (a.id = b.id) && (decide (a.path = b.path) && (decide (a.sum = b.sum) && (decide (a.size = b.size) && (decide (a.off = b.off))))))) := by
    cases a; cases b; simp
  rw [e]
  refine eqA_of Tryd.underlying51 (by kernel_rfl) ?_
  refine eqf_cons (by rfl) (part_rc_kind a w) (part_rc_kind b w) (by go_simp; rfl) ?_
  refine eqf_cons (by rfl) (part_rc_id a w) (part_rc_id b w) (by go_simp; rfl) ?_
  refine eqf_cons (by rfl) (part_rc_path a w) (part_rc_path b w) (by rw [← str_eq]; go_simp) ?_
  refine eqf_cons (by rfl) (part_rc_sum a w) (part_rc_sum b w) (eqA_hs (d + 1) a.sum b.sum w) ?_
  refine eqf_cons (by rfl) (part_rc_size a w) (part_rc_size b w) (by go_simp; rfl) ?_
  exact eqf_last (by rfl) (part_rc_off a w) (part_rc_off b w) (by go_simp; rfl)
theorem lvO_rcR (a : Addr) : loadVar 47 a = lvRow 47 a := rfl
theorem ldV_rcR (a : Addr) (w : World) : (lvRow 47 a).run Tryd.prog w = rowRun Tryd.prog 47 a w (rowAt w a 37) := loadVar_row Tryd.underlying47 rfl (by kernel_rfl) a w
theorem ldO_rcR (v : Value) : Instr.loadAt 47 v = ldRow 47 v := rfl
theorem stO_rcR (p v : Value) : Instr.storeAt 47 p v = stRow 47 p v := rfl
theorem ldA_rcR (a : Addr) (w : World) : (ldRow 47 (.pointer (some a))).run Tryd.prog w = rowRun Tryd.prog 47 a w (rowAt w a 37) := loadAt_row Tryd.underlying47 rfl (by kernel_rfl) a w
theorem stA_rcR (g : Nat) (l : List Value) (w : World) (h1 : isRow w g 37 = true) (h2 : okL l 37 = true) : (stRow 47 (.pointer (some ⟨g, 0, none⟩)) (.agg l.toArray)).run Tryd.prog w = .ok () (w.setRow g l.toArray) := storeAt_row (by kernel_rfl) g l w h1 h2
theorem zero_rcR (w : World) : (zeroValue 47).run Tryd.prog w = .ok (.agg (rcL Rc.zero).toArray) w := by kernel_rfl
theorem part_rcR_kind (x : Rc) (w : World) : (part 5 (rcL x).toArray 0).run Tryd.prog w = .ok (.int .u8 x.kind) w := by
  obtain ⟨a0, a1, a2, a3, a4, a5, a6, a7, a8, a9, a10, a11, a12, a13, a14, a15, a16, a17, a18, a19, a20, a21, a22, a23, a24, a25, a26, a27, a28, a29, a30, a31, e0⟩ := hs_lit x.sum
  simp only [rcL, e0]
  kernel_rfl
theorem part_rcR_id (x : Rc) (w : World) : (part 3 (rcL x).toArray 1).run Tryd.prog w = .ok (.int .i64 x.id) w := by
  obtain ⟨a0, a1, a2, a3, a4, a5, a6, a7, a8, a9, a10, a11, a12, a13, a14, a15, a16, a17, a18, a19, a20, a21, a22, a23, a24, a25, a26, a27, a28, a29, a30, a31, e0⟩ := hs_lit x.sum
  simp only [rcL, e0]
  kernel_rfl
theorem part_rcR_path (x : Rc) (w : World) : (part 9 (rcL x).toArray 2).run Tryd.prog w = .ok (.string x.path) w := by
  obtain ⟨a0, a1, a2, a3, a4, a5, a6, a7, a8, a9, a10, a11, a12, a13, a14, a15, a16, a17, a18, a19, a20, a21, a22, a23, a24, a25, a26, a27, a28, a29, a30, a31, e0⟩ := hs_lit x.sum
  simp only [rcL, e0]
  kernel_rfl
theorem part_rcR_sum (x : Rc) (w : World) : (part 24 (rcL x).toArray 3).run Tryd.prog w = .ok (.agg (hsL x.sum).toArray) w := by
  obtain ⟨a0, a1, a2, a3, a4, a5, a6, a7, a8, a9, a10, a11, a12, a13, a14, a15, a16, a17, a18, a19, a20, a21, a22, a23, a24, a25, a26, a27, a28, a29, a30, a31, e0⟩ := hs_lit x.sum
  simp only [rcL, e0]
  kernel_rfl
theorem part_rcR_size (x : Rc) (w : World) : (part 3 (rcL x).toArray 35).run Tryd.prog w = .ok (.int .i64 x.size) w := by
  obtain ⟨a0, a1, a2, a3, a4, a5, a6, a7, a8, a9, a10, a11, a12, a13, a14, a15, a16, a17, a18, a19, a20, a21, a22, a23, a24, a25, a26, a27, a28, a29, a30, a31, e0⟩ := hs_lit x.sum
  simp only [rcL, e0]
  kernel_rfl
theorem part_rcR_off (x : Rc) (w : World) : (part 3 (rcL x).toArray 36).run Tryd.prog w = .ok (.int .i64 x.off) w := by
  obtain ⟨a0, a1, a2, a3, a4, a5, a6, a7, a8, a9, a10, a11, a12, a13, a14, a15, a16, a17, a18, a19, a20, a21, a22, a23, a24, a25, a26, a27, a28, a29, a30, a31, e0⟩ := hs_lit x.sum
  simp only [rcL, e0]
  kernel_rfl
theorem eqA_rcR (d : Nat) (a b : Rc) (w : World) : (Op.equalIn (d + 4) 47 (.agg (rcL a).toArray) (.agg (rcL b).toArray)).run Tryd.prog w = .ok (decide (a = b)) w := by
  have e : decide (a = b) = (decide (a.kind = b.kind) && (decide (a.id = b.id) && (decide (a.path = b.path) && (decide (a.sum = b.sum) && (decide (a.size = b.size) && (decide (a.off = b.off))))))) := by
    cases a; cases b; simp
  rw [e]
  refine eqA_of Tryd.underlying47 (by kernel_rfl) ?_
  refine eqf_cons (by rfl) (part_rcR_kind a w) (part_rcR_kind b w) (by go_simp; rfl) ?_
  refine eqf_cons (by rfl) (part_rcR_id a w) (part_rcR_id b w) (by go_simp; rfl) ?_
  refine eqf_cons (by rfl) (part_rcR_path a w) (part_rcR_path b w) (by rw [← str_eq]; go_simp) ?_
  refine eqf_cons (by rfl) (part_rcR_sum a w) (part_rcR_sum b w) (eqA_hs (d + 1) a.sum b.sum w) ?_
  refine eqf_cons (by rfl) (part_rcR_size a w) (part_rcR_size b w) (by go_simp; rfl) ?_
  exact eqf_last (by rfl) (part_rcR_off a w) (part_rcR_off b w) (by go_simp; rfl)
/-- A struct by value. -/
structure Tk where
  path : ByteArray
  sum : Hs
  size : Int
  off : Int
  old : Hs
deriving DecidableEq
def Tk.zero : Tk := ⟨ByteArray.empty, Hs.zero, 0, 0, Hs.zero⟩
instance : Inhabited Tk := ⟨Tk.zero⟩
def tkL (x : Tk) : List Value := [.string x.path] ++ (hsL x.sum ++ ([.int .i64 x.size, .int .i64 x.off] ++ (hsL x.old)))
theorem tkL_len (x : Tk) : (tkL x).length = 67 := by simp [tkL, hsL_len]
theorem tkL_one (x : Tk) : ∀ v ∈ tkL x, v.oneCell' = true := by
  intro v hv
  simp only [tkL, List.mem_append, List.mem_cons, List.not_mem_nil, or_false] at hv
  rcases hv with rfl | (hv | ((rfl | rfl) | (hv))) <;> first | rfl | exact hsL_one _ v hv
theorem okL_tk (x : Tk) : okL (tkL x) 67 = true := by unfold okL; simp only [tkL_len, beq_self_eq_true, Bool.true_and, List.all_eq_true]; exact tkL_one x
theorem size_tk (x : Tk) : (tkL x).toArray.size = 67 := by simp [tkL_len]
theorem get_tk_path (x : Tk) : (tkL x)[0]? = some (.string x.path) := by
  simp [tkL]
theorem cut_tk_sum (x : Tk) : cutL (tkL x).toArray 1 32 = some (hsL x.sum) := by
  obtain ⟨a0, a1, a2, a3, a4, a5, a6, a7, a8, a9, a10, a11, a12, a13, a14, a15, a16, a17, a18, a19, a20, a21, a22, a23, a24, a25, a26, a27, a28, a29, a30, a31, e0⟩ := hs_lit x.sum; obtain ⟨b0, b1, b2, b3, b4, b5, b6, b7, b8, b9, b10, b11, b12, b13, b14, b15, b16, b17, b18, b19, b20, b21, b22, b23, b24, b25, b26, b27, b28, b29, b30, b31, e1⟩ := hs_lit x.old
  simp [cutL, tkL, e0, e1]
theorem get_tk_size (x : Tk) : (tkL x)[33]? = some (.int .i64 x.size) := by
  obtain ⟨a0, a1, a2, a3, a4, a5, a6, a7, a8, a9, a10, a11, a12, a13, a14, a15, a16, a17, a18, a19, a20, a21, a22, a23, a24, a25, a26, a27, a28, a29, a30, a31, e0⟩ := hs_lit x.sum; obtain ⟨b0, b1, b2, b3, b4, b5, b6, b7, b8, b9, b10, b11, b12, b13, b14, b15, b16, b17, b18, b19, b20, b21, b22, b23, b24, b25, b26, b27, b28, b29, b30, b31, e1⟩ := hs_lit x.old
  simp [tkL, e0, e1]
theorem get_tk_off (x : Tk) : (tkL x)[34]? = some (.int .i64 x.off) := by
  obtain ⟨a0, a1, a2, a3, a4, a5, a6, a7, a8, a9, a10, a11, a12, a13, a14, a15, a16, a17, a18, a19, a20, a21, a22, a23, a24, a25, a26, a27, a28, a29, a30, a31, e0⟩ := hs_lit x.sum; obtain ⟨b0, b1, b2, b3, b4, b5, b6, b7, b8, b9, b10, b11, b12, b13, b14, b15, b16, b17, b18, b19, b20, b21, b22, b23, b24, b25, b26, b27, b28, b29, b30, b31, e1⟩ := hs_lit x.old
  simp [tkL, e0, e1]
theorem cut_tk_old (x : Tk) : cutL (tkL x).toArray 35 32 = some (hsL x.old) := by
  obtain ⟨a0, a1, a2, a3, a4, a5, a6, a7, a8, a9, a10, a11, a12, a13, a14, a15, a16, a17, a18, a19, a20, a21, a22, a23, a24, a25, a26, a27, a28, a29, a30, a31, e0⟩ := hs_lit x.sum; obtain ⟨b0, b1, b2, b3, b4, b5, b6, b7, b8, b9, b10, b11, b12, b13, b14, b15, b16, b17, b18, b19, b20, b21, b22, b23, b24, b25, b26, b27, b28, b29, b30, b31, e1⟩ := hs_lit x.old
  simp [cutL, tkL, e0, e1]
theorem cut_tk (x : Tk) : cutL (tkL x).toArray 0 67 = some (tkL x) := by simp [cutL, tkL_len, List.take_of_length_le (Nat.le_of_eq (tkL_len x))]
theorem eta_tk (x : Tk) : Tk.mk x.path x.sum x.size x.off x.old = x := rfl
theorem lenb_tk (x : Tk) : ((tkL x).length == 67) = true := by simp [tkL_len]
theorem lvO_tk (a : Addr) : loadVar 33 a = lvRow 33 a := rfl
theorem ldV_tk (a : Addr) (w : World) : (lvRow 33 a).run Tryd.prog w = rowRun Tryd.prog 33 a w (rowAt w a 67) := loadVar_row Tryd.underlying33 rfl (by kernel_rfl) a w
theorem ldO_tk (v : Value) : Instr.loadAt 33 v = ldRow 33 v := rfl
theorem stO_tk (p v : Value) : Instr.storeAt 33 p v = stRow 33 p v := rfl
theorem ldA_tk (a : Addr) (w : World) : (ldRow 33 (.pointer (some a))).run Tryd.prog w = rowRun Tryd.prog 33 a w (rowAt w a 67) := loadAt_row Tryd.underlying33 rfl (by kernel_rfl) a w
theorem stA_tk (g : Nat) (l : List Value) (w : World) (h1 : isRow w g 67 = true) (h2 : okL l 67 = true) : (stRow 33 (.pointer (some ⟨g, 0, none⟩)) (.agg l.toArray)).run Tryd.prog w = .ok () (w.setRow g l.toArray) := storeAt_row (by kernel_rfl) g l w h1 h2
theorem zero_tk (w : World) : (zeroValue 33).run Tryd.prog w = .ok (.agg (tkL Tk.zero).toArray) w := by kernel_rfl
theorem part_tk_path (x : Tk) (w : World) : (part 9 (tkL x).toArray 0).run Tryd.prog w = .ok (.string x.path) w := by
  obtain ⟨a0, a1, a2, a3, a4, a5, a6, a7, a8, a9, a10, a11, a12, a13, a14, a15, a16, a17, a18, a19, a20, a21, a22, a23, a24, a25, a26, a27, a28, a29, a30, a31, e0⟩ := hs_lit x.sum; obtain ⟨b0, b1, b2, b3, b4, b5, b6, b7, b8, b9, b10, b11, b12, b13, b14, b15, b16, b17, b18, b19, b20, b21, b22, b23, b24, b25, b26, b27, b28, b29, b30, b31, e1⟩ := hs_lit x.old
  simp only [tkL, e0, e1]
  kernel_rfl
theorem part_tk_sum (x : Tk) (w : World) : (part 24 (tkL x).toArray 1).run Tryd.prog w = .ok (.agg (hsL x.sum).toArray) w := by
  obtain ⟨a0, a1, a2, a3, a4, a5, a6, a7, a8, a9, a10, a11, a12, a13, a14, a15, a16, a17, a18, a19, a20, a21, a22, a23, a24, a25, a26, a27, a28, a29, a30, a31, e0⟩ := hs_lit x.sum; obtain ⟨b0, b1, b2, b3, b4, b5, b6, b7, b8, b9, b10, b11, b12, b13, b14, b15, b16, b17, b18, b19, b20, b21, b22, b23, b24, b25, b26, b27, b28, b29, b30, b31, e1⟩ := hs_lit x.old
  simp only [tkL, e0, e1]
  kernel_rfl
theorem part_tk_size (x : Tk) (w : World) : (part 3 (tkL x).toArray 33).run Tryd.prog w = .ok (.int .i64 x.size) w := by
  obtain ⟨a0, a1, a2, a3, a4, a5, a6, a7, a8, a9, a10, a11, a12, a13, a14, a15, a16, a17, a18, a19, a20, a21, a22, a23, a24, a25, a26, a27, a28, a29, a30, a31, e0⟩ := hs_lit x.sum; obtain ⟨b0, b1, b2, b3, b4, b5, b6, b7, b8, b9, b10, b11, b12, b13, b14, b15, b16, b17, b18, b19, b20, b21, b22, b23, b24, b25, b26, b27, b28, b29, b30, b31, e1⟩ := hs_lit x.old
  simp only [tkL, e0, e1]
  kernel_rfl
theorem part_tk_off (x : Tk) (w : World) : (part 3 (tkL x).toArray 34).run Tryd.prog w = .ok (.int .i64 x.off) w := by
  obtain ⟨a0, a1, a2, a3, a4, a5, a6, a7, a8, a9, a10, a11, a12, a13, a14, a15, a16, a17, a18, a19, a20, a21, a22, a23, a24, a25, a26, a27, a28, a29, a30, a31, e0⟩ := hs_lit x.sum; obtain ⟨b0, b1, b2, b3, b4, b5, b6, b7, b8, b9, b10, b11, b12, b13, b14, b15, b16, b17, b18, b19, b20, b21, b22, b23, b24, b25, b26, b27, b28, b29, b30, b31, e1⟩ := hs_lit x.old
  simp only [tkL, e0, e1]
  kernel_rfl
theorem part_tk_old (x : Tk) (w : World) : (part 24 (tkL x).toArray 35).run Tryd.prog w = .ok (.agg (hsL x.old).toArray) w := by
  obtain ⟨a0, a1, a2, a3, a4, a5, a6, a7, a8, a9, a10, a11, a12, a13, a14, a15, a16, a17, a18, a19, a20, a21, a22, a23, a24, a25, a26, a27, a28, a29, a30, a31, e0⟩ := hs_lit x.sum; obtain ⟨b0, b1, b2, b3, b4, b5, b6, b7, b8, b9, b10, b11, b12, b13, b14, b15, b16, b17, b18, b19, b20, b21, b22, b23, b24, b25, b26, b27, b28, b29, b30, b31, e1⟩ := hs_lit x.old
  simp only [tkL, e0, e1]
  kernel_rfl
theorem eqA_tk (d : Nat) (a b : Tk) (w : World) : (Op.equalIn (d + 4) 33 (.agg (tkL a).toArray) (.agg (tkL b).toArray)).run Tryd.prog w = .ok (decide (a = b)) w := by
  have e : decide (a = b) = (decide (a.path = b.path) && (decide (a.sum = b.sum) && (decide (a.size = b.size) && (decide (a.off = b.off) && (decide (a.old = b.old)))))) := by
    cases a; cases b; simp
  rw [e]
  refine eqA_of Tryd.underlying33 (by kernel_rfl) ?_
  refine eqf_cons (by rfl) (part_tk_path a w) (part_tk_path b w) (by rw [← str_eq]; go_simp) ?_
  refine eqf_cons (by rfl) (part_tk_sum a w) (part_tk_sum b w) (eqA_hs (d + 1) a.sum b.sum w) ?_
  refine eqf_cons (by rfl) (part_tk_size a w) (part_tk_size b w) (by go_simp; rfl) ?_
  refine eqf_cons (by rfl) (part_tk_off a w) (part_tk_off b w) (by go_simp; rfl) ?_
  exact eqf_last (by rfl) (part_tk_old a w) (part_tk_old b w) (eqA_hs (d + 1) a.old b.old w)
theorem lvO_tkR (a : Addr) : loadVar 26 a = lvRow 26 a := rfl
theorem ldV_tkR (a : Addr) (w : World) : (lvRow 26 a).run Tryd.prog w = rowRun Tryd.prog 26 a w (rowAt w a 67) := loadVar_row Tryd.underlying26 rfl (by kernel_rfl) a w
theorem ldO_tkR (v : Value) : Instr.loadAt 26 v = ldRow 26 v := rfl
theorem stO_tkR (p v : Value) : Instr.storeAt 26 p v = stRow 26 p v := rfl
theorem ldA_tkR (a : Addr) (w : World) : (ldRow 26 (.pointer (some a))).run Tryd.prog w = rowRun Tryd.prog 26 a w (rowAt w a 67) := loadAt_row Tryd.underlying26 rfl (by kernel_rfl) a w
theorem stA_tkR (g : Nat) (l : List Value) (w : World) (h1 : isRow w g 67 = true) (h2 : okL l 67 = true) : (stRow 26 (.pointer (some ⟨g, 0, none⟩)) (.agg l.toArray)).run Tryd.prog w = .ok () (w.setRow g l.toArray) := storeAt_row (by kernel_rfl) g l w h1 h2
theorem zero_tkR (w : World) : (zeroValue 26).run Tryd.prog w = .ok (.agg (tkL Tk.zero).toArray) w := by kernel_rfl
theorem part_tkR_path (x : Tk) (w : World) : (part 9 (tkL x).toArray 0).run Tryd.prog w = .ok (.string x.path) w := by
  obtain ⟨a0, a1, a2, a3, a4, a5, a6, a7, a8, a9, a10, a11, a12, a13, a14, a15, a16, a17, a18, a19, a20, a21, a22, a23, a24, a25, a26, a27, a28, a29, a30, a31, e0⟩ := hs_lit x.sum; obtain ⟨b0, b1, b2, b3, b4, b5, b6, b7, b8, b9, b10, b11, b12, b13, b14, b15, b16, b17, b18, b19, b20, b21, b22, b23, b24, b25, b26, b27, b28, b29, b30, b31, e1⟩ := hs_lit x.old
  simp only [tkL, e0, e1]
  kernel_rfl
theorem part_tkR_sum (x : Tk) (w : World) : (part 24 (tkL x).toArray 1).run Tryd.prog w = .ok (.agg (hsL x.sum).toArray) w := by
  obtain ⟨a0, a1, a2, a3, a4, a5, a6, a7, a8, a9, a10, a11, a12, a13, a14, a15, a16, a17, a18, a19, a20, a21, a22, a23, a24, a25, a26, a27, a28, a29, a30, a31, e0⟩ := hs_lit x.sum; obtain ⟨b0, b1, b2, b3, b4, b5, b6, b7, b8, b9, b10, b11, b12, b13, b14, b15, b16, b17, b18, b19, b20, b21, b22, b23, b24, b25, b26, b27, b28, b29, b30, b31, e1⟩ := hs_lit x.old
  simp only [tkL, e0, e1]
  kernel_rfl
theorem part_tkR_size (x : Tk) (w : World) : (part 3 (tkL x).toArray 33).run Tryd.prog w = .ok (.int .i64 x.size) w := by
  obtain ⟨a0, a1, a2, a3, a4, a5, a6, a7, a8, a9, a10, a11, a12, a13, a14, a15, a16, a17, a18, a19, a20, a21, a22, a23, a24, a25, a26, a27, a28, a29, a30, a31, e0⟩ := hs_lit x.sum; obtain ⟨b0, b1, b2, b3, b4, b5, b6, b7, b8, b9, b10, b11, b12, b13, b14, b15, b16, b17, b18, b19, b20, b21, b22, b23, b24, b25, b26, b27, b28, b29, b30, b31, e1⟩ := hs_lit x.old
  simp only [tkL, e0, e1]
  kernel_rfl
theorem part_tkR_off (x : Tk) (w : World) : (part 3 (tkL x).toArray 34).run Tryd.prog w = .ok (.int .i64 x.off) w := by
  obtain ⟨a0, a1, a2, a3, a4, a5, a6, a7, a8, a9, a10, a11, a12, a13, a14, a15, a16, a17, a18, a19, a20, a21, a22, a23, a24, a25, a26, a27, a28, a29, a30, a31, e0⟩ := hs_lit x.sum; obtain ⟨b0, b1, b2, b3, b4, b5, b6, b7, b8, b9, b10, b11, b12, b13, b14, b15, b16, b17, b18, b19, b20, b21, b22, b23, b24, b25, b26, b27, b28, b29, b30, b31, e1⟩ := hs_lit x.old
  simp only [tkL, e0, e1]
  kernel_rfl
theorem part_tkR_old (x : Tk) (w : World) : (part 24 (tkL x).toArray 35).run Tryd.prog w = .ok (.agg (hsL x.old).toArray) w := by
  obtain ⟨a0, a1, a2, a3, a4, a5, a6, a7, a8, a9, a10, a11, a12, a13, a14, a15, a16, a17, a18, a19, a20, a21, a22, a23, a24, a25, a26, a27, a28, a29, a30, a31, e0⟩ := hs_lit x.sum; obtain ⟨b0, b1, b2, b3, b4, b5, b6, b7, b8, b9, b10, b11, b12, b13, b14, b15, b16, b17, b18, b19, b20, b21, b22, b23, b24, b25, b26, b27, b28, b29, b30, b31, e1⟩ := hs_lit x.old
  simp only [tkL, e0, e1]
  kernel_rfl
theorem eqA_tkR (d : Nat) (a b : Tk) (w : World) : (Op.equalIn (d + 4) 26 (.agg (tkL a).toArray) (.agg (tkL b).toArray)).run Tryd.prog w = .ok (decide (a = b)) w := by
  have e : decide (a = b) = (decide (a.path = b.path) && (decide (a.sum = b.sum) && (decide (a.size = b.size) && (decide (a.off = b.off) && (decide (a.old = b.old)))))) := by
    cases a; cases b; simp
  rw [e]
  refine eqA_of Tryd.underlying26 (by kernel_rfl) ?_
  refine eqf_cons (by rfl) (part_tkR_path a w) (part_tkR_path b w) (by rw [← str_eq]; go_simp) ?_
  refine eqf_cons (by rfl) (part_tkR_sum a w) (part_tkR_sum b w) (eqA_hs (d + 1) a.sum b.sum w) ?_
  refine eqf_cons (by rfl) (part_tkR_size a w) (part_tkR_size b w) (by go_simp; rfl) ?_
  refine eqf_cons (by rfl) (part_tkR_off a w) (part_tkR_off b w) (by go_simp; rfl) ?_
  exact eqf_last (by rfl) (part_tkR_old a w) (part_tkR_old b w) (eqA_hs (d + 1) a.old b.old w)
/-- A struct by value. -/
structure It where
  path : ByteArray
  dir : Bool
  size : Int
  sum : Hs
deriving DecidableEq
def It.zero : It := ⟨ByteArray.empty, false, 0, Hs.zero⟩
instance : Inhabited It := ⟨It.zero⟩
def itL (x : It) : List Value := [.string x.path, .bool x.dir, .int .i64 x.size] ++ (hsL x.sum)
theorem itL_len (x : It) : (itL x).length = 35 := by simp [itL, hsL_len]
theorem itL_one (x : It) : ∀ v ∈ itL x, v.oneCell' = true := by
  intro v hv
  simp only [itL, List.mem_append, List.mem_cons, List.not_mem_nil, or_false] at hv
  rcases hv with (rfl | rfl | rfl) | (hv) <;> first | rfl | exact hsL_one _ v hv
theorem okL_it (x : It) : okL (itL x) 35 = true := by unfold okL; simp only [itL_len, beq_self_eq_true, Bool.true_and, List.all_eq_true]; exact itL_one x
theorem size_it (x : It) : (itL x).toArray.size = 35 := by simp [itL_len]
theorem get_it_path (x : It) : (itL x)[0]? = some (.string x.path) := by
  simp [itL]
theorem get_it_dir (x : It) : (itL x)[1]? = some (.bool x.dir) := by
  simp [itL]
theorem get_it_size (x : It) : (itL x)[2]? = some (.int .i64 x.size) := by
  simp [itL]
theorem cut_it_sum (x : It) : cutL (itL x).toArray 3 32 = some (hsL x.sum) := by
  obtain ⟨a0, a1, a2, a3, a4, a5, a6, a7, a8, a9, a10, a11, a12, a13, a14, a15, a16, a17, a18, a19, a20, a21, a22, a23, a24, a25, a26, a27, a28, a29, a30, a31, e0⟩ := hs_lit x.sum
  simp [cutL, itL, e0]
theorem cut_it (x : It) : cutL (itL x).toArray 0 35 = some (itL x) := by simp [cutL, itL_len, List.take_of_length_le (Nat.le_of_eq (itL_len x))]
theorem eta_it (x : It) : It.mk x.path x.dir x.size x.sum = x := rfl
theorem lenb_it (x : It) : ((itL x).length == 35) = true := by simp [itL_len]
theorem lvO_it (a : Addr) : loadVar 28 a = lvRow 28 a := rfl
theorem ldV_it (a : Addr) (w : World) : (lvRow 28 a).run Tryd.prog w = rowRun Tryd.prog 28 a w (rowAt w a 35) := loadVar_row Tryd.underlying28 rfl (by kernel_rfl) a w
theorem ldO_it (v : Value) : Instr.loadAt 28 v = ldRow 28 v := rfl
theorem stO_it (p v : Value) : Instr.storeAt 28 p v = stRow 28 p v := rfl
theorem ldA_it (a : Addr) (w : World) : (ldRow 28 (.pointer (some a))).run Tryd.prog w = rowRun Tryd.prog 28 a w (rowAt w a 35) := loadAt_row Tryd.underlying28 rfl (by kernel_rfl) a w
theorem stA_it (g : Nat) (l : List Value) (w : World) (h1 : isRow w g 35 = true) (h2 : okL l 35 = true) : (stRow 28 (.pointer (some ⟨g, 0, none⟩)) (.agg l.toArray)).run Tryd.prog w = .ok () (w.setRow g l.toArray) := storeAt_row (by kernel_rfl) g l w h1 h2
theorem zero_it (w : World) : (zeroValue 28).run Tryd.prog w = .ok (.agg (itL It.zero).toArray) w := by kernel_rfl
theorem part_it_path (x : It) (w : World) : (part 9 (itL x).toArray 0).run Tryd.prog w = .ok (.string x.path) w := by
  obtain ⟨a0, a1, a2, a3, a4, a5, a6, a7, a8, a9, a10, a11, a12, a13, a14, a15, a16, a17, a18, a19, a20, a21, a22, a23, a24, a25, a26, a27, a28, a29, a30, a31, e0⟩ := hs_lit x.sum
  simp only [itL, e0]
  kernel_rfl
theorem part_it_dir (x : It) (w : World) : (part 4 (itL x).toArray 1).run Tryd.prog w = .ok (.bool x.dir) w := by
  obtain ⟨a0, a1, a2, a3, a4, a5, a6, a7, a8, a9, a10, a11, a12, a13, a14, a15, a16, a17, a18, a19, a20, a21, a22, a23, a24, a25, a26, a27, a28, a29, a30, a31, e0⟩ := hs_lit x.sum
  simp only [itL, e0]
  kernel_rfl
theorem part_it_size (x : It) (w : World) : (part 3 (itL x).toArray 2).run Tryd.prog w = .ok (.int .i64 x.size) w := by
  obtain ⟨a0, a1, a2, a3, a4, a5, a6, a7, a8, a9, a10, a11, a12, a13, a14, a15, a16, a17, a18, a19, a20, a21, a22, a23, a24, a25, a26, a27, a28, a29, a30, a31, e0⟩ := hs_lit x.sum
  simp only [itL, e0]
  kernel_rfl
theorem part_it_sum (x : It) (w : World) : (part 24 (itL x).toArray 3).run Tryd.prog w = .ok (.agg (hsL x.sum).toArray) w := by
  obtain ⟨a0, a1, a2, a3, a4, a5, a6, a7, a8, a9, a10, a11, a12, a13, a14, a15, a16, a17, a18, a19, a20, a21, a22, a23, a24, a25, a26, a27, a28, a29, a30, a31, e0⟩ := hs_lit x.sum
  simp only [itL, e0]
  kernel_rfl
theorem eqA_it (d : Nat) (a b : It) (w : World) : (Op.equalIn (d + 4) 28 (.agg (itL a).toArray) (.agg (itL b).toArray)).run Tryd.prog w = .ok (decide (a = b)) w := by
  have e : decide (a = b) = (decide (a.path = b.path) && (decide (a.dir = b.dir) && (decide (a.size = b.size) && (decide (a.sum = b.sum))))) := by
    cases a; cases b; simp
  rw [e]
  refine eqA_of Tryd.underlying28 (by kernel_rfl) ?_
  refine eqf_cons (by rfl) (part_it_path a w) (part_it_path b w) (by rw [← str_eq]; go_simp) ?_
  refine eqf_cons (by rfl) (part_it_dir a w) (part_it_dir b w) (by go_simp; exact beq_bool _ _) ?_
  refine eqf_cons (by rfl) (part_it_size a w) (part_it_size b w) (by go_simp; rfl) ?_
  exact eqf_last (by rfl) (part_it_sum a w) (part_it_sum b w) (eqA_hs (d + 1) a.sum b.sum w)
theorem bld_pt_01234 (x0 : Int) (x1 : ByteArray) (x2 : Hs) (x3 : Int) (x4 : Int) (w : World) : (bldRow 75 #[(0, .int .i64 x0), (1, .string x1), (2, .agg (hsL x2).toArray), (3, .int .i64 x3), (4, .int .i64 x4)]).run Tryd.prog w = .ok (.agg (ptL ⟨x0, x1, x2, x3, x4⟩).toArray) w := by
  obtain ⟨a0, a1, a2, a3, a4, a5, a6, a7, a8, a9, a10, a11, a12, a13, a14, a15, a16, a17, a18, a19, a20, a21, a22, a23, a24, a25, a26, a27, a28, a29, a30, a31, e0⟩ := hs_lit x2
  simp only [ptL, e0]
  kernel_rfl
theorem bld_pt_0123 (x0 : Int) (x1 : ByteArray) (x2 : Hs) (x3 : Int) (w : World) : (bldRow 75 #[(0, .int .i64 x0), (1, .string x1), (2, .agg (hsL x2).toArray), (3, .int .i64 x3)]).run Tryd.prog w = .ok (.agg (ptL ⟨x0, x1, x2, x3, 0⟩).toArray) w := by
  obtain ⟨a0, a1, a2, a3, a4, a5, a6, a7, a8, a9, a10, a11, a12, a13, a14, a15, a16, a17, a18, a19, a20, a21, a22, a23, a24, a25, a26, a27, a28, a29, a30, a31, e0⟩ := hs_lit x2
  simp only [ptL, e0]
  kernel_rfl
theorem bld_pt_z  (w : World) : (bldRow 75 #[]).run Tryd.prog w = .ok (.agg (ptL ⟨0, ByteArray.empty, Hs.zero, 0, 0⟩).toArray) w := by
  simp only [ptL]
  kernel_rfl
theorem blO_pt (ps : Array (Nat × Value)) : Instr.build 75 ps = bldRow 75 ps := rfl
theorem bld_ptR_01234 (x0 : Int) (x1 : ByteArray) (x2 : Hs) (x3 : Int) (x4 : Int) (w : World) : (bldRow 78 #[(0, .int .i64 x0), (1, .string x1), (2, .agg (hsL x2).toArray), (3, .int .i64 x3), (4, .int .i64 x4)]).run Tryd.prog w = .ok (.agg (ptL ⟨x0, x1, x2, x3, x4⟩).toArray) w := by
  obtain ⟨a0, a1, a2, a3, a4, a5, a6, a7, a8, a9, a10, a11, a12, a13, a14, a15, a16, a17, a18, a19, a20, a21, a22, a23, a24, a25, a26, a27, a28, a29, a30, a31, e0⟩ := hs_lit x2
  simp only [ptL, e0]
  kernel_rfl
theorem bld_ptR_0123 (x0 : Int) (x1 : ByteArray) (x2 : Hs) (x3 : Int) (w : World) : (bldRow 78 #[(0, .int .i64 x0), (1, .string x1), (2, .agg (hsL x2).toArray), (3, .int .i64 x3)]).run Tryd.prog w = .ok (.agg (ptL ⟨x0, x1, x2, x3, 0⟩).toArray) w := by
  obtain ⟨a0, a1, a2, a3, a4, a5, a6, a7, a8, a9, a10, a11, a12, a13, a14, a15, a16, a17, a18, a19, a20, a21, a22, a23, a24, a25, a26, a27, a28, a29, a30, a31, e0⟩ := hs_lit x2
  simp only [ptL, e0]
  kernel_rfl
theorem bld_ptR_z  (w : World) : (bldRow 78 #[]).run Tryd.prog w = .ok (.agg (ptL ⟨0, ByteArray.empty, Hs.zero, 0, 0⟩).toArray) w := by
  simp only [ptL]
  kernel_rfl
theorem blO_ptR (ps : Array (Nat × Value)) : Instr.build 78 ps = bldRow 78 ps := rfl
theorem bld_rc_012345 (x0 : Int) (x1 : Int) (x2 : ByteArray) (x3 : Hs) (x4 : Int) (x5 : Int) (w : World) : (bldRow 51 #[(0, .int .u8 x0), (1, .int .i64 x1), (2, .string x2), (3, .agg (hsL x3).toArray), (4, .int .i64 x4), (5, .int .i64 x5)]).run Tryd.prog w = .ok (.agg (rcL ⟨x0, x1, x2, x3, x4, x5⟩).toArray) w := by
  obtain ⟨a0, a1, a2, a3, a4, a5, a6, a7, a8, a9, a10, a11, a12, a13, a14, a15, a16, a17, a18, a19, a20, a21, a22, a23, a24, a25, a26, a27, a28, a29, a30, a31, e0⟩ := hs_lit x3
  simp only [rcL, e0]
  kernel_rfl
theorem bld_rc_015 (x0 : Int) (x1 : Int) (x5 : Int) (w : World) : (bldRow 51 #[(0, .int .u8 x0), (1, .int .i64 x1), (5, .int .i64 x5)]).run Tryd.prog w = .ok (.agg (rcL ⟨x0, x1, ByteArray.empty, Hs.zero, 0, x5⟩).toArray) w := by
  simp only [rcL]
  kernel_rfl
theorem bld_rc_01 (x0 : Int) (x1 : Int) (w : World) : (bldRow 51 #[(0, .int .u8 x0), (1, .int .i64 x1)]).run Tryd.prog w = .ok (.agg (rcL ⟨x0, x1, ByteArray.empty, Hs.zero, 0, 0⟩).toArray) w := by
  simp only [rcL]
  kernel_rfl
theorem bld_rc_z  (w : World) : (bldRow 51 #[]).run Tryd.prog w = .ok (.agg (rcL ⟨0, 0, ByteArray.empty, Hs.zero, 0, 0⟩).toArray) w := by
  simp only [rcL]
  kernel_rfl
theorem bld_rc_01234 (x0 : Int) (x1 : Int) (x2 : ByteArray) (x3 : Hs) (x4 : Int) (w : World) : (bldRow 51 #[(0, .int .u8 x0), (1, .int .i64 x1), (2, .string x2), (3, .agg (hsL x3).toArray), (4, .int .i64 x4)]).run Tryd.prog w = .ok (.agg (rcL ⟨x0, x1, x2, x3, x4, 0⟩).toArray) w := by
  obtain ⟨a0, a1, a2, a3, a4, a5, a6, a7, a8, a9, a10, a11, a12, a13, a14, a15, a16, a17, a18, a19, a20, a21, a22, a23, a24, a25, a26, a27, a28, a29, a30, a31, e0⟩ := hs_lit x3
  simp only [rcL, e0]
  kernel_rfl
theorem bld_rc_24 (x2 : ByteArray) (x4 : Int) (w : World) : (bldRow 51 #[(2, .string x2), (4, .int .i64 x4)]).run Tryd.prog w = .ok (.agg (rcL ⟨0, 0, x2, Hs.zero, x4, 0⟩).toArray) w := by
  simp only [rcL]
  kernel_rfl
theorem bld_rc_05 (x0 : Int) (x5 : Int) (w : World) : (bldRow 51 #[(0, .int .u8 x0), (5, .int .i64 x5)]).run Tryd.prog w = .ok (.agg (rcL ⟨x0, 0, ByteArray.empty, Hs.zero, 0, x5⟩).toArray) w := by
  simp only [rcL]
  kernel_rfl
theorem bld_rc_0 (x0 : Int) (w : World) : (bldRow 51 #[(0, .int .u8 x0)]).run Tryd.prog w = .ok (.agg (rcL ⟨x0, 0, ByteArray.empty, Hs.zero, 0, 0⟩).toArray) w := by
  simp only [rcL]
  kernel_rfl
theorem blO_rc (ps : Array (Nat × Value)) : Instr.build 51 ps = bldRow 51 ps := rfl
theorem bld_rcR_012345 (x0 : Int) (x1 : Int) (x2 : ByteArray) (x3 : Hs) (x4 : Int) (x5 : Int) (w : World) : (bldRow 47 #[(0, .int .u8 x0), (1, .int .i64 x1), (2, .string x2), (3, .agg (hsL x3).toArray), (4, .int .i64 x4), (5, .int .i64 x5)]).run Tryd.prog w = .ok (.agg (rcL ⟨x0, x1, x2, x3, x4, x5⟩).toArray) w := by
  obtain ⟨a0, a1, a2, a3, a4, a5, a6, a7, a8, a9, a10, a11, a12, a13, a14, a15, a16, a17, a18, a19, a20, a21, a22, a23, a24, a25, a26, a27, a28, a29, a30, a31, e0⟩ := hs_lit x3
  simp only [rcL, e0]
  kernel_rfl
theorem bld_rcR_015 (x0 : Int) (x1 : Int) (x5 : Int) (w : World) : (bldRow 47 #[(0, .int .u8 x0), (1, .int .i64 x1), (5, .int .i64 x5)]).run Tryd.prog w = .ok (.agg (rcL ⟨x0, x1, ByteArray.empty, Hs.zero, 0, x5⟩).toArray) w := by
  simp only [rcL]
  kernel_rfl
theorem bld_rcR_01 (x0 : Int) (x1 : Int) (w : World) : (bldRow 47 #[(0, .int .u8 x0), (1, .int .i64 x1)]).run Tryd.prog w = .ok (.agg (rcL ⟨x0, x1, ByteArray.empty, Hs.zero, 0, 0⟩).toArray) w := by
  simp only [rcL]
  kernel_rfl
theorem bld_rcR_z  (w : World) : (bldRow 47 #[]).run Tryd.prog w = .ok (.agg (rcL ⟨0, 0, ByteArray.empty, Hs.zero, 0, 0⟩).toArray) w := by
  simp only [rcL]
  kernel_rfl
theorem bld_rcR_01234 (x0 : Int) (x1 : Int) (x2 : ByteArray) (x3 : Hs) (x4 : Int) (w : World) : (bldRow 47 #[(0, .int .u8 x0), (1, .int .i64 x1), (2, .string x2), (3, .agg (hsL x3).toArray), (4, .int .i64 x4)]).run Tryd.prog w = .ok (.agg (rcL ⟨x0, x1, x2, x3, x4, 0⟩).toArray) w := by
  obtain ⟨a0, a1, a2, a3, a4, a5, a6, a7, a8, a9, a10, a11, a12, a13, a14, a15, a16, a17, a18, a19, a20, a21, a22, a23, a24, a25, a26, a27, a28, a29, a30, a31, e0⟩ := hs_lit x3
  simp only [rcL, e0]
  kernel_rfl
theorem bld_rcR_24 (x2 : ByteArray) (x4 : Int) (w : World) : (bldRow 47 #[(2, .string x2), (4, .int .i64 x4)]).run Tryd.prog w = .ok (.agg (rcL ⟨0, 0, x2, Hs.zero, x4, 0⟩).toArray) w := by
  simp only [rcL]
  kernel_rfl
theorem bld_rcR_05 (x0 : Int) (x5 : Int) (w : World) : (bldRow 47 #[(0, .int .u8 x0), (5, .int .i64 x5)]).run Tryd.prog w = .ok (.agg (rcL ⟨x0, 0, ByteArray.empty, Hs.zero, 0, x5⟩).toArray) w := by
  simp only [rcL]
  kernel_rfl
theorem bld_rcR_0 (x0 : Int) (w : World) : (bldRow 47 #[(0, .int .u8 x0)]).run Tryd.prog w = .ok (.agg (rcL ⟨x0, 0, ByteArray.empty, Hs.zero, 0, 0⟩).toArray) w := by
  simp only [rcL]
  kernel_rfl
theorem blO_rcR (ps : Array (Nat × Value)) : Instr.build 47 ps = bldRow 47 ps := rfl
theorem bld_tk_01234 (x0 : ByteArray) (x1 : Hs) (x2 : Int) (x3 : Int) (x4 : Hs) (w : World) : (bldRow 33 #[(0, .string x0), (1, .agg (hsL x1).toArray), (2, .int .i64 x2), (3, .int .i64 x3), (4, .agg (hsL x4).toArray)]).run Tryd.prog w = .ok (.agg (tkL ⟨x0, x1, x2, x3, x4⟩).toArray) w := by
  obtain ⟨a0, a1, a2, a3, a4, a5, a6, a7, a8, a9, a10, a11, a12, a13, a14, a15, a16, a17, a18, a19, a20, a21, a22, a23, a24, a25, a26, a27, a28, a29, a30, a31, e0⟩ := hs_lit x1
  obtain ⟨b0, b1, b2, b3, b4, b5, b6, b7, b8, b9, b10, b11, b12, b13, b14, b15, b16, b17, b18, b19, b20, b21, b22, b23, b24, b25, b26, b27, b28, b29, b30, b31, e1⟩ := hs_lit x4
  simp only [tkL, e0, e1]
  kernel_rfl
theorem bld_tk_0 (x0 : ByteArray) (w : World) : (bldRow 33 #[(0, .string x0)]).run Tryd.prog w = .ok (.agg (tkL ⟨x0, Hs.zero, 0, 0, Hs.zero⟩).toArray) w := by
  simp only [tkL]
  kernel_rfl
theorem bld_tk_z  (w : World) : (bldRow 33 #[]).run Tryd.prog w = .ok (.agg (tkL ⟨ByteArray.empty, Hs.zero, 0, 0, Hs.zero⟩).toArray) w := by
  simp only [tkL]
  kernel_rfl
theorem blO_tk (ps : Array (Nat × Value)) : Instr.build 33 ps = bldRow 33 ps := rfl
theorem bld_tkR_01234 (x0 : ByteArray) (x1 : Hs) (x2 : Int) (x3 : Int) (x4 : Hs) (w : World) : (bldRow 26 #[(0, .string x0), (1, .agg (hsL x1).toArray), (2, .int .i64 x2), (3, .int .i64 x3), (4, .agg (hsL x4).toArray)]).run Tryd.prog w = .ok (.agg (tkL ⟨x0, x1, x2, x3, x4⟩).toArray) w := by
  obtain ⟨a0, a1, a2, a3, a4, a5, a6, a7, a8, a9, a10, a11, a12, a13, a14, a15, a16, a17, a18, a19, a20, a21, a22, a23, a24, a25, a26, a27, a28, a29, a30, a31, e0⟩ := hs_lit x1
  obtain ⟨b0, b1, b2, b3, b4, b5, b6, b7, b8, b9, b10, b11, b12, b13, b14, b15, b16, b17, b18, b19, b20, b21, b22, b23, b24, b25, b26, b27, b28, b29, b30, b31, e1⟩ := hs_lit x4
  simp only [tkL, e0, e1]
  kernel_rfl
theorem bld_tkR_0 (x0 : ByteArray) (w : World) : (bldRow 26 #[(0, .string x0)]).run Tryd.prog w = .ok (.agg (tkL ⟨x0, Hs.zero, 0, 0, Hs.zero⟩).toArray) w := by
  simp only [tkL]
  kernel_rfl
theorem bld_tkR_z  (w : World) : (bldRow 26 #[]).run Tryd.prog w = .ok (.agg (tkL ⟨ByteArray.empty, Hs.zero, 0, 0, Hs.zero⟩).toArray) w := by
  simp only [tkL]
  kernel_rfl
theorem blO_tkR (ps : Array (Nat × Value)) : Instr.build 26 ps = bldRow 26 ps := rfl
theorem bld_it_0123 (x0 : ByteArray) (x1 : Bool) (x2 : Int) (x3 : Hs) (w : World) : (bldRow 28 #[(0, .string x0), (1, .bool x1), (2, .int .i64 x2), (3, .agg (hsL x3).toArray)]).run Tryd.prog w = .ok (.agg (itL ⟨x0, x1, x2, x3⟩).toArray) w := by
  obtain ⟨a0, a1, a2, a3, a4, a5, a6, a7, a8, a9, a10, a11, a12, a13, a14, a15, a16, a17, a18, a19, a20, a21, a22, a23, a24, a25, a26, a27, a28, a29, a30, a31, e0⟩ := hs_lit x3
  simp only [itL, e0]
  kernel_rfl
theorem bld_it_023 (x0 : ByteArray) (x2 : Int) (x3 : Hs) (w : World) : (bldRow 28 #[(0, .string x0), (2, .int .i64 x2), (3, .agg (hsL x3).toArray)]).run Tryd.prog w = .ok (.agg (itL ⟨x0, false, x2, x3⟩).toArray) w := by
  obtain ⟨a0, a1, a2, a3, a4, a5, a6, a7, a8, a9, a10, a11, a12, a13, a14, a15, a16, a17, a18, a19, a20, a21, a22, a23, a24, a25, a26, a27, a28, a29, a30, a31, e0⟩ := hs_lit x3
  simp only [itL, e0]
  kernel_rfl
theorem bld_it_01 (x0 : ByteArray) (x1 : Bool) (w : World) : (bldRow 28 #[(0, .string x0), (1, .bool x1)]).run Tryd.prog w = .ok (.agg (itL ⟨x0, x1, 0, Hs.zero⟩).toArray) w := by
  simp only [itL]
  kernel_rfl
theorem bld_it_0 (x0 : ByteArray) (w : World) : (bldRow 28 #[(0, .string x0)]).run Tryd.prog w = .ok (.agg (itL ⟨x0, false, 0, Hs.zero⟩).toArray) w := by
  simp only [itL]
  kernel_rfl
theorem bld_it_z  (w : World) : (bldRow 28 #[]).run Tryd.prog w = .ok (.agg (itL ⟨ByteArray.empty, false, 0, Hs.zero⟩).toArray) w := by
  simp only [itL]
  kernel_rfl
theorem blO_it (ps : Array (Nat × Value)) : Instr.build 28 ps = bldRow 28 ps := rfl
theorem bsO_pt (n : Nat) (ps : Array (Nat × Value)) : Instr.buildSlice 58 n ps = bslRow 58 n ps := rfl
theorem bs0_pt (w : World) : (bslRow 58 0 #[]).run Tryd.prog w = .ok (.slice (some ⟨w.heap.size, 0, none⟩) 0 0) (w.alloc (.cells #[] 75)) := by kernel_rfl
theorem bs1_pt (x : Pt) (w : World) : (bslRow 58 1 #[(0, .agg (ptL x).toArray)]).run Tryd.prog w = .ok (.slice (some ⟨w.heap.size, 0, none⟩) 1 1) (w.alloc (.cells (ptL x).toArray 75)) := by
  obtain ⟨a0, a1, a2, a3, a4, a5, a6, a7, a8, a9, a10, a11, a12, a13, a14, a15, a16, a17, a18, a19, a20, a21, a22, a23, a24, a25, a26, a27, a28, a29, a30, a31, e0⟩ := hs_lit x.sum
  simp only [ptL, e0]
  kernel_rfl
theorem bsO_ptR (n : Nat) (ps : Array (Nat × Value)) : Instr.buildSlice 61 n ps = bslRow 61 n ps := rfl
theorem bs0_ptR (w : World) : (bslRow 61 0 #[]).run Tryd.prog w = .ok (.slice (some ⟨w.heap.size, 0, none⟩) 0 0) (w.alloc (.cells #[] 78)) := by kernel_rfl
theorem bs1_ptR (x : Pt) (w : World) : (bslRow 61 1 #[(0, .agg (ptL x).toArray)]).run Tryd.prog w = .ok (.slice (some ⟨w.heap.size, 0, none⟩) 1 1) (w.alloc (.cells (ptL x).toArray 78)) := by
  obtain ⟨a0, a1, a2, a3, a4, a5, a6, a7, a8, a9, a10, a11, a12, a13, a14, a15, a16, a17, a18, a19, a20, a21, a22, a23, a24, a25, a26, a27, a28, a29, a30, a31, e0⟩ := hs_lit x.sum
  simp only [ptL, e0]
  kernel_rfl
theorem bsO_rc (n : Nat) (ps : Array (Nat × Value)) : Instr.buildSlice 57 n ps = bslRow 57 n ps := rfl
theorem bs0_rc (w : World) : (bslRow 57 0 #[]).run Tryd.prog w = .ok (.slice (some ⟨w.heap.size, 0, none⟩) 0 0) (w.alloc (.cells #[] 51)) := by kernel_rfl
theorem bs1_rc (x : Rc) (w : World) : (bslRow 57 1 #[(0, .agg (rcL x).toArray)]).run Tryd.prog w = .ok (.slice (some ⟨w.heap.size, 0, none⟩) 1 1) (w.alloc (.cells (rcL x).toArray 51)) := by
  obtain ⟨a0, a1, a2, a3, a4, a5, a6, a7, a8, a9, a10, a11, a12, a13, a14, a15, a16, a17, a18, a19, a20, a21, a22, a23, a24, a25, a26, a27, a28, a29, a30, a31, e0⟩ := hs_lit x.sum
  simp only [rcL, e0]
  kernel_rfl
theorem bsO_rcR (n : Nat) (ps : Array (Nat × Value)) : Instr.buildSlice 56 n ps = bslRow 56 n ps := rfl
theorem bs0_rcR (w : World) : (bslRow 56 0 #[]).run Tryd.prog w = .ok (.slice (some ⟨w.heap.size, 0, none⟩) 0 0) (w.alloc (.cells #[] 47)) := by kernel_rfl
theorem bs1_rcR (x : Rc) (w : World) : (bslRow 56 1 #[(0, .agg (rcL x).toArray)]).run Tryd.prog w = .ok (.slice (some ⟨w.heap.size, 0, none⟩) 1 1) (w.alloc (.cells (rcL x).toArray 47)) := by
  obtain ⟨a0, a1, a2, a3, a4, a5, a6, a7, a8, a9, a10, a11, a12, a13, a14, a15, a16, a17, a18, a19, a20, a21, a22, a23, a24, a25, a26, a27, a28, a29, a30, a31, e0⟩ := hs_lit x.sum
  simp only [rcL, e0]
  kernel_rfl
theorem bsO_it (n : Nat) (ps : Array (Nat × Value)) : Instr.buildSlice 91 n ps = bslRow 91 n ps := rfl
theorem bs0_it (w : World) : (bslRow 91 0 #[]).run Tryd.prog w = .ok (.slice (some ⟨w.heap.size, 0, none⟩) 0 0) (w.alloc (.cells #[] 28)) := by kernel_rfl
theorem bs1_it (x : It) (w : World) : (bslRow 91 1 #[(0, .agg (itL x).toArray)]).run Tryd.prog w = .ok (.slice (some ⟨w.heap.size, 0, none⟩) 1 1) (w.alloc (.cells (itL x).toArray 28)) := by
  obtain ⟨a0, a1, a2, a3, a4, a5, a6, a7, a8, a9, a10, a11, a12, a13, a14, a15, a16, a17, a18, a19, a20, a21, a22, a23, a24, a25, a26, a27, a28, a29, a30, a31, e0⟩ := hs_lit x.sum
  simp only [itL, e0]
  kernel_rfl
end Go.Proofs.YtiohgpcbdefokaaDoor.B
/- Records and the states that they make, in plain words; the kinds of their rows in memory. No condition. -/
namespace Go.Proofs.YtiohgpcbdefokaaDoor.B
open Go.RowKit Go.Proofs.YtiohgpcbdefokaaDoorW.PrintWords
theorem adds (a : Addr) (i j : Nat) : (a.add i).add j = a.add (i + j) := by
  obtain ⟨b, o, s⟩ := a
  cases s <;> unfold Addr.add <;> (repeat' split) <;> simp_all <;> omega
/-- A kind whose elements are lists of cells of one length. -/
def flat {α : Type} (n : Nat) (enc : α → List Value) (hl : ∀ x, (enc x).length = n) (h1 : ∀ x, ∀ v ∈ enc x, v.oneCell' = true) : Kd α where
  sz := n
  E := []
  K := fun _ x cs => cs = enc x
  M := fun _ _ _ x cs => cs = enc x
  K_len := fun h => by rw [h]; exact hl _
  K_one := fun h u hu => by rw [h] at hu; exact h1 _ u hu
  K_below := fun _ h => h
  K_of_M := fun h => h
  M_mono := fun _ h => h
  M_bound := fun h => h
  M_move := fun _ h => h
  M_lower := fun _ h => h
def kPt : Kd Pt := flat 36 ptL ptL_len ptL_one
def kRc : Kd Rc := flat 37 rcL rcL_len rcL_one
theorem flat_row {α : Type} {n : Nat} {enc : α → List Value} {hl : ∀ x, (enc x).length = n} {h1 : ∀ x, ∀ v ∈ enc x, v.oneCell' = true} {w : World} {A : Option Addr} {m : Nat} {xs : List α} (h : Kd.C (flat n enc hl h1) w A m xs) (i : Nat) (hi : i < m) :
    ∃ ad, A = some ad ∧ ∀ (hi' : i < xs.length), rowAt w (ad.add (i * n)) n = some (enc xs[i]) := by
  obtain ⟨h0, _, h2⟩ := h
  obtain ⟨ad, rfl, hc⟩ := h2 (by omega)
  refine ⟨ad, rfl, fun hi' => ?_⟩
  obtain ⟨cs, hcl, hk, hu⟩ := hc i xs[i] (List.getElem?_eq_getElem hi')
  have hk : cs = enc xs[i] := hk
  subst hk
  exact rowAt_of (hl _) fun j v hv => by rw [adds]; exact hu j v hv
/-- A slice that reads: its address is plain, its elements lie there. -/
theorem flat_at {α : Type} {n : Nat} {enc : α → List Value} {hl : ∀ x, (enc x).length = n} {h1 : ∀ x, ∀ v ∈ enc x, v.oneCell' = true} {w : World} {A : Option Addr} {m : Nat} {xs : List α} (h : Kd.C (flat n enc hl h1) w A m xs) (hn : 0 < n) (hm : 0 < m) :
    ∃ b o, A = some ⟨b, o, none⟩ ∧ b < w.heap.size ∧ ∀ i (hi : i < xs.length), rowAt w ⟨b, o + i * n, none⟩ n = some (enc xs[i]) ∧ ∀ j v, (enc xs[i])[j]? = some v → w.cell? ⟨b, o + i * n + j, none⟩ = some v := by
  have hx := h.1
  obtain ⟨ad, rfl, hr⟩ := flat_row h 0 hm
  have h0 := (rowAt_some (hr (by omega))).2 0 _ (List.getElem?_eq_getElem (show 0 < (enc xs[0]).length by rw [hl]; exact hn))
  have e0 : (ad.add (0 * n)).add 0 = ad := by simp [Addr.add]
  rw [e0] at h0
  have hsp : ad.spot = none := by
    unfold World.cell? at h0
    split at h0
    · split at h0
      · cases h0
      · rename_i hs; simpa using hs
    · cases h0
  obtain ⟨b, o, sp⟩ := ad
  obtain rfl : sp = none := hsp
  refine ⟨b, o, rfl, World.block_lt_of_cell? _ _ h0, fun i hi => ?_⟩
  obtain ⟨ad2, e2, hr2⟩ := flat_row h i (by omega)
  injection e2 with e2
  subst e2
  have := hr2 hi
  rw [Addr.add_mid] at this
  refine ⟨this, fun j v hv => ?_⟩
  have h3 := (rowAt_some this).2 j v hv
  rwa [Addr.add_mid] at h3
end Go.Proofs.YtiohgpcbdefokaaDoor.B
/- How law 15's arguments are read: a row of records. No condition. -/
namespace Go.Proofs.YtiohgpcbdefokaaDoor.B
open Go.RowKit Go.Proofs.YtiohgpcbdefokaaDoorW.PrintWords Go.Proofs.YtiohgpcbdefokaaDoor.Opens Go.ChangeShapes Go.WideShapes
def kHs : Kd Hs := flat 32 hsL hsL_len hsL_one
theorem hs_of {cs : List Value} (hl : cs.length = 32) (h : ∀ i (hi : i < cs.length), ∃ b : UInt8, cs[i] = Extern.Stop.cell b) : ∃ x : Hs, hsL x = cs := by
  have hh : ∀ i : Fin 32, ∃ b : UInt8, cs[i.1]'(by omega) = Extern.Stop.cell b := fun i => h i.1 (by omega)
  let f : Fin 32 → UInt8 := fun i => Classical.choose (hh i)
  have hf : ∀ i : Fin 32, cs[i.1]'(by omega) = Extern.Stop.cell (f i) := fun i => Classical.choose_spec (hh i)
  obtain ⟨y, hy⟩ : ∃ y : Hs, y.1 = List.ofFn f := ⟨⟨List.ofFn f, by simp⟩, rfl⟩
  refine ⟨y, ?_⟩
  have e : hsL y = (List.ofFn f).map Extern.Stop.cell := by unfold hsL; rw [hy]
  rw [e]
  refine List.ext_getElem (by simp [hl]) fun i h1 h2 => ?_
  have hi : i < 32 := by rw [hl] at h2; exact h2
  rw [List.getElem_map, List.getElem_ofFn]
  exact (hf ⟨i, hi⟩).symm
set_option maxRecDepth 100000 in
theorem opens_hs : Opens Tryd.prog 24 kHs (fun _ => True) := by
  intro H enc W base spare held fuel cs x hx
  cases fuel with
  | zero => simp [DataW.trod] at hx
  | succ n =>
    unfold DataW.trod at hx
    rw [Tryd.underlying24] at hx
    simp only at hx
    split at hx
    · rename_i hl
      obtain ⟨xs, hxs, _⟩ := Option.map_eq_some_iff.1 hx
      have hl32 : cs.length = 32 := by
        have : Tryd.prog.cellsOf 24 = 32 := by kernel_rfl
        simpa [this] using hl
      have he : Tryd.prog.cellsOf 5 = 1 := by kernel_rfl
      obtain ⟨y, hy⟩ := hs_of hl32 fun i hi => by
        obtain ⟨z, hz⟩ := mapM_each hxs i (by simp; omega)
        simp only [he, Nat.mul_one] at hz
        obtain ⟨m, hm, _, hw⟩ := DataW.trod_int Tryd.underlying5 hz
        have e1 : cs[i] = .int .u8 m := by
          have : (cs.drop i).take 1 = [cs[i]] := by rw [List.drop_eq_getElem_cons hi]; rfl
          rw [this] at hm
          injection hm
        have h8 := bounds_u8 hw
        refine ⟨m.toNat.toUInt8, ?_⟩
        rw [e1]
        show Value.int .u8 m = Value.int .u8 ((m.toNat.toUInt8).toNat : Int)
        congr 1
        rw [UInt8.toNat_ofNat']
        omega
      exact ⟨y, hy.symm, trivial⟩
    · cases hx
abbrev RcT := Int × Int × ByteArray × Hs × Int × Int
def toRc (x : RcT) : Rc := ⟨x.1, x.2.1, x.2.2.1, x.2.2.2.1, x.2.2.2.2.1, x.2.2.2.2.2⟩
def kRT : Kd RcT := Kd.pair (Kd.int .u8) (Kd.pair (Kd.int .i64) (Kd.pair Kd.string (Kd.pair kHs (Kd.pair (Kd.int .i64) (Kd.int .i64)))))
def okRT (x : RcT) : Prop := (Lit.int .u8 x.1).wf = true ∧ (Lit.int .i64 x.2.1).wf = true ∧ x.2.2.1.size ≤ 9223372036854775807 ∧ True ∧ (Lit.int .i64 x.2.2.2.2.1).wf = true ∧ (Lit.int .i64 x.2.2.2.2.2).wf = true
theorem kRT_open {w : World} {x : RcT} {cs : List Value} (h : kRT.K w x cs) : cs = rcL (toRc x) := by
  obtain ⟨c1, c2, e, h1, c3, c4, e2, h2, c5, c6, e3, h3, c7, c8, e4, h4, c9, c10, e5, h5, h6⟩ := h
  have h1' : c1 = [.int .u8 x.1] := h1
  have h2' : c3 = [.int .i64 x.2.1] := h2
  have h3' : c5 = [.string x.2.2.1] := h3
  have h4' : c7 = hsL x.2.2.2.1 := h4
  have h5' : c9 = [.int .i64 x.2.2.2.2.1] := h5
  have h6' : c10 = [.int .i64 x.2.2.2.2.2] := h6
  rw [e, e2, e3, e4, e5, h1', h2', h3', h4', h5', h6']
  simp [rcL, toRc]
theorem opens_rc : Opens Tryd.prog 47 kRT okRT :=
  opens_struct (fun x : RcT => x) (fun y => y) (fun _ => rfl) Tryd.underlying47 (by kernel_rfl) (at_cons (off := 0) (off' := 1) (opens_int Tryd.underlying5) (at_cons (off := 1) (off' := 2) (opens_int Tryd.underlying3) (at_cons (off := 2) (off' := 3) (opens_string Tryd.underlying9) (at_cons (off := 3) (off' := 35) opens_hs (at_cons (off := 35) (off' := 36) (opens_int Tryd.underlying3) (at_last (off := 36) (opens_int Tryd.underlying3) (by kernel_rfl)) (by kernel_rfl)) (by kernel_rfl)) (by kernel_rfl)) (by kernel_rfl)) (by kernel_rfl))
def okRs (xs : List RcT) : Prop := xs.length ≤ 9223372036854775807 ∧ ∀ x ∈ xs, okRT x
theorem opens_rcs : Opens Tryd.prog 56 (Kd.slice 47 kRT) okRs := opens_slice Tryd.underlying56 (by kernel_rfl) opens_rc
theorem C_of {W : World} {A : Option Addr} {n : Nat} {l : List RcT} (h : Kd.C kRT W A n l) : Kd.C kRc W A n (l.map toRc) := by
  obtain ⟨h1, h2, h3⟩ := h
  refine ⟨by rw [List.length_map]; exact h1, h2, fun h0 => ?_⟩
  obtain ⟨ad, rfl, hc⟩ := h3 h0
  refine ⟨ad, rfl, fun j p hp => ?_⟩
  rw [List.getElem?_map] at hp
  obtain ⟨x, hx, rfl⟩ := Option.map_eq_some_iff.1 hp
  obtain ⟨c, hl, hk, hu⟩ := hc j x hx
  exact ⟨c, hl, kRT_open hk, hu⟩
end Go.Proofs.YtiohgpcbdefokaaDoor.B
/- slices.IndexFunc over parts, by the two predicates that record uses. No condition. -/
namespace Go.Proofs.YtiohgpcbdefokaaDoor.B
open Go.RowKit Go.Proofs.YtiohgpcbdefokaaDoorW.PrintWords
attribute [local go_sem ↓ high] lvO_hs ldO_hs stO_hs lvO_pt ldO_pt stO_pt zero_pt eqA_pt lvO_ptR ldO_ptR stO_ptR zero_ptR eqA_ptR lvO_rc ldO_rc stO_rc zero_rc eqA_rc lvO_rcR ldO_rcR stO_rcR zero_rcR eqA_rcR lvO_tk ldO_tk stO_tk zero_tk eqA_tk lvO_tkR ldO_tkR stO_tkR zero_tkR eqA_tkR lvO_it ldO_it stO_it zero_it eqA_it blO_pt blO_ptR blO_rc blO_rcR blO_tk blO_tkR blO_it bsO_pt bsO_ptR bsO_rc bsO_rcR bsO_it
attribute [local go_sem high] rowAt_setCell rowAt_setRow cell_setRow_ne isRow_setRow_ne rowAt_alloc rowAt_drew isRow_alloc isRow_drew isRow_setCell rowRun_some okL_hs ldV_hs ldA_hs stA_hs setRow_alloc get_pt_id get_pt_path cut_pt_sum get_pt_size get_pt_off cut_pt okL_pt size_pt lenb_pt eta_pt ldV_pt ldA_pt stA_pt ldV_ptR ldA_ptR stA_ptR get_rc_kind get_rc_id get_rc_path cut_rc_sum get_rc_size get_rc_off cut_rc okL_rc size_rc lenb_rc eta_rc ldV_rc ldA_rc stA_rc ldV_rcR ldA_rcR stA_rcR get_tk_path cut_tk_sum get_tk_size get_tk_off cut_tk_old cut_tk okL_tk size_tk lenb_tk eta_tk ldV_tk ldA_tk stA_tk ldV_tkR ldA_tkR stA_tkR get_it_path get_it_dir get_it_size cut_it_sum cut_it okL_it size_it lenb_it eta_it ldV_it ldA_it stA_it bld_pt_01234 bld_pt_0123 bld_pt_z bld_ptR_01234 bld_ptR_0123 bld_ptR_z bld_rc_012345 bld_rc_015 bld_rc_01 bld_rc_z bld_rc_01234 bld_rc_24 bld_rc_05 bld_rc_0 bld_rcR_012345 bld_rcR_015 bld_rcR_01 bld_rcR_z bld_rcR_01234 bld_rcR_24 bld_rcR_05 bld_rcR_0 bld_tk_01234 bld_tk_0 bld_tk_z bld_tkR_01234 bld_tkR_0 bld_tkR_z bld_it_0123 bld_it_023 bld_it_01 bld_it_0 bld_it_z bs0_pt bs1_pt bs0_ptR bs1_ptR bs0_rc bs1_rc bs0_rcR bs1_rcR bs0_it bs1_it
/-- The place of the first, or -1. -/
def fstI {α : Type} (p : α → Bool) (l : List α) : Int := match l.findIdx? p with
  | some i => i
  | none => -1
theorem fstI_hit {α : Type} {p : α → Bool} {l : List α} {k : Nat} {x : α} (hx : l[k]? = some x) (hp : p x = true) (hn : ∀ j, j < k → ∀ y, l[j]? = some y → p y = false) : fstI p l = k := by
  unfold fstI
  have hk := (List.getElem?_eq_some_iff.1 hx)
  have : l.findIdx? p = some k := by
    rw [List.findIdx?_eq_some_iff_getElem]
    refine ⟨hk.1, by rw [hk.2]; exact hp, fun j hj => ?_⟩
    have := hn j hj _ (List.getElem?_eq_getElem (show j < l.length by have := hk.1; omega))
    simpa using this
  rw [this]
theorem fstI_none {α : Type} {p : α → Bool} {l : List α} (hn : ∀ j, j < l.length → ∀ y, l[j]? = some y → p y = false) : fstI p l = -1 := by
  unfold fstI
  have : l.findIdx? p = none := by
    rw [List.findIdx?_eq_none_iff]
    intro x hx
    obtain ⟨j, hj, rfl⟩ := List.getElem_of_mem hx
    exact hn j hj _ (List.getElem?_eq_getElem hj)
  rw [this]
set_option maxRecDepth 100000 in
set_option maxHeartbeats 4000000 in
theorem byId (x : Pt) (id : Int) (g : Nat) (w : World) (h : w.cell? ⟨g, 1, none⟩ = some (.int .i64 id)) :
    Calls Tryd.prog 81 #[.agg (ptL x).toArray, .pointer (some ⟨g, 0, none⟩)] w fun e w' => e = .returned (.bool (decide (x.id = id))) ∧ Below w.heap.size w w' := by
  have hg := World.block_lt_of_cell? _ _ h
  have hn : ¬ g = w.heap.size := by have : g < w.heap.size := hg; omega
  go_enter Tryd.func81, Tryd.ntmps81
  go_wp2
  go_ret
  exact ⟨rfl, below_alloc (Below.refl _ _) _⟩
set_option maxRecDepth 100000 in
set_option maxHeartbeats 4000000 in
theorem byPath (x : Pt) (p : ByteArray) (g : Nat) (w : World) (h : w.cell? ⟨g, 0, none⟩ = some (.string p)) :
    Calls Tryd.prog 84 #[.agg (ptL x).toArray, .pointer (some ⟨g, 0, none⟩)] w fun e w' => e = .returned (.bool (decide (x.path = p))) ∧ Below w.heap.size w w' := by
  have hg := World.block_lt_of_cell? _ _ h
  have hn : ¬ g = w.heap.size := by have : g < w.heap.size := hg; omega
  go_enter Tryd.func84, Tryd.ntmps84
  go_wp2
  go_ret
  exact ⟨by rw [str_eq]; rfl, below_alloc (Below.refl _ _) _⟩
set_option maxRecDepth 100000 in
set_option maxHeartbeats 4000000 in
theorem idx_id (A : Option Addr) (c : Nat) (l : List Pt) (id : Int) (g : Nat) (w : World) (hC : Kd.C kPt w A l.length l) (hlen : l.length ≤ 1000) (h : w.cell? ⟨g, 1, none⟩ = some (.int .i64 id)) :
    Calls Tryd.prog 80 #[.slice A l.length c, .func (.func 81) #[] #[.pointer (some ⟨g, 0, none⟩)]] w fun e w' => e = .returned (.int .i64 (fstI (fun x => decide (x.id = id)) l)) ∧ Below w.heap.size w w' := by
  have hg := World.block_lt_of_cell? _ _ h
  have HC := Aside0.mk hC
  have HH := Aside0.mk h
  have HG := Aside0.mk hg
  clear hC h hg
  go_enter Tryd.func80, Tryd.ntmps80
  go_wp2
  go_loopw [8] (fun i wr => ∃ k : Nat, k ≤ l.length ∧ i = .int .i64 k ∧ Aside0 (Below w.heap.size w wr) ∧ Aside0 (∀ j, j < k → ∀ x, l[j]? = some x → decide (x.id = id) = false)) (fun i _ => l.length - (intOf i).toNat)
  case atStart => exact ⟨0, Nat.zero_le _, rfl, ⟨Below.refl _ _⟩, ⟨fun j hj => by omega⟩⟩
  case round =>
    obtain ⟨k, hk, rfl, HB, HN⟩ := hrel
    by_cases hlt : k < l.length
    · obtain ⟨b, o, hA, hb, hr⟩ := flat_at HC.out (by decide) (by omega)
      subst hA
      obtain ⟨hrow, _⟩ := hr k hlt
      rw [← rowAt_below HB.out hb] at hrow
      have HX := Aside0.mk (show l[k]? = some l[k] from List.getElem?_eq_getElem hlt)
      obtain ⟨x, hx⟩ : ∃ x, x = l[k] := ⟨_, rfl⟩
      rw [← hx] at hrow HX
      clear hr hx
      by_cases hp : x.id = id
      · have HP := Aside0.mk (decide_eq_true hp)
        clear hp
        go_wp2_with (go_at_call 81; refine (byId x _ g _ ((HB.out.cell HG.out).trans HH.out)).mono ?_; rintro e w2 ⟨rfl, hb2⟩; rw [HP.out]; have HB2 := Aside0.mk (below_step HB.out hb2); clear hb2)
        go_ret
        exact ⟨by rw [fstI_hit HX.out HP.out HN.out]; rfl, HB2.out⟩
      · have HP := Aside0.mk (decide_eq_false hp)
        clear hp
        go_wp2_with (go_at_call 81; refine (byId x _ g _ ((HB.out.cell HG.out).trans HH.out)).mono ?_; rintro e w2 ⟨rfl, hb2⟩; rw [HP.out]; have HB2 := Aside0.mk (below_step HB.out hb2); clear hb2)
        go_roundw
        case rel =>
          refine ⟨k + 1, by omega, by simp, HB2, ⟨fun j hj y hy => ?_⟩⟩
          by_cases hjk : j = k
          · subst hjk
            have := HX.out.symm.trans hy
            injection this with this
            subst this
            exact HP.out
          · exact HN.out j (by omega) y hy
        case measure => simp [intOf]; omega
    · have hk2 : k = l.length := by omega
      subst hk2
      go_wp2
      go_ret
      exact ⟨by rw [fstI_none HN.out]; rfl, HB.out⟩
set_option maxRecDepth 100000 in
set_option maxHeartbeats 4000000 in
theorem idx_path (A : Option Addr) (c : Nat) (l : List Pt) (p : ByteArray) (g : Nat) (w : World) (hC : Kd.C kPt w A l.length l) (hlen : l.length ≤ 1000) (h : w.cell? ⟨g, 0, none⟩ = some (.string p)) :
    Calls Tryd.prog 80 #[.slice A l.length c, .func (.func 84) #[] #[.pointer (some ⟨g, 0, none⟩)]] w fun e w' => e = .returned (.int .i64 (fstI (fun x => decide (x.path = p)) l)) ∧ Below w.heap.size w w' := by
  have hg := World.block_lt_of_cell? _ _ h
  have HC := Aside0.mk hC
  have HH := Aside0.mk h
  have HG := Aside0.mk hg
  clear hC h hg
  go_enter Tryd.func80, Tryd.ntmps80
  go_wp2
  go_loopw [8] (fun i wr => ∃ k : Nat, k ≤ l.length ∧ i = .int .i64 k ∧ Aside0 (Below w.heap.size w wr) ∧ Aside0 (∀ j, j < k → ∀ x, l[j]? = some x → decide (x.path = p) = false)) (fun i _ => l.length - (intOf i).toNat)
  case atStart => exact ⟨0, Nat.zero_le _, rfl, ⟨Below.refl _ _⟩, ⟨fun j hj => by omega⟩⟩
  case round =>
    obtain ⟨k, hk, rfl, HB, HN⟩ := hrel
    by_cases hlt : k < l.length
    · obtain ⟨b, o, hA, hb, hr⟩ := flat_at HC.out (by decide) (by omega)
      subst hA
      obtain ⟨hrow, _⟩ := hr k hlt
      rw [← rowAt_below HB.out hb] at hrow
      have HX := Aside0.mk (show l[k]? = some l[k] from List.getElem?_eq_getElem hlt)
      obtain ⟨x, hx⟩ : ∃ x, x = l[k] := ⟨_, rfl⟩
      rw [← hx] at hrow HX
      clear hr hx
      by_cases hp : x.path = p
      · have HP := Aside0.mk (decide_eq_true hp)
        clear hp
        go_wp2_with (go_at_call 84; refine (byPath x _ g _ ((HB.out.cell HG.out).trans HH.out)).mono ?_; rintro e w2 ⟨rfl, hb2⟩; rw [HP.out]; have HB2 := Aside0.mk (below_step HB.out hb2); clear hb2)
        go_ret
        exact ⟨by rw [fstI_hit HX.out HP.out HN.out]; rfl, HB2.out⟩
      · have HP := Aside0.mk (decide_eq_false hp)
        clear hp
        go_wp2_with (go_at_call 84; refine (byPath x _ g _ ((HB.out.cell HG.out).trans HH.out)).mono ?_; rintro e w2 ⟨rfl, hb2⟩; rw [HP.out]; have HB2 := Aside0.mk (below_step HB.out hb2); clear hb2)
        go_roundw
        case rel =>
          refine ⟨k + 1, by omega, by simp, HB2, ⟨fun j hj y hy => ?_⟩⟩
          by_cases hjk : j = k
          · subst hjk
            have := HX.out.symm.trans hy
            injection this with this
            subst this
            exact HP.out
          · exact HN.out j (by omega) y hy
        case measure => simp [intOf]; omega
    · have hk2 : k = l.length := by omega
      subst hk2
      go_wp2
      go_ret
      exact ⟨by rw [fstI_none HN.out]; rfl, HB.out⟩
end Go.Proofs.YtiohgpcbdefokaaDoor.B
/- record.Find: which part a path is. No condition. -/
namespace Go.Proofs.YtiohgpcbdefokaaDoor.B
open Go.RowKit Go.Proofs.YtiohgpcbdefokaaDoorW.PrintWords
attribute [local go_sem ↓ high] lvO_hs ldO_hs stO_hs lvO_pt ldO_pt stO_pt zero_pt eqA_pt lvO_ptR ldO_ptR stO_ptR zero_ptR eqA_ptR lvO_rc ldO_rc stO_rc zero_rc eqA_rc lvO_rcR ldO_rcR stO_rcR zero_rcR eqA_rcR lvO_tk ldO_tk stO_tk zero_tk eqA_tk lvO_tkR ldO_tkR stO_tkR zero_tkR eqA_tkR lvO_it ldO_it stO_it zero_it eqA_it blO_pt blO_ptR blO_rc blO_rcR blO_tk blO_tkR blO_it bsO_pt bsO_ptR bsO_rc bsO_rcR bsO_it
attribute [local go_sem high] rowAt_setCell rowAt_setRow cell_setRow_ne isRow_setRow_ne rowAt_alloc rowAt_drew isRow_alloc isRow_drew isRow_setCell rowRun_some okL_hs ldV_hs ldA_hs stA_hs setRow_alloc get_pt_id get_pt_path cut_pt_sum get_pt_size get_pt_off cut_pt okL_pt size_pt lenb_pt eta_pt ldV_pt ldA_pt stA_pt ldV_ptR ldA_ptR stA_ptR get_rc_kind get_rc_id get_rc_path cut_rc_sum get_rc_size get_rc_off cut_rc okL_rc size_rc lenb_rc eta_rc ldV_rc ldA_rc stA_rc ldV_rcR ldA_rcR stA_rcR get_tk_path cut_tk_sum get_tk_size get_tk_off cut_tk_old cut_tk okL_tk size_tk lenb_tk eta_tk ldV_tk ldA_tk stA_tk ldV_tkR ldA_tkR stA_tkR get_it_path get_it_dir get_it_size cut_it_sum cut_it okL_it size_it lenb_it eta_it ldV_it ldA_it stA_it bld_pt_01234 bld_pt_0123 bld_pt_z bld_ptR_01234 bld_ptR_0123 bld_ptR_z bld_rc_012345 bld_rc_015 bld_rc_01 bld_rc_z bld_rc_01234 bld_rc_24 bld_rc_05 bld_rc_0 bld_rcR_012345 bld_rcR_015 bld_rcR_01 bld_rcR_z bld_rcR_01234 bld_rcR_24 bld_rcR_05 bld_rcR_0 bld_tk_01234 bld_tk_0 bld_tk_z bld_tkR_01234 bld_tkR_0 bld_tkR_z bld_it_0123 bld_it_023 bld_it_01 bld_it_0 bld_it_z bs0_pt bs1_pt bs0_ptR bs1_ptR bs0_rc bs1_rc bs0_rcR bs1_rcR bs0_it bs1_it
theorem fstI_cases {α : Type} (p : α → Bool) (l : List α) : (fstI p l = -1 ∧ ∀ x ∈ l, p x = false) ∨ ∃ i x, fstI p l = ((i : Nat) : Int) ∧ l[i]? = some x ∧ p x = true ∧ ∀ j, j < i → ∀ y, l[j]? = some y → p y = false := by
  unfold fstI
  cases h : l.findIdx? p with
  | none => exact .inl ⟨rfl, by rw [List.findIdx?_eq_none_iff] at h; exact h⟩
  | some i =>
    rw [List.findIdx?_eq_some_iff_getElem] at h
    obtain ⟨h1, h2, h3⟩ := h
    refine .inr ⟨i, l[i], rfl, List.getElem?_eq_getElem h1, h2, fun j hj y hy => ?_⟩
    have := h3 j hj
    rw [List.getElem?_eq_getElem (by omega)] at hy
    injection hy with hy
    rw [← hy]; simpa using this
/-- The part of a path. -/
def findP (l : List Pt) (p : ByteArray) : Pt × Bool := match l.find? (fun x => decide (x.path = p)) with
  | some x => (x, true)
  | none => (Pt.zero, false)
theorem findP_none {l : List Pt} {p : ByteArray} (h : ∀ x ∈ l, decide (x.path = p) = false) : findP l p = (Pt.zero, false) := by
  unfold findP
  rw [List.find?_eq_none.2 (fun x hx => by rw [h x hx]; decide)]
theorem findP_some {l : List Pt} {p : ByteArray} {i : Nat} {x : Pt} (hx : l[i]? = some x) (hp : decide (x.path = p) = true) (hn : ∀ j, j < i → ∀ y, l[j]? = some y → decide (y.path = p) = false) : findP l p = (x, true) := by
  unfold findP
  have hi := List.getElem?_eq_some_iff.1 hx
  have : l.find? (fun x => decide (x.path = p)) = some x := by
    rw [List.find?_eq_some_iff_getElem]
    refine ⟨hp, i, hi.1, hi.2, fun j hj => ?_⟩
    have := hn j hj _ (List.getElem?_eq_getElem (show j < l.length by have := hi.1; omega))
    simpa using this
  rw [this]
set_option maxRecDepth 100000 in
set_option maxHeartbeats 4000000 in
theorem Find_calls (A : Option Addr) (c : Nat) (l : List Pt) (nx : Int) (p : ByteArray) (w : World) (hC : Kd.C kPt w A l.length l) (hlen : l.length ≤ 1000) :
    Calls Tryd.prog 33 #[.agg #[.slice A l.length c, .int .i64 nx], .string p] w fun e w' => e = .returned (.tuple #[.agg (ptL (findP l p).1).toArray, .bool (findP l p).2]) ∧ Below w.heap.size w w' := by
  have HC := Aside0.mk hC
  rcases fstI_cases (fun x : Pt => decide (x.path = p)) l with ⟨hi, hn⟩ | ⟨i, x, hi, hx, hp, hn⟩
  · have HI := Aside0.mk hi
    have HF := Aside0.mk (findP_none hn)
    clear hC hi hn
    go_enter Tryd.func33, Tryd.ntmps33
    go_wp2_with (go_at_call 80; refine (idx_path A c l p _ _ (Kd.C_below HC.out ?_) hlen ?_).mono ?_; (exact below_alloc (below_alloc (below_alloc (Below.refl _ _) _) _) _); (go_simp); rintro e w2 ⟨rfl, hb2⟩; rw [HI.out]; have hr2 : isRow w2 (w.heap.size + 1 + 1) 36 = true := (by rw [isRow_below hb2 (by simp)]; go_simp); have HB2 := Aside0.mk (Below.trans (below_alloc (below_alloc (below_alloc (Below.refl w.heap.size w) _) _) _) (hb2.mono (by simp; omega))); clear hb2)
    refine bodyPost_ret (v := .tuple #[.agg (ptL Pt.zero).toArray, .bool false]) (res2 rfl rfl (lv_pt (by rw [rowAt_setRow_same hr2 _ _ _ (by decide), cut_pt]; rfl)) rfl) rfl ⟨by rw [HF.out], below_setRow HB2.out (by omega) _⟩
  · have HI := Aside0.mk hi
    have HF := Aside0.mk (findP_some hx hp hn)
    have hil := (List.getElem?_eq_some_iff.1 hx)
    obtain ⟨b, o, hA, hb, hr⟩ := flat_at hC (by decide) (Nat.lt_of_le_of_lt (Nat.zero_le _) hil.1)
    subst hA
    have hrow := (hr i hil.1).1
    rw [hil.2] at hrow
    have hil := hil.1
    have HR := Aside0.mk hrow
    clear hC hi hn hx hp hr hrow
    go_enter Tryd.func33, Tryd.ntmps33
    go_wp2_with (go_at_call 80; refine (idx_path _ c l p _ _ (Kd.C_below HC.out ?_) hlen ?_).mono ?_; (exact below_alloc (below_alloc (below_alloc (Below.refl _ _) _) _) _); (go_simp); rintro e w2 ⟨rfl, hb2⟩; rw [HI.out]; have hr2 : isRow w2 (w.heap.size + 1 + 1) 36 = true := (by rw [isRow_below hb2 (by simp)]; go_simp); have hc2 : w2.cell? ⟨w.heap.size, 0, none⟩ = some (.slice (some ⟨b, o, none⟩) l.length c) := (by rw [hb2.cell (p := ⟨w.heap.size, 0, none⟩) (by simp; omega)]; go_simp); have hb3 := (Below.trans (below_alloc (below_alloc (below_alloc (Below.refl w.heap.size w) _) _) _) (hb2.mono (by simp; omega))); have hx2 := HR.out; rw [← rowAt_below hb3 hb] at hx2; have HB2 := Aside0.mk hb3; clear hb2 hb3)
    refine bodyPost_ret (v := .tuple #[.agg (ptL x).toArray, .bool true]) (res2 rfl rfl (lv_pt (by rw [rowAt_setRow_same hr2 _ _ _ (by decide), cut_pt])) rfl) rfl ⟨by rw [HF.out], below_setRow HB2.out (by omega) _⟩
end Go.Proofs.YtiohgpcbdefokaaDoor.B
/- Laws for the walk on rows of cells that are known whole (copy, clear, append in place, append of zeros), and what a call turns of one block alone. No condition. -/
namespace Go.Proofs.YtiohgpcbdefokaaDoor.RowLaws
open Go.RowKit
/-- What a call on what lies at block g leaves: all other blocks that were there are as they were. -/
abbrev Only (g : Nat) (w w' : World) : Prop := w.grownBy w' (some g)
theorem Only.refl (g : Nat) (w : World) : Only g w w := ⟨rfl, rfl, rfl, Nat.le_refl _, fun _ _ _ => rfl⟩
theorem Only.trans {g : Nat} {a b c : World} (h : Only g a b) (k : Only g b c) : Only g a c :=
  ⟨k.os.trans h.os, k.tape.trans h.tape, k.output.trans h.output, Nat.le_trans h.size k.size, fun i hi hn => (k.block i (Nat.lt_of_lt_of_le hi h.size) hn).trans (h.block i hi hn)⟩
theorem Only.of_below {g : Nat} {w w' : World} (h : Below w.heap.size w w') : Only g w w' := ⟨h.os, h.tape, h.output, h.size, fun i hi _ => h.block i hi⟩
theorem Only.below {g n : Nat} {w w' : World} (h : Only g w w') (hn : n ≤ g) (hs : n ≤ w.heap.size) : Below n w w' := ⟨h.os, h.tape, h.output, h.size, fun i hi => h.block i (by omega) (by intro e; injection e; omega)⟩
theorem Only.cell {g : Nat} {w w' : World} (h : Only g w w') {p : Addr} {v : Value} (hp : p.block ≠ g) (hv : w.cell? p = some v) : w'.cell? p = some v :=
  (World.cell?_of_block (h.block p.block (World.block_lt_of_cell? _ _ hv) (by intro e; injection e; exact hp ‹_›))).trans hv
theorem Only.frozen {g : Nat} {w w' : World} (h : Only g w w') {p : Addr} (hl : p.block < w.heap.size) (hp : p.block ≠ g) : w'.frozen? p = w.frozen? p :=
  World.frozen?_of_block (h.block p.block hl (by intro e; injection e; exact hp ‹_›))
theorem Only.setCell {g : Nat} {a w : World} (h : Only g a w) {p : Addr} (hp : p.block = g) (u : Value) : Only g a (w.setCell p u) :=
  h.trans ⟨rfl, rfl, rfl, by simp [World.setCell], fun k _ hn => Below.heap_setCell _ _ _ _ (by intro e; subst e; exact hn (by rw [hp]))⟩
theorem Only.setRow {g : Nat} {a w : World} (h : Only g a w) (cs : Array Value) : Only g a (w.setRow g cs) :=
  h.trans ⟨rfl, rfl, rfl, by simp [World.setRow], fun k _ hn => setRow_other w g k cs (by intro e; exact hn (by rw [e]))⟩
theorem Only.alloc {g : Nat} {a w : World} (h : Only g a w) (o : Obj) : Only g a (w.alloc o) := h.trans (Only.of_below ((Below.refl _ _).alloc (Nat.le_refl _) o))
theorem Only.drew {g : Nat} {a w : World} (h : Only g a w) : Only g a w.drew := h.trans ⟨rfl, rfl, rfl, Nat.le_refl _, fun _ _ _ => rfl⟩
theorem Only.step {g : Nat} {a b c : World} (h : Only g a b) (k : Below b.heap.size b c) : Only g a c := h.trans (Only.of_below k)
/-- a turn of what was made since is none of what was there -/
theorem Only.fresh {g : Nat} {a b c : World} (h : Below a.heap.size a b) (k : Only g b c) (hg : a.heap.size ≤ g) : Below a.heap.size a c :=
  h.trans (k.below hg h.size)

section
variable {P : Program} {w : World} {ops : Array Oper} {rest : List Oper} {o : Oper} {a : Act} {Q : Exit → Act → World → Prop}
theorem gate_stepb {K : Act → World → Prop} {E : Prop} {b : Builtin} {xs : Array Operand} {ts : Array TypeId} (_ho : o.op = .call { callee := .builtin b, args := xs, argTypes := ts }) (h : if Region.wanted o (yielded ops a.tmps) = true then Oper.wp P o a w K Q else E) : if Region.wanted o (yielded ops a.tmps) = true then Oper.wp P o a w K Q else E := h
theorem run_clear_rows (w : World) (t e ty : TypeId) (z : Value) (sz : Nat) (ht : P.underlying t = some (.slice e)) (hv : ∀ w, (zeroValue e).run P w = .ok z w) (hz : z.cells.size = sz) (h1 : ∀ u ∈ z.cells.toList, u.oneCell' = true) (g off n c : Nat) (hn : 0 < n)
    (cur : Array Value) (tt : TypeId) (hg : w.heap[g]? = some (.cells cur tt (0, 0))) (hfit : off + n * sz ≤ cur.size) :
    ∃ Z : List Value, Z.length = n * sz ∧ (Builtin.clear_ #[t] ty #[.slice (some ⟨g, off, none⟩) n c]).run P w = .ok (.tuple #[]) (w.setRow g (cur.toList.take off ++ Z ++ cur.toList.drop (off + Z.length)).toArray) := by
  have hzl : (Builtin.zeroCells z.cells n).toList.length = n * sz := by simp [Builtin.zeroCells, hz]
  have hst := run_storeCells_at P g off tt (Builtin.zeroCells z.cells n).toList 0 cur w hg (by simpa [hzl] using hfit) (by
    intro v hv'
    obtain ⟨i, hi, rfl⟩ := List.getElem_of_mem hv'
    have hi' : i < n * z.cells.size := by simpa [Builtin.zeroCells] using hi
    have hpos : 0 < z.cells.size := Nat.pos_of_ne_zero (fun h => by rw [h] at hi'; simp at hi')
    have hlt : i % z.cells.size < z.cells.size := Nat.mod_lt _ hpos
    have e : (Builtin.zeroCells z.cells n).toList[i] = z.cells.toList[i % z.cells.size]'(by simpa using hlt) := by
      simp [Builtin.zeroCells, hlt]
    rw [e]
    exact h1 _ (List.getElem_mem _))
  simp only [Nat.add_zero] at hst
  refine ⟨_, hzl, ?_⟩
  obtain ⟨m, rfl⟩ : ∃ m, n = m + 1 := ⟨n - 1, by omega⟩
  simp [Builtin.clear_, run_underlying ht, hv, hst]
theorem wpList_clear_rows (hgd : o.guard = none) (s : Operand) (t : TypeId)
    (ho : o.op = .call { callee := .builtin .clear, args := #[s], argTypes := #[t] }) (e : TypeId) (z : Value) (sz : Nat) (ht : P.underlying t = some (.slice e)) (hv : ∀ w, (zeroValue e).run P w = .ok z w) (hz : z.cells.size = sz) (h1 : ∀ u ∈ z.cells.toList, u.oneCell' = true)
    (sp : Option Addr) (n c : Nat) (hs : a.eval s = .slice sp n c) (g off : Nat) (cur : List Value) (tt : TypeId) (hg : w.heap[g]? = some (.cells cur.toArray tt (0, 0)))
    (hpos : 0 < n → sp = some ⟨g, off, none⟩) (hfit : off + n * sz ≤ cur.length)
    (h : ∀ w' Z, Z.length = n * sz → Hid (w'.heap[g]? = some (.cells (splice cur off Z).toArray tt (0, 0))) → Only g w w' → wpList P ops Q rest (a.put o.dst (.tuple #[])) w') :
    wpList P ops Q (o :: rest) a w := by
  refine wpList_plain hgd fun K hK => ?_
  by_cases h0 : n = 0
  · subst h0
    have hrun : (Builtin.clear_ #[t] o.type #[.slice sp 0 c]).run P w = .ok (.tuple #[]) w := by
      cases sp <;> simp [Builtin.clear_, run_underlying ht]
    unfold Oper.wp
    simp [execOp, ho, resolve, invoke, builtin, hs, hrun, Result.andThen]
    exact hK _ _ (h w [] (by simp) (show _ = _ by simpa [splice] using hg) (Only.refl _ _))
  · obtain rfl := hpos (by omega)
    obtain ⟨Z, hZ, hrun⟩ := run_clear_rows (P := P) w t e o.type z sz ht hv hz h1 g off n c (by omega) cur.toArray tt hg (by simpa using hfit)
    unfold Oper.wp
    simp [execOp, ho, resolve, invoke, builtin, hs, hrun, Result.andThen]
    exact hK _ _ (by simpa using h _ Z hZ (show _ = _ by simpa [splice] using setRow_heap w g _ _ tt _ hg) ((Only.refl _ _).setRow _))
end
/-- A region that draws: what only reads goes first, in the order of the text, in a world that is a variable. -/
theorem still_tail_at {P : Program} {id : Nat} {Q : Exit → Act → World → Prop} {a : Act} {w : World} {l : List Oper} (n : Nat) (hm : P.follows .mixedOrders = true) (hB : Region.lexTailB .any l.toArray n = true)
    (h : ∀ W, W = w.drew → wpStill P l.toArray W (fun a' => wpList P l.toArray Q (l.drop n) a' W) (l.take n) a) : (Code.region id l.toArray true).wp P Q a w :=
  wp_region_still_tail n hm hB (h _ rfl)
end Go.Proofs.YtiohgpcbdefokaaDoor.RowLaws
/- slices.Clone, slices.Delete over parts; (State).own. No condition. -/
namespace Go.Proofs.YtiohgpcbdefokaaDoor.B
open Go.RowKit Go.Proofs.YtiohgpcbdefokaaDoorW.PrintWords Go.Proofs.YtiohgpcbdefokaaDoor.RowLaws
attribute [local go_sem ↓ high] lvO_hs ldO_hs stO_hs lvO_pt ldO_pt stO_pt zero_pt eqA_pt lvO_ptR ldO_ptR stO_ptR zero_ptR eqA_ptR lvO_rc ldO_rc stO_rc zero_rc eqA_rc lvO_rcR ldO_rcR stO_rcR zero_rcR eqA_rcR lvO_tk ldO_tk stO_tk zero_tk eqA_tk lvO_tkR ldO_tkR stO_tkR zero_tkR eqA_tkR lvO_it ldO_it stO_it zero_it eqA_it blO_pt blO_ptR blO_rc blO_rcR blO_tk blO_tkR blO_it bsO_pt bsO_ptR bsO_rc bsO_rcR bsO_it
attribute [local go_sem high] rowAt_setCell rowAt_setRow cell_setRow_ne isRow_setRow_ne rowAt_alloc rowAt_drew isRow_alloc isRow_drew isRow_setCell rowRun_some okL_hs ldV_hs ldA_hs stA_hs setRow_alloc get_pt_id get_pt_path cut_pt_sum get_pt_size get_pt_off cut_pt okL_pt size_pt lenb_pt eta_pt ldV_pt ldA_pt stA_pt ldV_ptR ldA_ptR stA_ptR get_rc_kind get_rc_id get_rc_path cut_rc_sum get_rc_size get_rc_off cut_rc okL_rc size_rc lenb_rc eta_rc ldV_rc ldA_rc stA_rc ldV_rcR ldA_rcR stA_rcR get_tk_path cut_tk_sum get_tk_size get_tk_off cut_tk_old cut_tk okL_tk size_tk lenb_tk eta_tk ldV_tk ldA_tk stA_tk ldV_tkR ldA_tkR stA_tkR get_it_path get_it_dir get_it_size cut_it_sum cut_it okL_it size_it lenb_it eta_it ldV_it ldA_it stA_it bld_pt_01234 bld_pt_0123 bld_pt_z bld_ptR_01234 bld_ptR_0123 bld_ptR_z bld_rc_012345 bld_rc_015 bld_rc_01 bld_rc_z bld_rc_01234 bld_rc_24 bld_rc_05 bld_rc_0 bld_rcR_012345 bld_rcR_015 bld_rcR_01 bld_rcR_z bld_rcR_01234 bld_rcR_24 bld_rcR_05 bld_rcR_0 bld_tk_01234 bld_tk_0 bld_tk_z bld_tkR_01234 bld_tkR_0 bld_tkR_z bld_it_0123 bld_it_023 bld_it_01 bld_it_0 bld_it_z bs0_pt bs1_pt bs0_ptR bs1_ptR bs0_rc bs1_rc bs0_rcR bs1_rcR bs0_it bs1_it
theorem bcell {W w1 : World} (hb : Below W.heap.size W w1) : (∀ b o, b < W.heap.size → w1.cell? ⟨b, o, none⟩ = W.cell? ⟨b, o, none⟩) ∧ (∀ b o, b < W.heap.size → w1.frozen? ⟨b, o, none⟩ = W.frozen? ⟨b, o, none⟩) :=
  ⟨fun b o h => hb.cell (p := ⟨b, o, none⟩) h, fun b o h => hb.frozen (p := ⟨b, o, none⟩) h⟩
theorem flat_elder {α : Type} {n : Nat} {enc : α → List Value} {hl : ∀ x, (enc x).length = n} {h1 : ∀ x, ∀ v ∈ enc x, v.oneCell' = true} {e : Nat} {W W' : World} {B : Nat} {ok : Nat → Prop} {v : Value} {xs : List α} (h : Kd.R (flat n enc hl h1) e W B ok v xs) (hm : ∀ k, B ≤ k → W'.heap[k]? = W.heap[k]?) : Kd.R (flat n enc hl h1) e W' B ok v xs := by
  obtain ⟨h0, inner, ho, hr⟩ := h
  exact ⟨h0, inner, own_move ho (fun k hk => hm k (own_base ho k hk)), hr⟩
theorem flat_keep {α : Type} {n : Nat} {enc : α → List Value} {hl : ∀ x, (enc x).length = n} {h1 : ∀ x, ∀ v ∈ enc x, v.oneCell' = true} {e : Nat} {W : World} {B g o : Nat} {u : Value} {ok : Nat → Prop} {v : Value} {xs : List α} (h : Kd.R (flat n enc hl h1) e W B ok v xs) (hg : v.ownBlock ≠ some g) : Kd.R (flat n enc hl h1) e (W.setCell ⟨g, o, none⟩ u) B ok v xs := by
  obtain ⟨h0, inner, ho, hr⟩ := h
  exact ⟨h0, inner, own_move ho (fun k hk => Below.heap_setCell _ _ _ _ (by show k ≠ g; intro e; exact hg (by rw [hk, e]))), hr⟩
theorem flat_put {α : Type} {n : Nat} {enc : α → List Value} {hl : ∀ x, (enc x).length = n} {h1 : ∀ x, ∀ v ∈ enc x, v.oneCell' = true} {e : Nat} {W : World} {B g o : Nat} {u : Value} {ok : Nat → Prop} {v : Value} {xs : List α} (h : Kd.R (flat n enc hl h1) e W B ok v xs) (hg : g < B) : Kd.R (flat n enc hl h1) e (W.setCell ⟨g, o, none⟩ u) B ok v xs :=
  flat_elder h fun k hk => Below.heap_setCell _ _ _ _ (by show k ≠ g; omega)
theorem infoPt : (Tryd.prog.info? 75).map (fun i => (i.zero, i.size, i.bytes)) = some (some (.agg (ptL Pt.zero).toArray), 36, 72) := by kernel_rfl
set_option maxHeartbeats 4000000 in
set_option maxRecDepth 100000 in
theorem Clone_calls (A : Option Addr) (c : Nat) (l : List Pt) (w : World) (hC : Kd.C kPt w A l.length l) (hc : l.length ≤ c) (hlen : l.length ≤ 1000) :
    Calls Tryd.prog 124 #[.slice A l.length c] w fun e w' => ∃ v : Value, e = .returned v ∧ Kd.R kPt 75 w' w.heap.size (fun _ => True) v l ∧ Below w.heap.size w w' := by
  have HR := Aside0.mk hC
  have HB := Aside0.mk (Below.refl w.heap.size w)
  clear hC
  have hnil := fun W a n c => Lib.run_eql_slice_nil (P := Tryd.prog) W 58 75 a n c 0 0 Tryd.underlying58
  cases A with
  | none =>
    have hn : l = [] := by
      rcases Nat.eq_zero_or_pos l.length with h0 | h0
      · exact List.eq_nil_of_length_eq_zero h0
      · obtain ⟨ad, he, _⟩ := HR.out.2.2 h0
        cases he
    subst hn
    go_enter Tryd.func124, Tryd.ntmps124
    go_wp2
    go_ret
    exact ⟨_, rfl, Kd.R_nil _ _ _ _ _, Below.refl _ _⟩
  | some ad =>
    go_enter Tryd.func124, Tryd.ntmps124
    go_wp2_with (first
      | ((with_reducible refine gate_dst (N := 5) rfl ?_); refine Kd.R_lit kPt _ 75 ?hg (N := 5) ?hd (xs := ([] : List Pt)) (inner := []) (ok := fun _ => True) (okp := fun _ => True) ?hr ?hp (fun _ hk => hk) trivial (Below.refl _ _) (Nat.le_refl _) (by simp) ?_; (case hd => rfl); (case hg => rfl); (case hr => first | (go_simp; done) | (go_simp; rfl)); (case hp => exact (Reps.none _ _)); intro v1 w1 ho hb _ _; have HO1 := Aside0.mk ho; have HB1 := Aside0.mk hb; clear ho hb)
      | ((with_reducible refine gate_builtin (b := .append) (xs := #[.tmp 5, .tmp 6]) rfl ?_); at_builtin; refine Kd.R_append_rows kPt (w0 := w) w.heap.size rfl (.tmp 5) (.tmp 6) 58 75 _ 72 rfl Tryd.underlying58 infoPt (ptL_len _) (by decide) (by omega) v1 [] l _ _ _ (fun _ => True) (fun _ => False) rfl rfl ?aO ?aR (fun _ _ h => h) (fun _ h => h.elim) ?aF ?aB ?aS ?aL ?_; (case aR => exact Kd.C_below HR.out HB1.out); (case aB => exact HB1.out); (case aF => exact (fun _ _ => trivial)); (case aO => exact HO1.out); (case aS => exact HB1.out.size); (case aL => simp; omega); intro v2 w2 ho hb _ _; have HO2 := Aside0.mk ho; have HB2 := Aside0.mk hb; clear ho hb))
    go_ret
    exact ⟨_, rfl, Kd.R_mono (by simpa using HO2.out) (fun _ _ => trivial), HB2.out⟩
#print axioms Clone_calls
end Go.Proofs.YtiohgpcbdefokaaDoor.B
/- Laws for regions that draw their order and only read: one operation after the other, with the rest kept shut. No condition. -/
namespace Go.Proofs.YtiohgpcbdefokaaDoor.B
open Go.RowKit
theorem wpStill_plain {P : Program} {ops : Array Oper} {w : World} {Q : Act → Prop} {a : Act} {o : Oper} {rest : List Oper} (hg : o.guard = none)
    (h : ∀ K : Act → Prop, Hid (K = wpStill P ops w Q rest) → o.still P a w K) : wpStill P ops w Q (o :: rest) a := by
  show if _ then _ else _
  rw [if_pos (by simp [Region.wanted, hg])]; exact h _ rfl
theorem wpStill_held {P : Program} {ops : Array Oper} {w : World} {Q : Act → Prop} {a : Act} {o : Oper} {rest : List Oper} (hg : Region.wanted o (yielded ops a.tmps) = true)
    (h : ∀ K : Act → Prop, Hid (K = wpStill P ops w Q rest) → o.still P a w K) : wpStill P ops w Q (o :: rest) a := by
  show if _ then _ else _
  rw [if_pos hg]; exact h _ rfl
theorem wpStill_skip {P : Program} {ops : Array Oper} {w : World} {Q : Act → Prop} {a : Act} {o : Oper} {rest : List Oper} (hg : Region.wanted o (yielded ops a.tmps) = false)
    (h : ∀ K : Act → Prop, Hid (K = wpStill P ops w Q rest) → K (a.put o.dst undef)) : wpStill P ops w Q (o :: rest) a := by
  show if _ then _ else _
  rw [if_neg (by rw [hg]; decide)]; exact h _ rfl
theorem still_back {K F : Act → Prop} {a : Act} (h : Hid (K = F)) (hf : F a) : K a := by rw [show K = F from h]; exact hf
end Go.Proofs.YtiohgpcbdefokaaDoor.B
/- slices.Delete of one part of a row of the call's own. No condition. -/
namespace Go.Proofs.YtiohgpcbdefokaaDoor.B
open Go.RowKit Go.Proofs.YtiohgpcbdefokaaDoorW.PrintWords Go.Proofs.YtiohgpcbdefokaaDoor.RowLaws
attribute [local go_sem ↓ high] lvO_hs ldO_hs stO_hs lvO_pt ldO_pt stO_pt zero_pt eqA_pt lvO_ptR ldO_ptR stO_ptR zero_ptR eqA_ptR lvO_rc ldO_rc stO_rc zero_rc eqA_rc lvO_rcR ldO_rcR stO_rcR zero_rcR eqA_rcR lvO_tk ldO_tk stO_tk zero_tk eqA_tk lvO_tkR ldO_tkR stO_tkR zero_tkR eqA_tkR lvO_it ldO_it stO_it zero_it eqA_it blO_pt blO_ptR blO_rc blO_rcR blO_tk blO_tkR blO_it bsO_pt bsO_ptR bsO_rc bsO_rcR bsO_it
attribute [local go_sem high] rowAt_setCell rowAt_setRow cell_setRow_ne isRow_setRow_ne rowAt_alloc rowAt_drew isRow_alloc isRow_drew isRow_setCell rowRun_some okL_hs ldV_hs ldA_hs stA_hs setRow_alloc get_pt_id get_pt_path cut_pt_sum get_pt_size get_pt_off cut_pt okL_pt size_pt lenb_pt eta_pt ldV_pt ldA_pt stA_pt ldV_ptR ldA_ptR stA_ptR get_rc_kind get_rc_id get_rc_path cut_rc_sum get_rc_size get_rc_off cut_rc okL_rc size_rc lenb_rc eta_rc ldV_rc ldA_rc stA_rc ldV_rcR ldA_rcR stA_rcR get_tk_path cut_tk_sum get_tk_size get_tk_off cut_tk_old cut_tk okL_tk size_tk lenb_tk eta_tk ldV_tk ldA_tk stA_tk ldV_tkR ldA_tkR stA_tkR get_it_path get_it_dir get_it_size cut_it_sum cut_it okL_it size_it lenb_it eta_it ldV_it ldA_it stA_it bld_pt_01234 bld_pt_0123 bld_pt_z bld_ptR_01234 bld_ptR_0123 bld_ptR_z bld_rc_012345 bld_rc_015 bld_rc_01 bld_rc_z bld_rc_01234 bld_rc_24 bld_rc_05 bld_rc_0 bld_rcR_012345 bld_rcR_015 bld_rcR_01 bld_rcR_z bld_rcR_01234 bld_rcR_24 bld_rcR_05 bld_rcR_0 bld_tk_01234 bld_tk_0 bld_tk_z bld_tkR_01234 bld_tkR_0 bld_tkR_z bld_it_0123 bld_it_023 bld_it_01 bld_it_0 bld_it_z bs0_pt bs1_pt bs0_ptR bs1_ptR bs0_rc bs1_rc bs0_rcR bs1_rcR bs0_it bs1_it
theorem szPt : (Tryd.prog.info? 75).map (·.size) = some 36 := by kernel_rfl
theorem zcPt : (Value.agg (ptL Pt.zero).toArray).cells.size = 36 := by simp [Value.cells, ptL_len]
theorem zoPt : ∀ u ∈ (Value.agg (ptL Pt.zero).toArray).cells.toList, u.oneCell' = true := by simp only [Value.cells]; exact ptL_one _
/-- What lies behind a row's length may turn. -/
theorem R_tail {W W' : World} {B g n c : Nat} {ok : Nat → Prop} {l : List Pt} (h : Kd.R kPt 75 W B ok (.slice (some ⟨g, 0, none⟩) n c) l) {cur : List Value} {off : Nat} {Z : List Value} (hg : W.heap[g]? = some (.cells cur.toArray 75 (0, 0)))
    (hg' : W'.heap[g]? = some (.cells (splice cur off Z).toArray 75 (0, 0))) (hoff : n * 36 ≤ off) (hfit : off + Z.length ≤ cur.length) : Kd.R kPt 75 W' B ok (.slice (some ⟨g, 0, none⟩) n c) l := by
  obtain ⟨h0, inner, h1, h2⟩ := h
  refine ⟨h0, inner, ⟨h1.1, ?_⟩, h2⟩
  rcases h1.2 with ⟨hv, _⟩ | ⟨g', cap', cur', hv, hb, hh, hnc, hcm, hcs, ht⟩
  · cases hv
  injection hv with ha hn hc
  injection ha with ha
  injection ha with ha
  subst ha hc
  have hl : n = l.length := hn
  rw [hg] at hh
  injection hh with hh
  injection hh with hh
  subst hh
  refine .inr ⟨g, c, (splice cur off Z).toArray, by rw [hl], hb, hg', hnc, hcm, ?_, ?_⟩
  · have : cur.length = c * 36 := by simpa [kPt, flat] using hcs
    simp only [List.size_toArray]
    rw [length_splice _ _ _ hfit, this]; rfl
  · have e : (splice cur off Z).toArray.toList.take (l.length * kPt.sz) = cur.toArray.toList.take (l.length * kPt.sz) := by
      have hz : l.length * kPt.sz ≤ off := by rw [← hl]; exact hoff
      simp only [splice]
      rw [List.take_append_of_le_length (by simp; omega), List.take_take, Nat.min_eq_left hz]
    rw [e]; exact ht
theorem R_block {W : World} {B g n c : Nat} {ok : Nat → Prop} {l : List Pt} (h : Kd.R kPt 75 W B ok (.slice (some ⟨g, 0, none⟩) n c) l) : n = l.length ∧ n ≤ c ∧ B ≤ g ∧ ∃ cur : List Value, W.heap[g]? = some (.cells cur.toArray 75 (0, 0)) ∧ cur.length = c * 36 ∧ c ≤ maxLen := by
  obtain ⟨h0, inner, h1, h2⟩ := h
  rcases h1.2 with ⟨hv, _⟩ | ⟨g', cap', cur', hv, hb, hh, hnc, hcm, hcs, ht⟩
  · cases hv
  injection hv with ha hn hc
  injection ha with ha
  injection ha with ha
  subst ha hc
  exact ⟨hn, by rw [hn]; exact hnc, hb, cur'.toList, by simpa using hh, by simpa [kPt, flat] using hcs, hcm⟩
set_option maxHeartbeats 4000000 in
set_option maxRecDepth 100000 in
theorem Delete_calls (g m c i B : Nat) (ok : Nat → Prop) (l : List Pt) (w : World) (hO : Kd.R kPt 75 w B ok (.slice (some ⟨g, 0, none⟩) (m + 1) c) l) (hi : i ≤ m) (hn : m + 1 ≤ 1000) (hB : B ≤ w.heap.size) :
    Calls Tryd.prog 83 #[.slice (some ⟨g, 0, none⟩) (m + 1) c, .int .i64 (i : Int), .int .i64 ((i : Int) + 1)] w fun e w' => e = .returned (.slice (some ⟨g, 0, none⟩) m c) ∧ Kd.R kPt 75 w' B ok (.slice (some ⟨g, 0, none⟩) m c) (l.eraseIdx i) ∧ Only g w w' := by
  obtain ⟨hnl, hnc, hBg, _⟩ := R_block hO
  have HL := Aside0.mk hnl
  have HO := Aside0.mk hO
  clear hO hnl
  have hw2 : (0 : Int) ≤ (i : Int) + 1 := by omega
  have hw3 : ((i : Int) + 1).toNat = i + 1 := by omega
  have hw4 : (i : Int) + 1 ≤ (m : Int) + 1 := by omega
  have hw5 : ((i : Int) == (i : Int) + 1) = false := by simp; omega
  have hw6 : (i : Int) ≤ (m : Int) + 1 := by omega
  have hw7 : i ≤ c := by omega
  have hw8 : i + 1 ≤ m + 1 := by omega
  have hw9 : (i : Int) ≤ (c : Int) := by omega
  have hnn : (m : Int) + 1 ≤ (c : Int) := by omega
  have hmc : m ≤ c := by omega
  have hmi : (m : Int) ≤ (c : Int) := by omega
  have hcm : ¬ c = m := by omega
  by_cases hcc : i + 1 = c
  case neg =>
    have hcn : ¬ c = i + 1 := fun e => hcc e.symm
    clear hcc
    go_enter Tryd.func83, Tryd.ntmps83
    go_wp2
    refine still_tail_at 6 (by kernel_rfl) (by kernel_rfl) ?_
    intro W hW
    have HOW := Aside0.mk (show Kd.R kPt 75 W B ok (.slice (some ⟨g, 0, none⟩) (m + 1) c) l from by rw [hW]; exact Kd.R_drew HO.out)
    have HBW := Aside0.mk (show Only g w W from by rw [hW]; exact (Only.refl _ _).drew)
    clear hW
    simp only [List.take_succ_cons, List.take_zero, List.drop_succ_cons, List.drop_zero]
    repeat still_step
    refine wpStill_nil ?_
    clear hw2 hw3 hw4 hw5 hw6 hw7 hw8 hw9
    go_wp2_with (first
      | ((with_reducible refine gate_builtin (b := .append) (xs := #[.tmp 22, .tmp 25]) rfl ?_); refine Kd.R_delete kPt (w0 := W) B rfl (.tmp 22) (.tmp 25) 58 75 rfl Tryd.underlying58 szPt (g := g) (n := m + 1) (c := c) (k := i) rfl rfl ?hA ?hm HOW.out (by omega) (Below.refl _ _) ?hb ?_; (case hA => simp [hcn, Addr.add_mid, kPt, flat]); (case hm => omega); (case hb => exact Nat.le_trans hB HBW.out.size); intro w1 ho1 hb1 hg1; rw [Nat.add_sub_cancel] at ho1; rw [Nat.add_sub_cancel]; have HO1 := Aside0.mk ho1; have HG1 := Aside0.mk (HBW.out.trans hg1); obtain ⟨he1, he2, he3, cur, hk1, hk2, hk3⟩ := R_block ho1; have HK1 := Aside0.mk hk1; have HK2 := Aside0.mk hk2; clear ho1 hb1 hg1 hk1 hk2 hk3 he1 he2 he3)
      | ((with_reducible refine gate_builtin (b := .clear) (xs := #[.tmp 31]) rfl ?_); refine wpList_clear_rows rfl (.tmp 31) 58 rfl 75 (.agg (ptL Pt.zero).toArray) 36 Tryd.underlying58 zero_pt zcPt zoPt _ _ _ rfl g (m * 36) cur 75 HK1.out ?hp ?hf ?_; (case hp => intro _; rfl); (case hf => have := HK2.out; omega); intro w2 Z hZ hg2 ho2; have HZ := Aside0.mk hZ; have HG2 := Aside0.mk hg2; have HO2 := Aside0.mk ho2; clear hZ hg2 ho2))
    go_ret
    refine ⟨rfl, ?_, HG1.out.trans HO2.out⟩
    exact R_tail HO1.out HK1.out HG2.out (Nat.le_refl _) (by have := HK2.out; have := HZ.out; omega)
  case pos =>
    go_enter Tryd.func83, Tryd.ntmps83
    go_wp2
    refine still_tail_at 6 (by kernel_rfl) (by kernel_rfl) ?_
    intro W hW
    have HOW := Aside0.mk (show Kd.R kPt 75 W B ok (.slice (some ⟨g, 0, none⟩) (m + 1) c) l from by rw [hW]; exact Kd.R_drew HO.out)
    have HBW := Aside0.mk (show Only g w W from by rw [hW]; exact (Only.refl _ _).drew)
    clear hW
    simp only [List.take_succ_cons, List.take_zero, List.drop_succ_cons, List.drop_zero]
    repeat still_step
    refine wpStill_nil ?_
    clear hw2 hw3 hw4 hw5 hw6 hw7 hw8 hw9
    go_wp2_with (first
      | ((with_reducible refine gate_builtin (b := .append) (xs := #[.tmp 22, .tmp 25]) rfl ?_); refine Kd.R_delete kPt (w0 := W) B rfl (.tmp 22) (.tmp 25) 58 75 rfl Tryd.underlying58 szPt (g := g) (n := m + 1) (c := c) (k := i) rfl rfl ?hA ?hm HOW.out (by omega) (Below.refl _ _) ?hb ?_; (case hA => simp [hcc, Addr.add_mid, kPt, flat]); (case hm => omega); (case hb => exact Nat.le_trans hB HBW.out.size); intro w1 ho1 hb1 hg1; rw [Nat.add_sub_cancel] at ho1; rw [Nat.add_sub_cancel]; have HO1 := Aside0.mk ho1; have HG1 := Aside0.mk (HBW.out.trans hg1); obtain ⟨he1, he2, he3, cur, hk1, hk2, hk3⟩ := R_block ho1; have HK1 := Aside0.mk hk1; have HK2 := Aside0.mk hk2; clear ho1 hb1 hg1 hk1 hk2 hk3 he1 he2 he3)
      | ((with_reducible refine gate_builtin (b := .clear) (xs := #[.tmp 31]) rfl ?_); refine wpList_clear_rows rfl (.tmp 31) 58 rfl 75 (.agg (ptL Pt.zero).toArray) 36 Tryd.underlying58 zero_pt zcPt zoPt _ _ _ rfl g (m * 36) cur 75 HK1.out ?hp ?hf ?_; (case hp => intro _; rfl); (case hf => have := HK2.out; omega); intro w2 Z hZ hg2 ho2; have HZ := Aside0.mk hZ; have HG2 := Aside0.mk hg2; have HO2 := Aside0.mk ho2; clear hZ hg2 ho2))
    go_ret
    refine ⟨rfl, ?_, HG1.out.trans HO2.out⟩
    exact R_tail HO1.out HK1.out HG2.out (Nat.le_refl _) (by have := HK2.out; have := HZ.out; omega)
theorem R_some {e : Nat} {W : World} {B n c : Nat} {ok : Nat → Prop} {A : Option Addr} {l : List Pt} (h : Kd.R kPt e W B ok (.slice A n c) l) (hl : 0 < l.length) : ∃ g, A = some ⟨g, 0, none⟩ ∧ B ≤ g ∧ g < W.heap.size := by
  have hlt := Kd.R_lt h
  have hb := Kd.R_base h
  obtain ⟨h0, inner, h1, h2⟩ := h
  rcases h1.2 with ⟨hv, hn⟩ | ⟨g', cap', cur', hv, _⟩
  · omega
  · injection hv with ha
    subst ha
    exact ⟨g', rfl, hb g' rfl, hlt g' rfl⟩
theorem Delete_at (g c i B : Nat) (ok : Nat → Prop) (l : List Pt) (w : World) (hO : Kd.R kPt 75 w B ok (.slice (some ⟨g, 0, none⟩) l.length c) l) (hi : i < l.length) (hn : l.length ≤ 1000) (hB : B ≤ w.heap.size) :
    Calls Tryd.prog 83 #[.slice (some ⟨g, 0, none⟩) l.length c, .int .i64 (i : Int), .int .i64 ((i : Int) + 1)] w fun e w' => e = .returned (.slice (some ⟨g, 0, none⟩) (l.length - 1) c) ∧ Kd.R kPt 75 w' B ok (.slice (some ⟨g, 0, none⟩) (l.length - 1) c) (l.eraseIdx i) ∧ Only g w w' := by
  obtain ⟨m, hm⟩ : ∃ m, l.length = m + 1 := ⟨l.length - 1, by omega⟩
  rw [hm] at hO ⊢
  exact Delete_calls g m c i B ok l w hO (by omega) (by omega) hB
end Go.Proofs.YtiohgpcbdefokaaDoor.B
/- What a record makes of a state: (State).own, (State).begins. No condition. -/
namespace Go.Proofs.YtiohgpcbdefokaaDoor.B
open Go.RowKit Go.Proofs.YtiohgpcbdefokaaDoorW.PrintWords Go.Proofs.YtiohgpcbdefokaaDoor.RowLaws
attribute [local go_sem ↓ high] lvO_hs ldO_hs stO_hs lvO_pt ldO_pt stO_pt zero_pt eqA_pt lvO_ptR ldO_ptR stO_ptR zero_ptR eqA_ptR lvO_rc ldO_rc stO_rc zero_rc eqA_rc lvO_rcR ldO_rcR stO_rcR zero_rcR eqA_rcR lvO_tk ldO_tk stO_tk zero_tk eqA_tk lvO_tkR ldO_tkR stO_tkR zero_tkR eqA_tkR lvO_it ldO_it stO_it zero_it eqA_it blO_pt blO_ptR blO_rc blO_rcR blO_tk blO_tkR blO_it bsO_pt bsO_ptR bsO_rc bsO_rcR bsO_it
attribute [local go_sem high] rowAt_setCell rowAt_setRow cell_setRow_ne isRow_setRow_ne rowAt_alloc rowAt_drew isRow_alloc isRow_drew isRow_setCell rowRun_some okL_hs ldV_hs ldA_hs stA_hs setRow_alloc get_pt_id get_pt_path cut_pt_sum get_pt_size get_pt_off cut_pt okL_pt size_pt lenb_pt eta_pt ldV_pt ldA_pt stA_pt ldV_ptR ldA_ptR stA_ptR get_rc_kind get_rc_id get_rc_path cut_rc_sum get_rc_size get_rc_off cut_rc okL_rc size_rc lenb_rc eta_rc ldV_rc ldA_rc stA_rc ldV_rcR ldA_rcR stA_rcR get_tk_path cut_tk_sum get_tk_size get_tk_off cut_tk_old cut_tk okL_tk size_tk lenb_tk eta_tk ldV_tk ldA_tk stA_tk ldV_tkR ldA_tkR stA_tkR get_it_path get_it_dir get_it_size cut_it_sum cut_it okL_it size_it lenb_it eta_it ldV_it ldA_it stA_it bld_pt_01234 bld_pt_0123 bld_pt_z bld_ptR_01234 bld_ptR_0123 bld_ptR_z bld_rc_012345 bld_rc_015 bld_rc_01 bld_rc_z bld_rc_01234 bld_rc_24 bld_rc_05 bld_rc_0 bld_rcR_012345 bld_rcR_015 bld_rcR_01 bld_rcR_z bld_rcR_01234 bld_rcR_24 bld_rcR_05 bld_rcR_0 bld_tk_01234 bld_tk_0 bld_tk_z bld_tkR_01234 bld_tkR_0 bld_tkR_z bld_it_0123 bld_it_023 bld_it_01 bld_it_0 bld_it_z bs0_pt bs1_pt bs0_ptR bs1_ptR bs0_rc bs1_rc bs0_rcR bs1_rcR bs0_it bs1_it
theorem grown_cell {W w1 : World} {row : Option Nat} {g o : Nat} {v : Value} (hg : W.grownBy w1 row) (hne : row ≠ some g) (hc : W.cell? ⟨g, o, none⟩ = some v) : w1.cell? ⟨g, o, none⟩ = some v :=
  (World.cell?_of_block (hg.block g (World.block_lt_of_cell? _ _ hc) (fun e => hne e.symm))).trans hc
theorem grown_froz {W w1 : World} {row : Option Nat} {g o : Nat} (hg : W.grownBy w1 row) (hne : row ≠ some g) (hl : g < W.heap.size) (hf : W.frozen? ⟨g, o, none⟩ = false) : w1.frozen? ⟨g, o, none⟩ = false :=
  (World.frozen?_of_block (hg.block g hl (fun e => hne e.symm))).trans hf
set_option maxHeartbeats 4000000 in
set_option maxRecDepth 100000 in
theorem ownS_calls (A : Option Addr) (c : Nat) (l : List Pt) (nx : Int) (w : World) (hC : Kd.C kPt w A l.length l) (hc : l.length ≤ c) (hlen : l.length ≤ 1000) :
    Calls Tryd.prog 79 #[.agg #[.slice A l.length c, .int .i64 nx]] w fun e w' => ∃ v : Value, e = .returned (.agg #[v, .int .i64 nx]) ∧ Kd.R kPt 75 w' w.heap.size (fun _ => True) v l ∧ Below w.heap.size w w' := by
  have HC := Aside0.mk hC
  clear hC
  go_enter Tryd.func79, Tryd.ntmps79
  go_wp2_with (go_at_call 124; refine (Clone_calls A c l _ (Kd.C_below HC.out ?_) hc hlen).mono ?_; (exact below_alloc (below_alloc (Below.refl _ _) _) _); rintro e w2 ⟨v, rfl, ho, hb2⟩; obtain ⟨hcl, hfz⟩ := bcell hb2; obtain ⟨A2, c2, rfl⟩ := Kd.R_slice ho; have HO2 := Aside0.mk (Kd.R_lower (base' := w.heap.size + 1 + 1) ho (by simp)); have HB2 := Aside0.mk (Below.trans (below_alloc (below_alloc (Below.refl w.heap.size w) _) _) (hb2.mono (by simp; omega))); have c0_0 : w2.cell? ⟨w.heap.size, 0, none⟩ = some (.slice A l.length c) := (by rw [hcl _ _ (by simp; try omega)]; first | (go_simp; done) | (simp [*]; done)); have f0_0 : w2.frozen? ⟨w.heap.size, 0, none⟩ = false := (by rw [hfz _ _ (by simp; try omega)]; first | (go_simp; done) | (simp [*]; done)); have c0_1 : w2.cell? ⟨w.heap.size, 1, none⟩ = some (.int .i64 nx) := (by rw [hcl _ _ (by simp; try omega)]; first | (go_simp; done) | (simp [*]; done)); have f0_1 : w2.frozen? ⟨w.heap.size, 1, none⟩ = false := (by rw [hfz _ _ (by simp; try omega)]; first | (go_simp; done) | (simp [*]; done)); have c1_0 : w2.cell? ⟨w.heap.size + 1, 0, none⟩ = some (.slice none 0 0) := (by rw [hcl _ _ (by simp; try omega)]; first | (go_simp; done) | (simp [*]; done)); have f1_0 : w2.frozen? ⟨w.heap.size + 1, 0, none⟩ = false := (by rw [hfz _ _ (by simp; try omega)]; first | (go_simp; done) | (simp [*]; done)); have c1_1 : w2.cell? ⟨w.heap.size + 1, 1, none⟩ = some (.int .i64 0) := (by rw [hcl _ _ (by simp; try omega)]; first | (go_simp; done) | (simp [*]; done)); have f1_1 : w2.frozen? ⟨w.heap.size + 1, 1, none⟩ = false := (by rw [hfz _ _ (by simp; try omega)]; first | (go_simp; done) | (simp [*]; done)); clear ho hb2 hcl hfz)
  refine bodyPost_ret (v := .agg #[.slice A2 l.length c2, .int .i64 nx]) (by simp [results, Tryd.results79, go_sem, *]) rfl ⟨_, rfl, ?_, ?_⟩
  · exact Kd.R_lower (flat_put (flat_put (flat_put HO2.out (by omega)) (by omega)) (by omega)) (by omega)
  · exact below_setCell (below_setCell (below_setCell HB2.out (by omega) _) (by omega) _) (by omega) _
end Go.Proofs.YtiohgpcbdefokaaDoor.B
/- (State).begins: a part more, or none. No condition. -/
namespace Go.Proofs.YtiohgpcbdefokaaDoor.B
open Go.RowKit Go.Proofs.YtiohgpcbdefokaaDoorW.PrintWords Go.Proofs.YtiohgpcbdefokaaDoor.RowLaws
attribute [local go_sem ↓ high] lvO_hs ldO_hs stO_hs lvO_pt ldO_pt stO_pt zero_pt eqA_pt lvO_ptR ldO_ptR stO_ptR zero_ptR eqA_ptR lvO_rc ldO_rc stO_rc zero_rc eqA_rc lvO_rcR ldO_rcR stO_rcR zero_rcR eqA_rcR lvO_tk ldO_tk stO_tk zero_tk eqA_tk lvO_tkR ldO_tkR stO_tkR zero_tkR eqA_tkR lvO_it ldO_it stO_it zero_it eqA_it blO_pt blO_ptR blO_rc blO_rcR blO_tk blO_tkR blO_it bsO_pt bsO_ptR bsO_rc bsO_rcR bsO_it
attribute [local go_sem high] rowAt_setCell rowAt_setRow cell_setRow_ne isRow_setRow_ne rowAt_alloc rowAt_drew isRow_alloc isRow_drew isRow_setCell rowRun_some okL_hs ldV_hs ldA_hs stA_hs setRow_alloc get_pt_id get_pt_path cut_pt_sum get_pt_size get_pt_off cut_pt okL_pt size_pt lenb_pt eta_pt ldV_pt ldA_pt stA_pt ldV_ptR ldA_ptR stA_ptR get_rc_kind get_rc_id get_rc_path cut_rc_sum get_rc_size get_rc_off cut_rc okL_rc size_rc lenb_rc eta_rc ldV_rc ldA_rc stA_rc ldV_rcR ldA_rcR stA_rcR get_tk_path cut_tk_sum get_tk_size get_tk_off cut_tk_old cut_tk okL_tk size_tk lenb_tk eta_tk ldV_tk ldA_tk stA_tk ldV_tkR ldA_tkR stA_tkR get_it_path get_it_dir get_it_size cut_it_sum cut_it okL_it size_it lenb_it eta_it ldV_it ldA_it stA_it bld_pt_01234 bld_pt_0123 bld_pt_z bld_ptR_01234 bld_ptR_0123 bld_ptR_z bld_rc_012345 bld_rc_015 bld_rc_01 bld_rc_z bld_rc_01234 bld_rc_24 bld_rc_05 bld_rc_0 bld_rcR_012345 bld_rcR_015 bld_rcR_01 bld_rcR_z bld_rcR_01234 bld_rcR_24 bld_rcR_05 bld_rcR_0 bld_tk_01234 bld_tk_0 bld_tk_z bld_tkR_01234 bld_tkR_0 bld_tkR_z bld_it_0123 bld_it_023 bld_it_01 bld_it_0 bld_it_z bs0_pt bs1_pt bs0_ptR bs1_ptR bs0_rc bs1_rc bs0_rcR bs1_rcR bs0_it bs1_it
structure St where
  parts : List Pt
  next : Int
deriving DecidableEq
def St.zero : St := ⟨[], 0⟩
def beginP (s : St) (r : Rc) : St × Bool :=
  if (findP s.parts r.path).2 = true ∨ r.id < s.next ∨ 64 ≤ s.parts.length then (s, false)
  else (⟨s.parts ++ [⟨r.id, r.path, r.sum, r.size, 0⟩], r.id + 1⟩, true)
set_option maxHeartbeats 4000000 in
set_option maxRecDepth 100000 in
theorem begins_calls (A : Option Addr) (c : Nat) (l : List Pt) (nx : Int) (r : Rc) (B : Nat) (w : World) (hO : Kd.R kPt 75 w B (fun _ => True) (.slice A l.length c) l) (hlen : l.length ≤ 64) (hB : B ≤ w.heap.size) (hid : r.id ≤ 2199023255552) (hid0 : -9223372036854775808 ≤ r.id) :
    Calls Tryd.prog 82 #[.agg #[.slice A l.length c, .int .i64 nx], .agg (rcL r).toArray] w fun e w' => ∃ v : Value, e = .returned (.tuple #[.agg #[v, .int .i64 (beginP ⟨l, nx⟩ r).1.next], .bool (beginP ⟨l, nx⟩ r).2]) ∧ Kd.R kPt 75 w' B (fun _ => True) v (beginP ⟨l, nx⟩ r).1.parts ∧ Below B w w' := by
  obtain ⟨hl0, hc, hC⟩ := Kd.R_reads' hO
  clear hl0
  have HC := Aside0.mk hC
  have HO := Aside0.mk hO
  clear hO hC
  have HNE := Aside0.mk (show ∀ k, w.heap.size ≤ k → (Value.slice A l.length c).ownBlock ≠ some k from fun k hk e => by have := Kd.R_lt HO.out k e; omega)
  have hw1 : IntKind.i64.wrap (r.id + 1) = r.id + 1 := IntWalk.i64_in _ (by omega)
  have HF := Aside0.mk (show findP l r.path = ((findP l r.path).1, (findP l r.path).2) from rfl)
  obtain ⟨q, hq⟩ : ∃ q, (findP l r.path).1 = q := ⟨_, rfl⟩
  by_cases hf : (findP l r.path).2 = true
  · have HP := Aside0.mk (show beginP ⟨l, nx⟩ r = (⟨l, nx⟩, false) by unfold beginP; rw [if_pos (.inl hf)])
    rw [hf, hq] at HF
    clear hf hq
    go_enter Tryd.func82, Tryd.ntmps82
    go_wp2_with (go_at_call 33; refine (Find_calls A c l nx r.path _ (Kd.C_below HC.out ?_) (Nat.le_trans hlen (by decide))).mono ?_; (exact below_alloc (below_alloc (below_alloc (Below.refl _ _) _) _) _); rintro e w2 ⟨rfl, hb2⟩; rw [HF.out]; obtain ⟨hcl, hfz⟩ := bcell hb2; have z0 : ¬ (w.heap.size = w2.heap.size) := (by have h_ := hb2.size; simp at h_; omega); have y0 : w.heap.size < w2.heap.size := (by have h_ := hb2.size; simp at h_; omega); have c0_0 : w2.cell? ⟨w.heap.size, 0, none⟩ = some (.slice A l.length c) := (by rw [hcl _ _ (by simp; try omega)]; first | (go_simp; done) | (simp [*]; done)); have f0_0 : w2.frozen? ⟨w.heap.size, 0, none⟩ = false := (by rw [hfz _ _ (by simp; try omega)]; first | (go_simp; done) | (simp [*]; done)); have c0_1 : w2.cell? ⟨w.heap.size, 1, none⟩ = some (.int .i64 nx) := (by rw [hcl _ _ (by simp; try omega)]; first | (go_simp; done) | (simp [*]; done)); have f0_1 : w2.frozen? ⟨w.heap.size, 1, none⟩ = false := (by rw [hfz _ _ (by simp; try omega)]; first | (go_simp; done) | (simp [*]; done)); have z1 : ¬ (w.heap.size + 1 = w2.heap.size) := (by have h_ := hb2.size; simp at h_; omega); have y1 : w.heap.size + 1 < w2.heap.size := (by have h_ := hb2.size; simp at h_; omega); have c1_1 : w2.cell? ⟨w.heap.size + 1, 1, none⟩ = some (.int .i64 r.id) := (by rw [hcl _ _ (by simp; try omega)]; first | (go_simp; done) | (simp [*]; done)); have c1_2 : w2.cell? ⟨w.heap.size + 1, 2, none⟩ = some (.string r.path) := (by rw [hcl _ _ (by simp; try omega)]; first | (go_simp; done) | (simp [*]; done)); have c1_35 : w2.cell? ⟨w.heap.size + 1, 35, none⟩ = some (.int .i64 r.size) := (by rw [hcl _ _ (by simp; try omega)]; first | (go_simp; done) | (simp [*]; done)); have z2 : ¬ (w.heap.size + 1 + 1 = w2.heap.size) := (by have h_ := hb2.size; simp at h_; omega); have y2 : w.heap.size + 1 + 1 < w2.heap.size := (by have h_ := hb2.size; simp at h_; omega); have c2_0 : w2.cell? ⟨w.heap.size + 1 + 1, 0, none⟩ = some (.slice none 0 0) := (by rw [hcl _ _ (by simp; try omega)]; first | (go_simp; done) | (simp [*]; done)); have f2_0 : w2.frozen? ⟨w.heap.size + 1 + 1, 0, none⟩ = false := (by rw [hfz _ _ (by simp; try omega)]; first | (go_simp; done) | (simp [*]; done)); have c2_1 : w2.cell? ⟨w.heap.size + 1 + 1, 1, none⟩ = some (.int .i64 0) := (by rw [hcl _ _ (by simp; try omega)]; first | (go_simp; done) | (simp [*]; done)); have f2_1 : w2.frozen? ⟨w.heap.size + 1 + 1, 1, none⟩ = false := (by rw [hfz _ _ (by simp; try omega)]; first | (go_simp; done) | (simp [*]; done)); have r0 : rowAt w2 ⟨w.heap.size + 1, 3, none⟩ 32 = some (hsL r.sum) := (by rw [rowAt_below hb2 (by simp; try omega)]; first | (go_simp; done) | (simp [*]; done)); have HO2 := Aside0.mk (Kd.R_below (Kd.R_alloc (Kd.R_alloc (Kd.R_alloc HO.out _) _) _) hb2); have HB2 := Aside0.mk (Below.trans (below_alloc (below_alloc (below_alloc (Below.refl w.heap.size w) _) _) _) (hb2.mono (by simp; omega))); clear hb2 hcl hfz)
    refine bodyPost_ret (v := .tuple #[.agg #[.slice A l.length c, .int .i64 nx], .bool false]) (by simp [results, Tryd.results82, go_sem, *]) rfl ⟨_, by rw [HP.out], ?_, ?_⟩
    · rw [HP.out]; refine Kd.R_below HO.out ?_; have hs2 := HB2.out.size; (repeat' (first | exact HB2.out | (with_reducible refine below_setCell ?_ ?_ _) | (with_reducible refine below_setRow ?_ ?_ _) | (with_reducible refine Below.alloc ?_ ?_ _) | (with_reducible refine below_drew ?_) | (with_reducible exact Below.refl _ _) | omega | (simp; done) | (simp; omega)))
    · refine Below.mono ?_ hB; have hs2 := HB2.out.size; (repeat' (first | exact HB2.out | (with_reducible refine below_setCell ?_ ?_ _) | (with_reducible refine below_setRow ?_ ?_ _) | (with_reducible refine Below.alloc ?_ ?_ _) | (with_reducible refine below_drew ?_) | (with_reducible exact Below.refl _ _) | omega | (simp; done) | (simp; omega)))
  · have hf0 : (findP l r.path).2 = false := by simpa using hf
    rw [hf0, hq] at HF
    by_cases h1 : r.id < nx
    · have HP := Aside0.mk (show beginP ⟨l, nx⟩ r = (⟨l, nx⟩, false) by unfold beginP; rw [if_pos (.inr (.inl h1))])
      clear hf hf0 hq
      go_enter Tryd.func82, Tryd.ntmps82
      go_wp2_with (go_at_call 33; refine (Find_calls A c l nx r.path _ (Kd.C_below HC.out ?_) (Nat.le_trans hlen (by decide))).mono ?_; (exact below_alloc (below_alloc (below_alloc (Below.refl _ _) _) _) _); rintro e w2 ⟨rfl, hb2⟩; rw [HF.out]; obtain ⟨hcl, hfz⟩ := bcell hb2; have z0 : ¬ (w.heap.size = w2.heap.size) := (by have h_ := hb2.size; simp at h_; omega); have y0 : w.heap.size < w2.heap.size := (by have h_ := hb2.size; simp at h_; omega); have c0_0 : w2.cell? ⟨w.heap.size, 0, none⟩ = some (.slice A l.length c) := (by rw [hcl _ _ (by simp; try omega)]; first | (go_simp; done) | (simp [*]; done)); have f0_0 : w2.frozen? ⟨w.heap.size, 0, none⟩ = false := (by rw [hfz _ _ (by simp; try omega)]; first | (go_simp; done) | (simp [*]; done)); have c0_1 : w2.cell? ⟨w.heap.size, 1, none⟩ = some (.int .i64 nx) := (by rw [hcl _ _ (by simp; try omega)]; first | (go_simp; done) | (simp [*]; done)); have f0_1 : w2.frozen? ⟨w.heap.size, 1, none⟩ = false := (by rw [hfz _ _ (by simp; try omega)]; first | (go_simp; done) | (simp [*]; done)); have z1 : ¬ (w.heap.size + 1 = w2.heap.size) := (by have h_ := hb2.size; simp at h_; omega); have y1 : w.heap.size + 1 < w2.heap.size := (by have h_ := hb2.size; simp at h_; omega); have c1_1 : w2.cell? ⟨w.heap.size + 1, 1, none⟩ = some (.int .i64 r.id) := (by rw [hcl _ _ (by simp; try omega)]; first | (go_simp; done) | (simp [*]; done)); have c1_2 : w2.cell? ⟨w.heap.size + 1, 2, none⟩ = some (.string r.path) := (by rw [hcl _ _ (by simp; try omega)]; first | (go_simp; done) | (simp [*]; done)); have c1_35 : w2.cell? ⟨w.heap.size + 1, 35, none⟩ = some (.int .i64 r.size) := (by rw [hcl _ _ (by simp; try omega)]; first | (go_simp; done) | (simp [*]; done)); have z2 : ¬ (w.heap.size + 1 + 1 = w2.heap.size) := (by have h_ := hb2.size; simp at h_; omega); have y2 : w.heap.size + 1 + 1 < w2.heap.size := (by have h_ := hb2.size; simp at h_; omega); have c2_0 : w2.cell? ⟨w.heap.size + 1 + 1, 0, none⟩ = some (.slice none 0 0) := (by rw [hcl _ _ (by simp; try omega)]; first | (go_simp; done) | (simp [*]; done)); have f2_0 : w2.frozen? ⟨w.heap.size + 1 + 1, 0, none⟩ = false := (by rw [hfz _ _ (by simp; try omega)]; first | (go_simp; done) | (simp [*]; done)); have c2_1 : w2.cell? ⟨w.heap.size + 1 + 1, 1, none⟩ = some (.int .i64 0) := (by rw [hcl _ _ (by simp; try omega)]; first | (go_simp; done) | (simp [*]; done)); have f2_1 : w2.frozen? ⟨w.heap.size + 1 + 1, 1, none⟩ = false := (by rw [hfz _ _ (by simp; try omega)]; first | (go_simp; done) | (simp [*]; done)); have r0 : rowAt w2 ⟨w.heap.size + 1, 3, none⟩ 32 = some (hsL r.sum) := (by rw [rowAt_below hb2 (by simp; try omega)]; first | (go_simp; done) | (simp [*]; done)); have HO2 := Aside0.mk (Kd.R_below (Kd.R_alloc (Kd.R_alloc (Kd.R_alloc HO.out _) _) _) hb2); have HB2 := Aside0.mk (Below.trans (below_alloc (below_alloc (below_alloc (Below.refl w.heap.size w) _) _) _) (hb2.mono (by simp; omega))); clear hb2 hcl hfz)
      refine bodyPost_ret (v := .tuple #[.agg #[.slice A l.length c, .int .i64 nx], .bool false]) (by simp [results, Tryd.results82, go_sem, *]) rfl ⟨_, by rw [HP.out], ?_, ?_⟩
      · rw [HP.out]; refine Kd.R_below HO.out ?_; have hs2 := HB2.out.size; (repeat' (first | exact HB2.out | (with_reducible refine below_setCell ?_ ?_ _) | (with_reducible refine below_setRow ?_ ?_ _) | (with_reducible refine Below.alloc ?_ ?_ _) | (with_reducible refine below_drew ?_) | (with_reducible exact Below.refl _ _) | omega | (simp; done) | (simp; omega)))
      · refine Below.mono ?_ hB; have hs2 := HB2.out.size; (repeat' (first | exact HB2.out | (with_reducible refine below_setCell ?_ ?_ _) | (with_reducible refine below_setRow ?_ ?_ _) | (with_reducible refine Below.alloc ?_ ?_ _) | (with_reducible refine below_drew ?_) | (with_reducible exact Below.refl _ _) | omega | (simp; done) | (simp; omega)))
    · by_cases h2 : 64 ≤ l.length
      · have HP := Aside0.mk (show beginP ⟨l, nx⟩ r = (⟨l, nx⟩, false) by unfold beginP; rw [if_pos (.inr (.inr h2))])
        have h3 : (64 : Int) ≤ (l.length : Int) := by omega
        clear hf hf0 hq
        go_enter Tryd.func82, Tryd.ntmps82
        go_wp2_with (go_at_call 33; refine (Find_calls A c l nx r.path _ (Kd.C_below HC.out ?_) (Nat.le_trans hlen (by decide))).mono ?_; (exact below_alloc (below_alloc (below_alloc (Below.refl _ _) _) _) _); rintro e w2 ⟨rfl, hb2⟩; rw [HF.out]; obtain ⟨hcl, hfz⟩ := bcell hb2; have z0 : ¬ (w.heap.size = w2.heap.size) := (by have h_ := hb2.size; simp at h_; omega); have y0 : w.heap.size < w2.heap.size := (by have h_ := hb2.size; simp at h_; omega); have c0_0 : w2.cell? ⟨w.heap.size, 0, none⟩ = some (.slice A l.length c) := (by rw [hcl _ _ (by simp; try omega)]; first | (go_simp; done) | (simp [*]; done)); have f0_0 : w2.frozen? ⟨w.heap.size, 0, none⟩ = false := (by rw [hfz _ _ (by simp; try omega)]; first | (go_simp; done) | (simp [*]; done)); have c0_1 : w2.cell? ⟨w.heap.size, 1, none⟩ = some (.int .i64 nx) := (by rw [hcl _ _ (by simp; try omega)]; first | (go_simp; done) | (simp [*]; done)); have f0_1 : w2.frozen? ⟨w.heap.size, 1, none⟩ = false := (by rw [hfz _ _ (by simp; try omega)]; first | (go_simp; done) | (simp [*]; done)); have z1 : ¬ (w.heap.size + 1 = w2.heap.size) := (by have h_ := hb2.size; simp at h_; omega); have y1 : w.heap.size + 1 < w2.heap.size := (by have h_ := hb2.size; simp at h_; omega); have c1_1 : w2.cell? ⟨w.heap.size + 1, 1, none⟩ = some (.int .i64 r.id) := (by rw [hcl _ _ (by simp; try omega)]; first | (go_simp; done) | (simp [*]; done)); have c1_2 : w2.cell? ⟨w.heap.size + 1, 2, none⟩ = some (.string r.path) := (by rw [hcl _ _ (by simp; try omega)]; first | (go_simp; done) | (simp [*]; done)); have c1_35 : w2.cell? ⟨w.heap.size + 1, 35, none⟩ = some (.int .i64 r.size) := (by rw [hcl _ _ (by simp; try omega)]; first | (go_simp; done) | (simp [*]; done)); have z2 : ¬ (w.heap.size + 1 + 1 = w2.heap.size) := (by have h_ := hb2.size; simp at h_; omega); have y2 : w.heap.size + 1 + 1 < w2.heap.size := (by have h_ := hb2.size; simp at h_; omega); have c2_0 : w2.cell? ⟨w.heap.size + 1 + 1, 0, none⟩ = some (.slice none 0 0) := (by rw [hcl _ _ (by simp; try omega)]; first | (go_simp; done) | (simp [*]; done)); have f2_0 : w2.frozen? ⟨w.heap.size + 1 + 1, 0, none⟩ = false := (by rw [hfz _ _ (by simp; try omega)]; first | (go_simp; done) | (simp [*]; done)); have c2_1 : w2.cell? ⟨w.heap.size + 1 + 1, 1, none⟩ = some (.int .i64 0) := (by rw [hcl _ _ (by simp; try omega)]; first | (go_simp; done) | (simp [*]; done)); have f2_1 : w2.frozen? ⟨w.heap.size + 1 + 1, 1, none⟩ = false := (by rw [hfz _ _ (by simp; try omega)]; first | (go_simp; done) | (simp [*]; done)); have r0 : rowAt w2 ⟨w.heap.size + 1, 3, none⟩ 32 = some (hsL r.sum) := (by rw [rowAt_below hb2 (by simp; try omega)]; first | (go_simp; done) | (simp [*]; done)); have HO2 := Aside0.mk (Kd.R_below (Kd.R_alloc (Kd.R_alloc (Kd.R_alloc HO.out _) _) _) hb2); have HB2 := Aside0.mk (Below.trans (below_alloc (below_alloc (below_alloc (Below.refl w.heap.size w) _) _) _) (hb2.mono (by simp; omega))); clear hb2 hcl hfz)
        refine bodyPost_ret (v := .tuple #[.agg #[.slice A l.length c, .int .i64 nx], .bool false]) (by simp [results, Tryd.results82, go_sem, *]) rfl ⟨_, by rw [HP.out], ?_, ?_⟩
        · rw [HP.out]; refine Kd.R_below HO.out ?_; have hs2 := HB2.out.size; (repeat' (first | exact HB2.out | (with_reducible refine below_setCell ?_ ?_ _) | (with_reducible refine below_setRow ?_ ?_ _) | (with_reducible refine Below.alloc ?_ ?_ _) | (with_reducible refine below_drew ?_) | (with_reducible exact Below.refl _ _) | omega | (simp; done) | (simp; omega)))
        · refine Below.mono ?_ hB; have hs2 := HB2.out.size; (repeat' (first | exact HB2.out | (with_reducible refine below_setCell ?_ ?_ _) | (with_reducible refine below_setRow ?_ ?_ _) | (with_reducible refine Below.alloc ?_ ?_ _) | (with_reducible refine below_drew ?_) | (with_reducible exact Below.refl _ _) | omega | (simp; done) | (simp; omega)))
      · have HP := Aside0.mk (show beginP ⟨l, nx⟩ r = (⟨l ++ [⟨r.id, r.path, r.sum, r.size, 0⟩], r.id + 1⟩, true) by unfold beginP; rw [if_neg (fun h => h.elim hf (fun h => h.elim h1 h2))])
        have h3 : ¬ (64 : Int) ≤ (l.length : Int) := by omega
        clear hf hf0 hq
        go_enter Tryd.func82, Tryd.ntmps82
        go_wp2_with (first | (go_at_call 33; refine (Find_calls A c l nx r.path _ (Kd.C_below HC.out ?_) (Nat.le_trans hlen (by decide))).mono ?_; (exact below_alloc (below_alloc (below_alloc (Below.refl _ _) _) _) _); rintro e w2 ⟨rfl, hb2⟩; rw [HF.out]; obtain ⟨hcl, hfz⟩ := bcell hb2; have z0 : ¬ (w.heap.size = w2.heap.size) := (by have h_ := hb2.size; simp at h_; omega); have y0 : w.heap.size < w2.heap.size := (by have h_ := hb2.size; simp at h_; omega); have c0_0 : w2.cell? ⟨w.heap.size, 0, none⟩ = some (.slice A l.length c) := (by rw [hcl _ _ (by simp; try omega)]; first | (go_simp; done) | (simp [*]; done)); have f0_0 : w2.frozen? ⟨w.heap.size, 0, none⟩ = false := (by rw [hfz _ _ (by simp; try omega)]; first | (go_simp; done) | (simp [*]; done)); have c0_1 : w2.cell? ⟨w.heap.size, 1, none⟩ = some (.int .i64 nx) := (by rw [hcl _ _ (by simp; try omega)]; first | (go_simp; done) | (simp [*]; done)); have f0_1 : w2.frozen? ⟨w.heap.size, 1, none⟩ = false := (by rw [hfz _ _ (by simp; try omega)]; first | (go_simp; done) | (simp [*]; done)); have z1 : ¬ (w.heap.size + 1 = w2.heap.size) := (by have h_ := hb2.size; simp at h_; omega); have y1 : w.heap.size + 1 < w2.heap.size := (by have h_ := hb2.size; simp at h_; omega); have c1_1 : w2.cell? ⟨w.heap.size + 1, 1, none⟩ = some (.int .i64 r.id) := (by rw [hcl _ _ (by simp; try omega)]; first | (go_simp; done) | (simp [*]; done)); have c1_2 : w2.cell? ⟨w.heap.size + 1, 2, none⟩ = some (.string r.path) := (by rw [hcl _ _ (by simp; try omega)]; first | (go_simp; done) | (simp [*]; done)); have c1_35 : w2.cell? ⟨w.heap.size + 1, 35, none⟩ = some (.int .i64 r.size) := (by rw [hcl _ _ (by simp; try omega)]; first | (go_simp; done) | (simp [*]; done)); have z2 : ¬ (w.heap.size + 1 + 1 = w2.heap.size) := (by have h_ := hb2.size; simp at h_; omega); have y2 : w.heap.size + 1 + 1 < w2.heap.size := (by have h_ := hb2.size; simp at h_; omega); have c2_0 : w2.cell? ⟨w.heap.size + 1 + 1, 0, none⟩ = some (.slice none 0 0) := (by rw [hcl _ _ (by simp; try omega)]; first | (go_simp; done) | (simp [*]; done)); have f2_0 : w2.frozen? ⟨w.heap.size + 1 + 1, 0, none⟩ = false := (by rw [hfz _ _ (by simp; try omega)]; first | (go_simp; done) | (simp [*]; done)); have c2_1 : w2.cell? ⟨w.heap.size + 1 + 1, 1, none⟩ = some (.int .i64 0) := (by rw [hcl _ _ (by simp; try omega)]; first | (go_simp; done) | (simp [*]; done)); have f2_1 : w2.frozen? ⟨w.heap.size + 1 + 1, 1, none⟩ = false := (by rw [hfz _ _ (by simp; try omega)]; first | (go_simp; done) | (simp [*]; done)); have r0 : rowAt w2 ⟨w.heap.size + 1, 3, none⟩ 32 = some (hsL r.sum) := (by rw [rowAt_below hb2 (by simp; try omega)]; first | (go_simp; done) | (simp [*]; done)); have HO2 := Aside0.mk (Kd.R_below (Kd.R_alloc (Kd.R_alloc (Kd.R_alloc HO.out _) _) _) hb2); have HB2 := Aside0.mk (Below.trans (below_alloc (below_alloc (below_alloc (Below.refl w.heap.size w) _) _) _) (hb2.mono (by simp; omega))); clear hb2 hcl hfz) | ((with_reducible refine gate_builtin (b := .append) (xs := #[.tmp 31, .tmp 41]) rfl ?_); at_builtin; refine Kd.R_append kPt (w0 := w) B rfl (.tmp 31) (.tmp 41) 58 75 _ 72 rfl Tryd.underlying58 infoPt zcPt (by decide) (by decide) (.slice A l.length c) l ⟨r.id, r.path, r.sum, r.size, 0⟩ (ptL ⟨r.id, r.path, r.sum, r.size, 0⟩) (fun _ => True) (fun _ => False) rfl ?aX rfl (fun _ hk => hk.elim) (fun _ _ => trivial) (Kd.R_alloc HO2.out _) ?aB ?aS ?aL ?_; (case aX => first | rfl | (go_simp; done) | (simp; done)); (case aB => exact (HB2.out.mono hB).alloc (by omega) _); (case aS => simp; omega); (case aL => omega); intro v3 w3 ho3 hb3 hg3 hat3; have HNE3 := Aside0.mk (show ∀ k, w.heap.size ≤ k → k ≤ w.heap.size + 2 → v3.ownBlock ≠ some k from fun k hk hk2 e => by rcases hat3 with h | ⟨b, h, h2⟩; (exact HNE.out k hk (h.symm.trans e)); (rw [e] at h; injection h with h; simp at h2; omega)); have cg0_0 : w3.cell? ⟨w.heap.size, 0, none⟩ = some (.slice A l.length c) := grown_cell hg3 (HNE.out _ (by omega)) (by first | (go_simp; done) | (simp [*]; done)); have fg0_0 : w3.frozen? ⟨w.heap.size, 0, none⟩ = false := grown_froz hg3 (HNE.out _ (by omega)) (by simp; omega) (by first | (go_simp; done) | (simp [*]; done)); have cg0_1 : w3.cell? ⟨w.heap.size, 1, none⟩ = some (.int .i64 nx) := grown_cell hg3 (HNE.out _ (by omega)) (by first | (go_simp; done) | (simp [*]; done)); have fg0_1 : w3.frozen? ⟨w.heap.size, 1, none⟩ = false := grown_froz hg3 (HNE.out _ (by omega)) (by simp; omega) (by first | (go_simp; done) | (simp [*]; done)); have cg1_1 : w3.cell? ⟨w.heap.size + 1, 1, none⟩ = some (.int .i64 r.id) := grown_cell hg3 (HNE.out _ (by omega)) (by first | (go_simp; done) | (simp [*]; done)); have cg1_2 : w3.cell? ⟨w.heap.size + 1, 2, none⟩ = some (.string r.path) := grown_cell hg3 (HNE.out _ (by omega)) (by first | (go_simp; done) | (simp [*]; done)); have cg1_35 : w3.cell? ⟨w.heap.size + 1, 35, none⟩ = some (.int .i64 r.size) := grown_cell hg3 (HNE.out _ (by omega)) (by first | (go_simp; done) | (simp [*]; done)); have cg2_0 : w3.cell? ⟨w.heap.size + 1 + 1, 0, none⟩ = some (.slice none 0 0) := grown_cell hg3 (HNE.out _ (by omega)) (by first | (go_simp; done) | (simp [*]; done)); have fg2_0 : w3.frozen? ⟨w.heap.size + 1 + 1, 0, none⟩ = false := grown_froz hg3 (HNE.out _ (by omega)) (by simp; omega) (by first | (go_simp; done) | (simp [*]; done)); have cg2_1 : w3.cell? ⟨w.heap.size + 1 + 1, 1, none⟩ = some (.int .i64 0) := grown_cell hg3 (HNE.out _ (by omega)) (by first | (go_simp; done) | (simp [*]; done)); have fg2_1 : w3.frozen? ⟨w.heap.size + 1 + 1, 1, none⟩ = false := grown_froz hg3 (HNE.out _ (by omega)) (by simp; omega) (by first | (go_simp; done) | (simp [*]; done)); obtain ⟨A3, c3, rfl⟩ := Kd.R_slice ho3; have HO3 := Aside0.mk ho3; have HB3 := Aside0.mk hb3; have hs3 := Aside0.mk hg3.size; clear ho3 hb3 hg3 hat3))
        rw [HP.out]
        refine bodyPost_ret (v := .tuple #[.agg #[.slice A3 (l ++ [(⟨r.id, r.path, r.sum, r.size, 0⟩ : Pt)]).length c3, .int .i64 (r.id + 1)], .bool true]) (by simp [results, Tryd.results82, go_sem, *]) rfl ⟨_, rfl, ?_, ?_⟩
        · refine flat_keep (flat_keep (flat_keep (flat_keep HO3.out ?_) ?_) ?_) ?_ <;> exact HNE3.out _ (by omega) (by omega)
        · have hs3 := hs3.out; simp at hs3; (repeat' (first | exact HB3.out | (with_reducible refine below_setCell ?_ ?_ _) | (with_reducible refine below_setRow ?_ ?_ _) | (with_reducible refine Below.alloc ?_ ?_ _) | (with_reducible refine below_drew ?_) | (with_reducible exact Below.refl _ _) | omega | (simp; done) | (simp; omega)))
end Go.Proofs.YtiohgpcbdefokaaDoor.B
/- record.Step: what a record makes of a state. No condition. -/
namespace Go.Proofs.YtiohgpcbdefokaaDoor.B
open Go.RowKit Go.Proofs.YtiohgpcbdefokaaDoorW.PrintWords Go.Proofs.YtiohgpcbdefokaaDoor.RowLaws
attribute [local go_sem ↓ high] lvO_hs ldO_hs stO_hs lvO_pt ldO_pt stO_pt zero_pt eqA_pt lvO_ptR ldO_ptR stO_ptR zero_ptR eqA_ptR lvO_rc ldO_rc stO_rc zero_rc eqA_rc lvO_rcR ldO_rcR stO_rcR zero_rcR eqA_rcR lvO_tk ldO_tk stO_tk zero_tk eqA_tk lvO_tkR ldO_tkR stO_tkR zero_tkR eqA_tkR lvO_it ldO_it stO_it zero_it eqA_it blO_pt blO_ptR blO_rc blO_rcR blO_tk blO_tkR blO_it bsO_pt bsO_ptR bsO_rc bsO_rcR bsO_it
attribute [local go_sem high] rowAt_setCell rowAt_setRow cell_setRow_ne isRow_setRow_ne rowAt_alloc rowAt_drew isRow_alloc isRow_drew isRow_setCell rowRun_some okL_hs ldV_hs ldA_hs stA_hs setRow_alloc get_pt_id get_pt_path cut_pt_sum get_pt_size get_pt_off cut_pt okL_pt size_pt lenb_pt eta_pt ldV_pt ldA_pt stA_pt ldV_ptR ldA_ptR stA_ptR get_rc_kind get_rc_id get_rc_path cut_rc_sum get_rc_size get_rc_off cut_rc okL_rc size_rc lenb_rc eta_rc ldV_rc ldA_rc stA_rc ldV_rcR ldA_rcR stA_rcR get_tk_path cut_tk_sum get_tk_size get_tk_off cut_tk_old cut_tk okL_tk size_tk lenb_tk eta_tk ldV_tk ldA_tk stA_tk ldV_tkR ldA_tkR stA_tkR get_it_path get_it_dir get_it_size cut_it_sum cut_it okL_it size_it lenb_it eta_it ldV_it ldA_it stA_it bld_pt_01234 bld_pt_0123 bld_pt_z bld_ptR_01234 bld_ptR_0123 bld_ptR_z bld_rc_012345 bld_rc_015 bld_rc_01 bld_rc_z bld_rc_01234 bld_rc_24 bld_rc_05 bld_rc_0 bld_rcR_012345 bld_rcR_015 bld_rcR_01 bld_rcR_z bld_rcR_01234 bld_rcR_24 bld_rcR_05 bld_rcR_0 bld_tk_01234 bld_tk_0 bld_tk_z bld_tkR_01234 bld_tkR_0 bld_tkR_z bld_it_0123 bld_it_023 bld_it_01 bld_it_0 bld_it_z bs0_pt bs1_pt bs0_ptR bs1_ptR bs0_rc bs1_rc bs0_rcR bs1_rcR bs0_it bs1_it
theorem ptL_off (p : Pt) (x : Int) : (ptL p).take 35 ++ [.int .i64 x] ++ (ptL p).drop 36 = ptL { p with off := x } := by
  obtain ⟨b0, b1, b2, b3, b4, b5, b6, b7, b8, b9, b10, b11, b12, b13, b14, b15, b16, b17, b18, b19, b20, b21, b22, b23, b24, b25, b26, b27, b28, b29, b30, b31, e0⟩ := hs_lit p.sum
  simp [ptL, e0]
theorem part_cells {e : Nat} {W : World} {B c i g : Nat} {ok : Nat → Prop} {l : List Pt} {p : Pt} (h : Kd.R kPt e W B ok (.slice (some ⟨g, 0, none⟩) l.length c) l) (hx : l[i]? = some p) : W.cell? ⟨g, i * 36 + 34, none⟩ = some (.int .i64 p.size) ∧ W.cell? ⟨g, i * 36 + 35, none⟩ = some (.int .i64 p.off) := by
  have hi := List.getElem?_eq_some_iff.1 hx
  obtain ⟨b, o, hA, _, hr⟩ := flat_at (Kd.R_reads' h).2.2 (by decide) (Nat.lt_of_le_of_lt (Nat.zero_le _) hi.1)
  injection hA with hA
  injection hA with hb ho
  subst hb ho
  have h2 := (hr i hi.1).2
  rw [hi.2] at h2
  have h3 := h2 34 _ (get_pt_size p)
  have h4 := h2 35 _ (get_pt_off p)
  rw [Nat.zero_add] at h3 h4
  exact ⟨h3, h4⟩
/-- What a record makes of a state. -/
def stepP (s : St) (r : Rc) : St × Bool :=
  if r.kind = 0 then beginP s r
  else if r.kind = 4 then (if r.id < s.next then (s, false) else (⟨s.parts, r.id + 1⟩, true))
  else if r.kind = 1 then
    match s.parts.findIdx? (fun x => decide (x.id = r.id)) with
    | none => (s, false)
    | some i => match s.parts[i]? with
      | none => (s, false)
      | some p => if r.off < p.off ∨ p.size < r.off then (s, false) else (⟨s.parts.set i { p with off := r.off }, s.next⟩, true)
  else if r.kind = 2 ∨ r.kind = 3 then
    match s.parts.findIdx? (fun x => decide (x.id = r.id)) with
    | none => (s, false)
    | some i => (⟨s.parts.eraseIdx i, s.next⟩, true)
  else (s, false)
set_option linter.unusedVariables false in
set_option maxHeartbeats 8000000 in
set_option maxRecDepth 100000 in
theorem Step_other (A : Option Addr) (c : Nat) (l : List Pt) (nx : Int) (r : Rc) (w : World) (hC : Kd.C kPt w A l.length l) (hc : l.length ≤ c) (hlen : l.length ≤ 64) (hid : r.id ≤ 2199023255552) (hid0 : -9223372036854775808 ≤ r.id) (h0 : ¬ r.kind = 0) (h1 : ¬ r.kind = 1) (h2 : ¬ r.kind = 2) (h3 : ¬ r.kind = 3) (h4 : ¬ r.kind = 4) :
    Calls Tryd.prog 27 #[.agg #[.slice A l.length c, .int .i64 nx], .agg (rcL r).toArray] w fun e w' => ∃ v : Value, e = .returned (.tuple #[.agg #[v, .int .i64 (stepP ⟨l, nx⟩ r).1.next], .bool (stepP ⟨l, nx⟩ r).2]) ∧ Kd.R kPt 75 w' w.heap.size (fun _ => True) v (stepP ⟨l, nx⟩ r).1.parts ∧ Below w.heap.size w w' := by
  have HC := Aside0.mk hC
  clear hC
  have HP := Aside0.mk (show stepP ⟨l, nx⟩ r = (⟨l, nx⟩, false) by simp [stepP, *])
  go_enter Tryd.func27, Tryd.ntmps27
  go_wp2_with (first | (go_at_call 79; refine (ownS_calls A c l nx _ (Kd.C_below HC.out ?_) hc (Nat.le_trans hlen (by decide))).mono ?_; (exact below_alloc (below_alloc (below_alloc (Below.refl _ _) _) _) _); rintro e w2 ⟨v, rfl, ho, hb2⟩; obtain ⟨A2, c2, rfl⟩ := Kd.R_slice ho; obtain ⟨hcl, hfz⟩ := bcell hb2; have z0 : ¬ (w.heap.size = w2.heap.size) := (by have h_ := hb2.size; simp at h_; omega); have y0 : w.heap.size < w2.heap.size := (by have h_ := hb2.size; simp at h_; omega); have c0_0 : w2.cell? ⟨w.heap.size, 0, none⟩ = some (.slice A l.length c) := (by rw [hcl _ _ (by first | omega | (simp; done) | (simp; omega))]; first | (go_simp; done) | (simp [*]; done) | (simp [go_sem, *]; done)); have f0_0 : w2.frozen? ⟨w.heap.size, 0, none⟩ = false := (by rw [hfz _ _ (by first | omega | (simp; done) | (simp; omega))]; first | (go_simp; done) | (simp [*]; done) | (simp [go_sem, *]; done)); have c0_1 : w2.cell? ⟨w.heap.size, 1, none⟩ = some (.int .i64 nx) := (by rw [hcl _ _ (by first | omega | (simp; done) | (simp; omega))]; first | (go_simp; done) | (simp [*]; done) | (simp [go_sem, *]; done)); have f0_1 : w2.frozen? ⟨w.heap.size, 1, none⟩ = false := (by rw [hfz _ _ (by first | omega | (simp; done) | (simp; omega))]; first | (go_simp; done) | (simp [*]; done) | (simp [go_sem, *]; done)); have z1 : ¬ (w.heap.size + 1 = w2.heap.size) := (by have h_ := hb2.size; simp at h_; omega); have y1 : w.heap.size + 1 < w2.heap.size := (by have h_ := hb2.size; simp at h_; omega); have c1_0 : w2.cell? ⟨w.heap.size + 1, 0, none⟩ = some (.int .u8 r.kind) := (by rw [hcl _ _ (by first | omega | (simp; done) | (simp; omega))]; first | (go_simp; done) | (simp [*]; done) | (simp [go_sem, *]; done)); have c1_1 : w2.cell? ⟨w.heap.size + 1, 1, none⟩ = some (.int .i64 r.id) := (by rw [hcl _ _ (by first | omega | (simp; done) | (simp; omega))]; first | (go_simp; done) | (simp [*]; done) | (simp [go_sem, *]; done)); have c1_36 : w2.cell? ⟨w.heap.size + 1, 36, none⟩ = some (.int .i64 r.off) := (by rw [hcl _ _ (by first | omega | (simp; done) | (simp; omega))]; first | (go_simp; done) | (simp [*]; done) | (simp [go_sem, *]; done)); have z2 : ¬ (w.heap.size + 1 + 1 = w2.heap.size) := (by have h_ := hb2.size; simp at h_; omega); have y2 : w.heap.size + 1 + 1 < w2.heap.size := (by have h_ := hb2.size; simp at h_; omega); have c2_0 : w2.cell? ⟨w.heap.size + 1 + 1, 0, none⟩ = some (.slice none 0 0) := (by rw [hcl _ _ (by first | omega | (simp; done) | (simp; omega))]; first | (go_simp; done) | (simp [*]; done) | (simp [go_sem, *]; done)); have f2_0 : w2.frozen? ⟨w.heap.size + 1 + 1, 0, none⟩ = false := (by rw [hfz _ _ (by first | omega | (simp; done) | (simp; omega))]; first | (go_simp; done) | (simp [*]; done) | (simp [go_sem, *]; done)); have c2_1 : w2.cell? ⟨w.heap.size + 1 + 1, 1, none⟩ = some (.int .i64 0) := (by rw [hcl _ _ (by first | omega | (simp; done) | (simp; omega))]; first | (go_simp; done) | (simp [*]; done) | (simp [go_sem, *]; done)); have f2_1 : w2.frozen? ⟨w.heap.size + 1 + 1, 1, none⟩ = false := (by rw [hfz _ _ (by first | omega | (simp; done) | (simp; omega))]; first | (go_simp; done) | (simp [*]; done) | (simp [go_sem, *]; done)); have r0 : rowAt w2 ⟨w.heap.size + 1, 0, none⟩ 37 = some (rcL r) := (by rw [rowAt_below hb2 (by first | omega | (simp; done) | (simp; omega))]; first | (go_simp; done) | (simp [*]; done) | (simp [go_sem, *]; done)); have HO2 := Aside0.mk (Kd.R_lower (base' := w.heap.size + 1 + 1 + 1) ho (by simp)); have HB2 := Aside0.mk (Below.trans (below_alloc (below_alloc (below_alloc (Below.refl w.heap.size w) _) _) _) (hb2.mono (by simp; omega))); clear hb2 hcl hfz ho) | (go_at_call 80; refine (idx_id A2 c2 l r.id _ _ (Kd.R_reads' (flat_put (flat_put HO2.out (by omega)) (by omega))).2.2 (Nat.le_trans hlen (by decide)) ?hc1).mono ?_; (case hc1 => first | (go_simp; done) | (simp [go_sem, *]; done)); rintro e w3 ⟨rfl, hb3⟩; obtain ⟨hcl, hfz⟩ := bcell hb3; have zi0 : ¬ (w.heap.size = w3.heap.size) := (by have h_ := hb3.size; simp at h_; omega); have yi0 : w.heap.size < w3.heap.size := (by have h_ := hb3.size; simp at h_; omega); have ci0_0 : w3.cell? ⟨w.heap.size, 0, none⟩ = some (.slice A2 l.length c2) := (by rw [hcl _ _ (by first | omega | (simp; done) | (simp; omega))]; first | (go_simp; done) | (simp [*]; done) | (simp [go_sem, *]; done)); have fi0_0 : w3.frozen? ⟨w.heap.size, 0, none⟩ = false := (by rw [hfz _ _ (by first | omega | (simp; done) | (simp; omega))]; first | (go_simp; done) | (simp [*]; done) | (simp [go_sem, *]; done)); have ci0_1 : w3.cell? ⟨w.heap.size, 1, none⟩ = some (.int .i64 nx) := (by rw [hcl _ _ (by first | omega | (simp; done) | (simp; omega))]; first | (go_simp; done) | (simp [*]; done) | (simp [go_sem, *]; done)); have fi0_1 : w3.frozen? ⟨w.heap.size, 1, none⟩ = false := (by rw [hfz _ _ (by first | omega | (simp; done) | (simp; omega))]; first | (go_simp; done) | (simp [*]; done) | (simp [go_sem, *]; done)); have zi1 : ¬ (w.heap.size + 1 = w3.heap.size) := (by have h_ := hb3.size; simp at h_; omega); have yi1 : w.heap.size + 1 < w3.heap.size := (by have h_ := hb3.size; simp at h_; omega); have ci1_0 : w3.cell? ⟨w.heap.size + 1, 0, none⟩ = some (.int .u8 r.kind) := (by rw [hcl _ _ (by first | omega | (simp; done) | (simp; omega))]; first | (go_simp; done) | (simp [*]; done) | (simp [go_sem, *]; done)); have ci1_1 : w3.cell? ⟨w.heap.size + 1, 1, none⟩ = some (.int .i64 r.id) := (by rw [hcl _ _ (by first | omega | (simp; done) | (simp; omega))]; first | (go_simp; done) | (simp [*]; done) | (simp [go_sem, *]; done)); have ci1_36 : w3.cell? ⟨w.heap.size + 1, 36, none⟩ = some (.int .i64 r.off) := (by rw [hcl _ _ (by first | omega | (simp; done) | (simp; omega))]; first | (go_simp; done) | (simp [*]; done) | (simp [go_sem, *]; done)); have zi2 : ¬ (w.heap.size + 1 + 1 = w3.heap.size) := (by have h_ := hb3.size; simp at h_; omega); have yi2 : w.heap.size + 1 + 1 < w3.heap.size := (by have h_ := hb3.size; simp at h_; omega); have ci2_0 : w3.cell? ⟨w.heap.size + 1 + 1, 0, none⟩ = some (.slice none 0 0) := (by rw [hcl _ _ (by first | omega | (simp; done) | (simp; omega))]; first | (go_simp; done) | (simp [*]; done) | (simp [go_sem, *]; done)); have fi2_0 : w3.frozen? ⟨w.heap.size + 1 + 1, 0, none⟩ = false := (by rw [hfz _ _ (by first | omega | (simp; done) | (simp; omega))]; first | (go_simp; done) | (simp [*]; done) | (simp [go_sem, *]; done)); have ci2_1 : w3.cell? ⟨w.heap.size + 1 + 1, 1, none⟩ = some (.int .i64 0) := (by rw [hcl _ _ (by first | omega | (simp; done) | (simp; omega))]; first | (go_simp; done) | (simp [*]; done) | (simp [go_sem, *]; done)); have fi2_1 : w3.frozen? ⟨w.heap.size + 1 + 1, 1, none⟩ = false := (by rw [hfz _ _ (by first | omega | (simp; done) | (simp; omega))]; first | (go_simp; done) | (simp [*]; done) | (simp [go_sem, *]; done)); have ri0 : rowAt w3 ⟨w.heap.size + 1, 0, none⟩ 37 = some (rcL r) := (by rw [rowAt_below hb3 (by first | omega | (simp; done) | (simp; omega))]; first | (go_simp; done) | (simp [*]; done) | (simp [go_sem, *]; done)); have HO3 := Aside0.mk (Kd.R_below (flat_put (flat_put HO2.out (by omega)) (by omega)) hb3); have HB3 := Aside0.mk (Below.trans (below_setCell (below_setCell HB2.out (by omega) _) (by omega) _) (hb3.mono (by simp; omega))); clear hb3 hcl hfz))
  refine bodyPost_ret (v := .tuple #[.agg #[.slice A2 l.length c2, .int .i64 nx], .bool false]) (by simp [results, Tryd.results27, go_sem, *]) rfl ⟨_, by rw [HP.out], ?_, ?_⟩
  · rw [HP.out]; exact Kd.R_lower (flat_put (flat_put (HO3.out) (by omega)) (by omega)) (by omega)
  · have hs3 := HB3.out.size; (repeat' (first | exact HB3.out | (with_reducible refine below_setCell ?_ ?_ _) | (with_reducible refine below_setRow ?_ ?_ _) | (with_reducible refine Below.alloc ?_ ?_ _) | (with_reducible refine below_drew ?_) | (with_reducible refine pw_below_drewN ?_ _) | (with_reducible exact Below.refl _ _) | omega | (simp; done) | (simp; omega)))
set_option linter.unusedVariables false in
set_option maxHeartbeats 8000000 in
set_option maxRecDepth 100000 in
theorem Step_skip0 (A : Option Addr) (c : Nat) (l : List Pt) (nx : Int) (r : Rc) (w : World) (hC : Kd.C kPt w A l.length l) (hc : l.length ≤ c) (hlen : l.length ≤ 64) (hid : r.id ≤ 2199023255552) (hid0 : -9223372036854775808 ≤ r.id) (hk : r.kind = 4) (h1 : r.id < nx) :
    Calls Tryd.prog 27 #[.agg #[.slice A l.length c, .int .i64 nx], .agg (rcL r).toArray] w fun e w' => ∃ v : Value, e = .returned (.tuple #[.agg #[v, .int .i64 (stepP ⟨l, nx⟩ r).1.next], .bool (stepP ⟨l, nx⟩ r).2]) ∧ Kd.R kPt 75 w' w.heap.size (fun _ => True) v (stepP ⟨l, nx⟩ r).1.parts ∧ Below w.heap.size w w' := by
  have HC := Aside0.mk hC
  clear hC
  have HP := Aside0.mk (show stepP ⟨l, nx⟩ r = (⟨l, nx⟩, false) by simp [stepP, *])
  go_enter Tryd.func27, Tryd.ntmps27
  go_wp2_with (first | (go_at_call 79; refine (ownS_calls A c l nx _ (Kd.C_below HC.out ?_) hc (Nat.le_trans hlen (by decide))).mono ?_; (exact below_alloc (below_alloc (below_alloc (Below.refl _ _) _) _) _); rintro e w2 ⟨v, rfl, ho, hb2⟩; obtain ⟨A2, c2, rfl⟩ := Kd.R_slice ho; obtain ⟨hcl, hfz⟩ := bcell hb2; have z0 : ¬ (w.heap.size = w2.heap.size) := (by have h_ := hb2.size; simp at h_; omega); have y0 : w.heap.size < w2.heap.size := (by have h_ := hb2.size; simp at h_; omega); have c0_0 : w2.cell? ⟨w.heap.size, 0, none⟩ = some (.slice A l.length c) := (by rw [hcl _ _ (by first | omega | (simp; done) | (simp; omega))]; first | (go_simp; done) | (simp [*]; done) | (simp [go_sem, *]; done)); have f0_0 : w2.frozen? ⟨w.heap.size, 0, none⟩ = false := (by rw [hfz _ _ (by first | omega | (simp; done) | (simp; omega))]; first | (go_simp; done) | (simp [*]; done) | (simp [go_sem, *]; done)); have c0_1 : w2.cell? ⟨w.heap.size, 1, none⟩ = some (.int .i64 nx) := (by rw [hcl _ _ (by first | omega | (simp; done) | (simp; omega))]; first | (go_simp; done) | (simp [*]; done) | (simp [go_sem, *]; done)); have f0_1 : w2.frozen? ⟨w.heap.size, 1, none⟩ = false := (by rw [hfz _ _ (by first | omega | (simp; done) | (simp; omega))]; first | (go_simp; done) | (simp [*]; done) | (simp [go_sem, *]; done)); have z1 : ¬ (w.heap.size + 1 = w2.heap.size) := (by have h_ := hb2.size; simp at h_; omega); have y1 : w.heap.size + 1 < w2.heap.size := (by have h_ := hb2.size; simp at h_; omega); have c1_0 : w2.cell? ⟨w.heap.size + 1, 0, none⟩ = some (.int .u8 r.kind) := (by rw [hcl _ _ (by first | omega | (simp; done) | (simp; omega))]; first | (go_simp; done) | (simp [*]; done) | (simp [go_sem, *]; done)); have c1_1 : w2.cell? ⟨w.heap.size + 1, 1, none⟩ = some (.int .i64 r.id) := (by rw [hcl _ _ (by first | omega | (simp; done) | (simp; omega))]; first | (go_simp; done) | (simp [*]; done) | (simp [go_sem, *]; done)); have c1_36 : w2.cell? ⟨w.heap.size + 1, 36, none⟩ = some (.int .i64 r.off) := (by rw [hcl _ _ (by first | omega | (simp; done) | (simp; omega))]; first | (go_simp; done) | (simp [*]; done) | (simp [go_sem, *]; done)); have z2 : ¬ (w.heap.size + 1 + 1 = w2.heap.size) := (by have h_ := hb2.size; simp at h_; omega); have y2 : w.heap.size + 1 + 1 < w2.heap.size := (by have h_ := hb2.size; simp at h_; omega); have c2_0 : w2.cell? ⟨w.heap.size + 1 + 1, 0, none⟩ = some (.slice none 0 0) := (by rw [hcl _ _ (by first | omega | (simp; done) | (simp; omega))]; first | (go_simp; done) | (simp [*]; done) | (simp [go_sem, *]; done)); have f2_0 : w2.frozen? ⟨w.heap.size + 1 + 1, 0, none⟩ = false := (by rw [hfz _ _ (by first | omega | (simp; done) | (simp; omega))]; first | (go_simp; done) | (simp [*]; done) | (simp [go_sem, *]; done)); have c2_1 : w2.cell? ⟨w.heap.size + 1 + 1, 1, none⟩ = some (.int .i64 0) := (by rw [hcl _ _ (by first | omega | (simp; done) | (simp; omega))]; first | (go_simp; done) | (simp [*]; done) | (simp [go_sem, *]; done)); have f2_1 : w2.frozen? ⟨w.heap.size + 1 + 1, 1, none⟩ = false := (by rw [hfz _ _ (by first | omega | (simp; done) | (simp; omega))]; first | (go_simp; done) | (simp [*]; done) | (simp [go_sem, *]; done)); have r0 : rowAt w2 ⟨w.heap.size + 1, 0, none⟩ 37 = some (rcL r) := (by rw [rowAt_below hb2 (by first | omega | (simp; done) | (simp; omega))]; first | (go_simp; done) | (simp [*]; done) | (simp [go_sem, *]; done)); have HO2 := Aside0.mk (Kd.R_lower (base' := w.heap.size + 1 + 1 + 1) ho (by simp)); have HB2 := Aside0.mk (Below.trans (below_alloc (below_alloc (below_alloc (Below.refl w.heap.size w) _) _) _) (hb2.mono (by simp; omega))); clear hb2 hcl hfz ho) | (go_at_call 80; refine (idx_id A2 c2 l r.id _ _ (Kd.R_reads' (flat_put (flat_put HO2.out (by omega)) (by omega))).2.2 (Nat.le_trans hlen (by decide)) ?hc1).mono ?_; (case hc1 => first | (go_simp; done) | (simp [go_sem, *]; done)); rintro e w3 ⟨rfl, hb3⟩; obtain ⟨hcl, hfz⟩ := bcell hb3; have zi0 : ¬ (w.heap.size = w3.heap.size) := (by have h_ := hb3.size; simp at h_; omega); have yi0 : w.heap.size < w3.heap.size := (by have h_ := hb3.size; simp at h_; omega); have ci0_0 : w3.cell? ⟨w.heap.size, 0, none⟩ = some (.slice A2 l.length c2) := (by rw [hcl _ _ (by first | omega | (simp; done) | (simp; omega))]; first | (go_simp; done) | (simp [*]; done) | (simp [go_sem, *]; done)); have fi0_0 : w3.frozen? ⟨w.heap.size, 0, none⟩ = false := (by rw [hfz _ _ (by first | omega | (simp; done) | (simp; omega))]; first | (go_simp; done) | (simp [*]; done) | (simp [go_sem, *]; done)); have ci0_1 : w3.cell? ⟨w.heap.size, 1, none⟩ = some (.int .i64 nx) := (by rw [hcl _ _ (by first | omega | (simp; done) | (simp; omega))]; first | (go_simp; done) | (simp [*]; done) | (simp [go_sem, *]; done)); have fi0_1 : w3.frozen? ⟨w.heap.size, 1, none⟩ = false := (by rw [hfz _ _ (by first | omega | (simp; done) | (simp; omega))]; first | (go_simp; done) | (simp [*]; done) | (simp [go_sem, *]; done)); have zi1 : ¬ (w.heap.size + 1 = w3.heap.size) := (by have h_ := hb3.size; simp at h_; omega); have yi1 : w.heap.size + 1 < w3.heap.size := (by have h_ := hb3.size; simp at h_; omega); have ci1_0 : w3.cell? ⟨w.heap.size + 1, 0, none⟩ = some (.int .u8 r.kind) := (by rw [hcl _ _ (by first | omega | (simp; done) | (simp; omega))]; first | (go_simp; done) | (simp [*]; done) | (simp [go_sem, *]; done)); have ci1_1 : w3.cell? ⟨w.heap.size + 1, 1, none⟩ = some (.int .i64 r.id) := (by rw [hcl _ _ (by first | omega | (simp; done) | (simp; omega))]; first | (go_simp; done) | (simp [*]; done) | (simp [go_sem, *]; done)); have ci1_36 : w3.cell? ⟨w.heap.size + 1, 36, none⟩ = some (.int .i64 r.off) := (by rw [hcl _ _ (by first | omega | (simp; done) | (simp; omega))]; first | (go_simp; done) | (simp [*]; done) | (simp [go_sem, *]; done)); have zi2 : ¬ (w.heap.size + 1 + 1 = w3.heap.size) := (by have h_ := hb3.size; simp at h_; omega); have yi2 : w.heap.size + 1 + 1 < w3.heap.size := (by have h_ := hb3.size; simp at h_; omega); have ci2_0 : w3.cell? ⟨w.heap.size + 1 + 1, 0, none⟩ = some (.slice none 0 0) := (by rw [hcl _ _ (by first | omega | (simp; done) | (simp; omega))]; first | (go_simp; done) | (simp [*]; done) | (simp [go_sem, *]; done)); have fi2_0 : w3.frozen? ⟨w.heap.size + 1 + 1, 0, none⟩ = false := (by rw [hfz _ _ (by first | omega | (simp; done) | (simp; omega))]; first | (go_simp; done) | (simp [*]; done) | (simp [go_sem, *]; done)); have ci2_1 : w3.cell? ⟨w.heap.size + 1 + 1, 1, none⟩ = some (.int .i64 0) := (by rw [hcl _ _ (by first | omega | (simp; done) | (simp; omega))]; first | (go_simp; done) | (simp [*]; done) | (simp [go_sem, *]; done)); have fi2_1 : w3.frozen? ⟨w.heap.size + 1 + 1, 1, none⟩ = false := (by rw [hfz _ _ (by first | omega | (simp; done) | (simp; omega))]; first | (go_simp; done) | (simp [*]; done) | (simp [go_sem, *]; done)); have ri0 : rowAt w3 ⟨w.heap.size + 1, 0, none⟩ 37 = some (rcL r) := (by rw [rowAt_below hb3 (by first | omega | (simp; done) | (simp; omega))]; first | (go_simp; done) | (simp [*]; done) | (simp [go_sem, *]; done)); have HO3 := Aside0.mk (Kd.R_below (flat_put (flat_put HO2.out (by omega)) (by omega)) hb3); have HB3 := Aside0.mk (Below.trans (below_setCell (below_setCell HB2.out (by omega) _) (by omega) _) (hb3.mono (by simp; omega))); clear hb3 hcl hfz))
  refine bodyPost_ret (v := .tuple #[.agg #[.slice A2 l.length c2, .int .i64 nx], .bool false]) (by simp [results, Tryd.results27, go_sem, *]) rfl ⟨_, by rw [HP.out], ?_, ?_⟩
  · rw [HP.out]; exact Kd.R_lower (flat_put (flat_put (HO3.out) (by omega)) (by omega)) (by omega)
  · have hs3 := HB3.out.size; (repeat' (first | exact HB3.out | (with_reducible refine below_setCell ?_ ?_ _) | (with_reducible refine below_setRow ?_ ?_ _) | (with_reducible refine Below.alloc ?_ ?_ _) | (with_reducible refine below_drew ?_) | (with_reducible refine pw_below_drewN ?_ _) | (with_reducible exact Below.refl _ _) | omega | (simp; done) | (simp; omega)))
set_option linter.unusedVariables false in
set_option maxHeartbeats 8000000 in
set_option maxRecDepth 100000 in
theorem Step_skip1 (A : Option Addr) (c : Nat) (l : List Pt) (nx : Int) (r : Rc) (w : World) (hC : Kd.C kPt w A l.length l) (hc : l.length ≤ c) (hlen : l.length ≤ 64) (hid : r.id ≤ 2199023255552) (hid0 : -9223372036854775808 ≤ r.id) (hk : r.kind = 4) (h1 : ¬ r.id < nx) :
    Calls Tryd.prog 27 #[.agg #[.slice A l.length c, .int .i64 nx], .agg (rcL r).toArray] w fun e w' => ∃ v : Value, e = .returned (.tuple #[.agg #[v, .int .i64 (stepP ⟨l, nx⟩ r).1.next], .bool (stepP ⟨l, nx⟩ r).2]) ∧ Kd.R kPt 75 w' w.heap.size (fun _ => True) v (stepP ⟨l, nx⟩ r).1.parts ∧ Below w.heap.size w w' := by
  have HC := Aside0.mk hC
  clear hC
  have HP := Aside0.mk (show stepP ⟨l, nx⟩ r = (⟨l, r.id + 1⟩, true) by simp [stepP, *])
  have hw1 : IntKind.i64.wrap (r.id + 1) = r.id + 1 := IntWalk.i64_in _ (by omega)
  go_enter Tryd.func27, Tryd.ntmps27
  go_wp2_with (first | (go_at_call 79; refine (ownS_calls A c l nx _ (Kd.C_below HC.out ?_) hc (Nat.le_trans hlen (by decide))).mono ?_; (exact below_alloc (below_alloc (below_alloc (Below.refl _ _) _) _) _); rintro e w2 ⟨v, rfl, ho, hb2⟩; obtain ⟨A2, c2, rfl⟩ := Kd.R_slice ho; obtain ⟨hcl, hfz⟩ := bcell hb2; have z0 : ¬ (w.heap.size = w2.heap.size) := (by have h_ := hb2.size; simp at h_; omega); have y0 : w.heap.size < w2.heap.size := (by have h_ := hb2.size; simp at h_; omega); have c0_0 : w2.cell? ⟨w.heap.size, 0, none⟩ = some (.slice A l.length c) := (by rw [hcl _ _ (by first | omega | (simp; done) | (simp; omega))]; first | (go_simp; done) | (simp [*]; done) | (simp [go_sem, *]; done)); have f0_0 : w2.frozen? ⟨w.heap.size, 0, none⟩ = false := (by rw [hfz _ _ (by first | omega | (simp; done) | (simp; omega))]; first | (go_simp; done) | (simp [*]; done) | (simp [go_sem, *]; done)); have c0_1 : w2.cell? ⟨w.heap.size, 1, none⟩ = some (.int .i64 nx) := (by rw [hcl _ _ (by first | omega | (simp; done) | (simp; omega))]; first | (go_simp; done) | (simp [*]; done) | (simp [go_sem, *]; done)); have f0_1 : w2.frozen? ⟨w.heap.size, 1, none⟩ = false := (by rw [hfz _ _ (by first | omega | (simp; done) | (simp; omega))]; first | (go_simp; done) | (simp [*]; done) | (simp [go_sem, *]; done)); have z1 : ¬ (w.heap.size + 1 = w2.heap.size) := (by have h_ := hb2.size; simp at h_; omega); have y1 : w.heap.size + 1 < w2.heap.size := (by have h_ := hb2.size; simp at h_; omega); have c1_0 : w2.cell? ⟨w.heap.size + 1, 0, none⟩ = some (.int .u8 r.kind) := (by rw [hcl _ _ (by first | omega | (simp; done) | (simp; omega))]; first | (go_simp; done) | (simp [*]; done) | (simp [go_sem, *]; done)); have c1_1 : w2.cell? ⟨w.heap.size + 1, 1, none⟩ = some (.int .i64 r.id) := (by rw [hcl _ _ (by first | omega | (simp; done) | (simp; omega))]; first | (go_simp; done) | (simp [*]; done) | (simp [go_sem, *]; done)); have c1_36 : w2.cell? ⟨w.heap.size + 1, 36, none⟩ = some (.int .i64 r.off) := (by rw [hcl _ _ (by first | omega | (simp; done) | (simp; omega))]; first | (go_simp; done) | (simp [*]; done) | (simp [go_sem, *]; done)); have z2 : ¬ (w.heap.size + 1 + 1 = w2.heap.size) := (by have h_ := hb2.size; simp at h_; omega); have y2 : w.heap.size + 1 + 1 < w2.heap.size := (by have h_ := hb2.size; simp at h_; omega); have c2_0 : w2.cell? ⟨w.heap.size + 1 + 1, 0, none⟩ = some (.slice none 0 0) := (by rw [hcl _ _ (by first | omega | (simp; done) | (simp; omega))]; first | (go_simp; done) | (simp [*]; done) | (simp [go_sem, *]; done)); have f2_0 : w2.frozen? ⟨w.heap.size + 1 + 1, 0, none⟩ = false := (by rw [hfz _ _ (by first | omega | (simp; done) | (simp; omega))]; first | (go_simp; done) | (simp [*]; done) | (simp [go_sem, *]; done)); have c2_1 : w2.cell? ⟨w.heap.size + 1 + 1, 1, none⟩ = some (.int .i64 0) := (by rw [hcl _ _ (by first | omega | (simp; done) | (simp; omega))]; first | (go_simp; done) | (simp [*]; done) | (simp [go_sem, *]; done)); have f2_1 : w2.frozen? ⟨w.heap.size + 1 + 1, 1, none⟩ = false := (by rw [hfz _ _ (by first | omega | (simp; done) | (simp; omega))]; first | (go_simp; done) | (simp [*]; done) | (simp [go_sem, *]; done)); have r0 : rowAt w2 ⟨w.heap.size + 1, 0, none⟩ 37 = some (rcL r) := (by rw [rowAt_below hb2 (by first | omega | (simp; done) | (simp; omega))]; first | (go_simp; done) | (simp [*]; done) | (simp [go_sem, *]; done)); have HO2 := Aside0.mk (Kd.R_lower (base' := w.heap.size + 1 + 1 + 1) ho (by simp)); have HB2 := Aside0.mk (Below.trans (below_alloc (below_alloc (below_alloc (Below.refl w.heap.size w) _) _) _) (hb2.mono (by simp; omega))); clear hb2 hcl hfz ho) | (go_at_call 80; refine (idx_id A2 c2 l r.id _ _ (Kd.R_reads' (flat_put (flat_put HO2.out (by omega)) (by omega))).2.2 (Nat.le_trans hlen (by decide)) ?hc1).mono ?_; (case hc1 => first | (go_simp; done) | (simp [go_sem, *]; done)); rintro e w3 ⟨rfl, hb3⟩; obtain ⟨hcl, hfz⟩ := bcell hb3; have zi0 : ¬ (w.heap.size = w3.heap.size) := (by have h_ := hb3.size; simp at h_; omega); have yi0 : w.heap.size < w3.heap.size := (by have h_ := hb3.size; simp at h_; omega); have ci0_0 : w3.cell? ⟨w.heap.size, 0, none⟩ = some (.slice A2 l.length c2) := (by rw [hcl _ _ (by first | omega | (simp; done) | (simp; omega))]; first | (go_simp; done) | (simp [*]; done) | (simp [go_sem, *]; done)); have fi0_0 : w3.frozen? ⟨w.heap.size, 0, none⟩ = false := (by rw [hfz _ _ (by first | omega | (simp; done) | (simp; omega))]; first | (go_simp; done) | (simp [*]; done) | (simp [go_sem, *]; done)); have ci0_1 : w3.cell? ⟨w.heap.size, 1, none⟩ = some (.int .i64 nx) := (by rw [hcl _ _ (by first | omega | (simp; done) | (simp; omega))]; first | (go_simp; done) | (simp [*]; done) | (simp [go_sem, *]; done)); have fi0_1 : w3.frozen? ⟨w.heap.size, 1, none⟩ = false := (by rw [hfz _ _ (by first | omega | (simp; done) | (simp; omega))]; first | (go_simp; done) | (simp [*]; done) | (simp [go_sem, *]; done)); have zi1 : ¬ (w.heap.size + 1 = w3.heap.size) := (by have h_ := hb3.size; simp at h_; omega); have yi1 : w.heap.size + 1 < w3.heap.size := (by have h_ := hb3.size; simp at h_; omega); have ci1_0 : w3.cell? ⟨w.heap.size + 1, 0, none⟩ = some (.int .u8 r.kind) := (by rw [hcl _ _ (by first | omega | (simp; done) | (simp; omega))]; first | (go_simp; done) | (simp [*]; done) | (simp [go_sem, *]; done)); have ci1_1 : w3.cell? ⟨w.heap.size + 1, 1, none⟩ = some (.int .i64 r.id) := (by rw [hcl _ _ (by first | omega | (simp; done) | (simp; omega))]; first | (go_simp; done) | (simp [*]; done) | (simp [go_sem, *]; done)); have ci1_36 : w3.cell? ⟨w.heap.size + 1, 36, none⟩ = some (.int .i64 r.off) := (by rw [hcl _ _ (by first | omega | (simp; done) | (simp; omega))]; first | (go_simp; done) | (simp [*]; done) | (simp [go_sem, *]; done)); have zi2 : ¬ (w.heap.size + 1 + 1 = w3.heap.size) := (by have h_ := hb3.size; simp at h_; omega); have yi2 : w.heap.size + 1 + 1 < w3.heap.size := (by have h_ := hb3.size; simp at h_; omega); have ci2_0 : w3.cell? ⟨w.heap.size + 1 + 1, 0, none⟩ = some (.slice none 0 0) := (by rw [hcl _ _ (by first | omega | (simp; done) | (simp; omega))]; first | (go_simp; done) | (simp [*]; done) | (simp [go_sem, *]; done)); have fi2_0 : w3.frozen? ⟨w.heap.size + 1 + 1, 0, none⟩ = false := (by rw [hfz _ _ (by first | omega | (simp; done) | (simp; omega))]; first | (go_simp; done) | (simp [*]; done) | (simp [go_sem, *]; done)); have ci2_1 : w3.cell? ⟨w.heap.size + 1 + 1, 1, none⟩ = some (.int .i64 0) := (by rw [hcl _ _ (by first | omega | (simp; done) | (simp; omega))]; first | (go_simp; done) | (simp [*]; done) | (simp [go_sem, *]; done)); have fi2_1 : w3.frozen? ⟨w.heap.size + 1 + 1, 1, none⟩ = false := (by rw [hfz _ _ (by first | omega | (simp; done) | (simp; omega))]; first | (go_simp; done) | (simp [*]; done) | (simp [go_sem, *]; done)); have ri0 : rowAt w3 ⟨w.heap.size + 1, 0, none⟩ 37 = some (rcL r) := (by rw [rowAt_below hb3 (by first | omega | (simp; done) | (simp; omega))]; first | (go_simp; done) | (simp [*]; done) | (simp [go_sem, *]; done)); have HO3 := Aside0.mk (Kd.R_below (flat_put (flat_put HO2.out (by omega)) (by omega)) hb3); have HB3 := Aside0.mk (Below.trans (below_setCell (below_setCell HB2.out (by omega) _) (by omega) _) (hb3.mono (by simp; omega))); clear hb3 hcl hfz))
  refine bodyPost_ret (v := .tuple #[.agg #[.slice A2 l.length c2, .int .i64 (r.id + 1)], .bool true]) (by simp [results, Tryd.results27, go_sem, *]) rfl ⟨_, by rw [HP.out], ?_, ?_⟩
  · rw [HP.out]; exact Kd.R_lower (flat_put (flat_put (flat_put (HO3.out) (by omega)) (by omega)) (by omega)) (by omega)
  · have hs3 := HB3.out.size; (repeat' (first | exact HB3.out | (with_reducible refine below_setCell ?_ ?_ _) | (with_reducible refine below_setRow ?_ ?_ _) | (with_reducible refine Below.alloc ?_ ?_ _) | (with_reducible refine below_drew ?_) | (with_reducible refine pw_below_drewN ?_ _) | (with_reducible exact Below.refl _ _) | omega | (simp; done) | (simp; omega)))
set_option linter.unusedVariables false in
set_option maxHeartbeats 8000000 in
set_option maxRecDepth 100000 in
theorem Step_del0 (A : Option Addr) (c : Nat) (l : List Pt) (nx : Int) (r : Rc) (w : World) (hC : Kd.C kPt w A l.length l) (hc : l.length ≤ c) (hlen : l.length ≤ 64) (hid : r.id ≤ 2199023255552) (hid0 : -9223372036854775808 ≤ r.id) (hk : r.kind = 2 ∨ r.kind = 3) (hn : l.findIdx? (fun x => decide (x.id = r.id)) = none) :
    Calls Tryd.prog 27 #[.agg #[.slice A l.length c, .int .i64 nx], .agg (rcL r).toArray] w fun e w' => ∃ v : Value, e = .returned (.tuple #[.agg #[v, .int .i64 (stepP ⟨l, nx⟩ r).1.next], .bool (stepP ⟨l, nx⟩ r).2]) ∧ Kd.R kPt 75 w' w.heap.size (fun _ => True) v (stepP ⟨l, nx⟩ r).1.parts ∧ Below w.heap.size w w' := by
  have HC := Aside0.mk hC
  clear hC
  have hi := show fstI (fun x : Pt => decide (x.id = r.id)) l = -1 by unfold fstI; rw [hn]
  have HI := Aside0.mk hi
  have HP := Aside0.mk (show stepP ⟨l, nx⟩ r = (⟨l, nx⟩, false) by rcases hk with hk | hk <;> simp [stepP, hk, hn])
  clear hi hn
  rcases hk with hk | hk
  all_goals
    go_enter Tryd.func27, Tryd.ntmps27
    go_wp2_with (first | (go_at_call 79; refine (ownS_calls A c l nx _ (Kd.C_below HC.out ?_) hc (Nat.le_trans hlen (by decide))).mono ?_; (exact below_alloc (below_alloc (below_alloc (Below.refl _ _) _) _) _); rintro e w2 ⟨v, rfl, ho, hb2⟩; obtain ⟨A2, c2, rfl⟩ := Kd.R_slice ho; obtain ⟨hcl, hfz⟩ := bcell hb2; have z0 : ¬ (w.heap.size = w2.heap.size) := (by have h_ := hb2.size; simp at h_; omega); have y0 : w.heap.size < w2.heap.size := (by have h_ := hb2.size; simp at h_; omega); have c0_0 : w2.cell? ⟨w.heap.size, 0, none⟩ = some (.slice A l.length c) := (by rw [hcl _ _ (by first | omega | (simp; done) | (simp; omega))]; first | (go_simp; done) | (simp [*]; done) | (simp [go_sem, *]; done)); have f0_0 : w2.frozen? ⟨w.heap.size, 0, none⟩ = false := (by rw [hfz _ _ (by first | omega | (simp; done) | (simp; omega))]; first | (go_simp; done) | (simp [*]; done) | (simp [go_sem, *]; done)); have c0_1 : w2.cell? ⟨w.heap.size, 1, none⟩ = some (.int .i64 nx) := (by rw [hcl _ _ (by first | omega | (simp; done) | (simp; omega))]; first | (go_simp; done) | (simp [*]; done) | (simp [go_sem, *]; done)); have f0_1 : w2.frozen? ⟨w.heap.size, 1, none⟩ = false := (by rw [hfz _ _ (by first | omega | (simp; done) | (simp; omega))]; first | (go_simp; done) | (simp [*]; done) | (simp [go_sem, *]; done)); have z1 : ¬ (w.heap.size + 1 = w2.heap.size) := (by have h_ := hb2.size; simp at h_; omega); have y1 : w.heap.size + 1 < w2.heap.size := (by have h_ := hb2.size; simp at h_; omega); have c1_0 : w2.cell? ⟨w.heap.size + 1, 0, none⟩ = some (.int .u8 r.kind) := (by rw [hcl _ _ (by first | omega | (simp; done) | (simp; omega))]; first | (go_simp; done) | (simp [*]; done) | (simp [go_sem, *]; done)); have c1_1 : w2.cell? ⟨w.heap.size + 1, 1, none⟩ = some (.int .i64 r.id) := (by rw [hcl _ _ (by first | omega | (simp; done) | (simp; omega))]; first | (go_simp; done) | (simp [*]; done) | (simp [go_sem, *]; done)); have c1_36 : w2.cell? ⟨w.heap.size + 1, 36, none⟩ = some (.int .i64 r.off) := (by rw [hcl _ _ (by first | omega | (simp; done) | (simp; omega))]; first | (go_simp; done) | (simp [*]; done) | (simp [go_sem, *]; done)); have z2 : ¬ (w.heap.size + 1 + 1 = w2.heap.size) := (by have h_ := hb2.size; simp at h_; omega); have y2 : w.heap.size + 1 + 1 < w2.heap.size := (by have h_ := hb2.size; simp at h_; omega); have c2_0 : w2.cell? ⟨w.heap.size + 1 + 1, 0, none⟩ = some (.slice none 0 0) := (by rw [hcl _ _ (by first | omega | (simp; done) | (simp; omega))]; first | (go_simp; done) | (simp [*]; done) | (simp [go_sem, *]; done)); have f2_0 : w2.frozen? ⟨w.heap.size + 1 + 1, 0, none⟩ = false := (by rw [hfz _ _ (by first | omega | (simp; done) | (simp; omega))]; first | (go_simp; done) | (simp [*]; done) | (simp [go_sem, *]; done)); have c2_1 : w2.cell? ⟨w.heap.size + 1 + 1, 1, none⟩ = some (.int .i64 0) := (by rw [hcl _ _ (by first | omega | (simp; done) | (simp; omega))]; first | (go_simp; done) | (simp [*]; done) | (simp [go_sem, *]; done)); have f2_1 : w2.frozen? ⟨w.heap.size + 1 + 1, 1, none⟩ = false := (by rw [hfz _ _ (by first | omega | (simp; done) | (simp; omega))]; first | (go_simp; done) | (simp [*]; done) | (simp [go_sem, *]; done)); have r0 : rowAt w2 ⟨w.heap.size + 1, 0, none⟩ 37 = some (rcL r) := (by rw [rowAt_below hb2 (by first | omega | (simp; done) | (simp; omega))]; first | (go_simp; done) | (simp [*]; done) | (simp [go_sem, *]; done)); have HO2 := Aside0.mk (Kd.R_lower (base' := w.heap.size + 1 + 1 + 1) ho (by simp)); have HB2 := Aside0.mk (Below.trans (below_alloc (below_alloc (below_alloc (Below.refl w.heap.size w) _) _) _) (hb2.mono (by simp; omega))); clear hb2 hcl hfz ho) | (go_at_call 80; refine (idx_id A2 c2 l r.id _ _ (Kd.R_reads' (flat_put (flat_put HO2.out (by omega)) (by omega))).2.2 (Nat.le_trans hlen (by decide)) ?hc1).mono ?_; (case hc1 => first | (go_simp; done) | (simp [go_sem, *]; done)); rintro e w3 ⟨rfl, hb3⟩; obtain ⟨hcl, hfz⟩ := bcell hb3; have zi0 : ¬ (w.heap.size = w3.heap.size) := (by have h_ := hb3.size; simp at h_; omega); have yi0 : w.heap.size < w3.heap.size := (by have h_ := hb3.size; simp at h_; omega); have ci0_0 : w3.cell? ⟨w.heap.size, 0, none⟩ = some (.slice A2 l.length c2) := (by rw [hcl _ _ (by first | omega | (simp; done) | (simp; omega))]; first | (go_simp; done) | (simp [*]; done) | (simp [go_sem, *]; done)); have fi0_0 : w3.frozen? ⟨w.heap.size, 0, none⟩ = false := (by rw [hfz _ _ (by first | omega | (simp; done) | (simp; omega))]; first | (go_simp; done) | (simp [*]; done) | (simp [go_sem, *]; done)); have ci0_1 : w3.cell? ⟨w.heap.size, 1, none⟩ = some (.int .i64 nx) := (by rw [hcl _ _ (by first | omega | (simp; done) | (simp; omega))]; first | (go_simp; done) | (simp [*]; done) | (simp [go_sem, *]; done)); have fi0_1 : w3.frozen? ⟨w.heap.size, 1, none⟩ = false := (by rw [hfz _ _ (by first | omega | (simp; done) | (simp; omega))]; first | (go_simp; done) | (simp [*]; done) | (simp [go_sem, *]; done)); have zi1 : ¬ (w.heap.size + 1 = w3.heap.size) := (by have h_ := hb3.size; simp at h_; omega); have yi1 : w.heap.size + 1 < w3.heap.size := (by have h_ := hb3.size; simp at h_; omega); have ci1_0 : w3.cell? ⟨w.heap.size + 1, 0, none⟩ = some (.int .u8 r.kind) := (by rw [hcl _ _ (by first | omega | (simp; done) | (simp; omega))]; first | (go_simp; done) | (simp [*]; done) | (simp [go_sem, *]; done)); have ci1_1 : w3.cell? ⟨w.heap.size + 1, 1, none⟩ = some (.int .i64 r.id) := (by rw [hcl _ _ (by first | omega | (simp; done) | (simp; omega))]; first | (go_simp; done) | (simp [*]; done) | (simp [go_sem, *]; done)); have ci1_36 : w3.cell? ⟨w.heap.size + 1, 36, none⟩ = some (.int .i64 r.off) := (by rw [hcl _ _ (by first | omega | (simp; done) | (simp; omega))]; first | (go_simp; done) | (simp [*]; done) | (simp [go_sem, *]; done)); have zi2 : ¬ (w.heap.size + 1 + 1 = w3.heap.size) := (by have h_ := hb3.size; simp at h_; omega); have yi2 : w.heap.size + 1 + 1 < w3.heap.size := (by have h_ := hb3.size; simp at h_; omega); have ci2_0 : w3.cell? ⟨w.heap.size + 1 + 1, 0, none⟩ = some (.slice none 0 0) := (by rw [hcl _ _ (by first | omega | (simp; done) | (simp; omega))]; first | (go_simp; done) | (simp [*]; done) | (simp [go_sem, *]; done)); have fi2_0 : w3.frozen? ⟨w.heap.size + 1 + 1, 0, none⟩ = false := (by rw [hfz _ _ (by first | omega | (simp; done) | (simp; omega))]; first | (go_simp; done) | (simp [*]; done) | (simp [go_sem, *]; done)); have ci2_1 : w3.cell? ⟨w.heap.size + 1 + 1, 1, none⟩ = some (.int .i64 0) := (by rw [hcl _ _ (by first | omega | (simp; done) | (simp; omega))]; first | (go_simp; done) | (simp [*]; done) | (simp [go_sem, *]; done)); have fi2_1 : w3.frozen? ⟨w.heap.size + 1 + 1, 1, none⟩ = false := (by rw [hfz _ _ (by first | omega | (simp; done) | (simp; omega))]; first | (go_simp; done) | (simp [*]; done) | (simp [go_sem, *]; done)); have ri0 : rowAt w3 ⟨w.heap.size + 1, 0, none⟩ 37 = some (rcL r) := (by rw [rowAt_below hb3 (by first | omega | (simp; done) | (simp; omega))]; first | (go_simp; done) | (simp [*]; done) | (simp [go_sem, *]; done)); have HO3 := Aside0.mk (Kd.R_below (flat_put (flat_put HO2.out (by omega)) (by omega)) hb3); have HB3 := Aside0.mk (Below.trans (below_setCell (below_setCell HB2.out (by omega) _) (by omega) _) (hb3.mono (by simp; omega))); clear hb3 hcl hfz; rw [HI.out]))
    refine bodyPost_ret (v := .tuple #[.agg #[.slice A2 l.length c2, .int .i64 nx], .bool false]) (by simp [results, Tryd.results27, go_sem, *]) rfl ⟨_, by rw [HP.out], ?_, ?_⟩
    · rw [HP.out]; exact Kd.R_lower (flat_put (flat_put (HO3.out) (by omega)) (by omega)) (by omega)
    · have hs3 := HB3.out.size; (repeat' (first | exact HB3.out | (with_reducible refine below_setCell ?_ ?_ _) | (with_reducible refine below_setRow ?_ ?_ _) | (with_reducible refine Below.alloc ?_ ?_ _) | (with_reducible refine below_drew ?_) | (with_reducible refine pw_below_drewN ?_ _) | (with_reducible exact Below.refl _ _) | omega | (simp; done) | (simp; omega)))
  
set_option linter.unusedVariables false in
set_option maxHeartbeats 8000000 in
set_option maxRecDepth 100000 in
theorem Step_del1 (A : Option Addr) (c : Nat) (l : List Pt) (nx : Int) (r : Rc) (w : World) (hC : Kd.C kPt w A l.length l) (hc : l.length ≤ c) (hlen : l.length ≤ 64) (hid : r.id ≤ 2199023255552) (hid0 : -9223372036854775808 ≤ r.id) (i : Nat) (hk : r.kind = 2 ∨ r.kind = 3) (hn : l.findIdx? (fun x => decide (x.id = r.id)) = some i) :
    Calls Tryd.prog 27 #[.agg #[.slice A l.length c, .int .i64 nx], .agg (rcL r).toArray] w fun e w' => ∃ v : Value, e = .returned (.tuple #[.agg #[v, .int .i64 (stepP ⟨l, nx⟩ r).1.next], .bool (stepP ⟨l, nx⟩ r).2]) ∧ Kd.R kPt 75 w' w.heap.size (fun _ => True) v (stepP ⟨l, nx⟩ r).1.parts ∧ Below w.heap.size w w' := by
  have HC := Aside0.mk hC
  clear hC
  obtain ⟨hil, hid2, hid3⟩ := List.findIdx?_eq_some_iff_getElem.1 hn
  clear hid3
  have hi := show fstI (fun x : Pt => decide (x.id = r.id)) l = (i : Int) by unfold fstI; rw [hn]
  have HI := Aside0.mk hi
  have HIL := Aside0.mk hil
  have HP := Aside0.mk (show stepP ⟨l, nx⟩ r = (⟨l.eraseIdx i, nx⟩, true) by rcases hk with hk | hk <;> simp [stepP, hk, hn])
  have hw1 : IntKind.i64.wrap ((i : Int) + 1) = (i : Int) + 1 := IntWalk.i64_in _ (by omega)
  clear hi hn hil hid2
  rcases hk with hk | hk
  all_goals
    go_enter Tryd.func27, Tryd.ntmps27
    go_wp2_with (first | (go_at_call 79; refine (ownS_calls A c l nx _ (Kd.C_below HC.out ?_) hc (Nat.le_trans hlen (by decide))).mono ?_; (exact below_alloc (below_alloc (below_alloc (Below.refl _ _) _) _) _); rintro e w2 ⟨v, rfl, ho, hb2⟩; obtain ⟨A2, c2, rfl⟩ := Kd.R_slice ho; obtain ⟨hcl, hfz⟩ := bcell hb2; have z0 : ¬ (w.heap.size = w2.heap.size) := (by have h_ := hb2.size; simp at h_; omega); have y0 : w.heap.size < w2.heap.size := (by have h_ := hb2.size; simp at h_; omega); have c0_0 : w2.cell? ⟨w.heap.size, 0, none⟩ = some (.slice A l.length c) := (by rw [hcl _ _ (by first | omega | (simp; done) | (simp; omega))]; first | (go_simp; done) | (simp [*]; done) | (simp [go_sem, *]; done)); have f0_0 : w2.frozen? ⟨w.heap.size, 0, none⟩ = false := (by rw [hfz _ _ (by first | omega | (simp; done) | (simp; omega))]; first | (go_simp; done) | (simp [*]; done) | (simp [go_sem, *]; done)); have c0_1 : w2.cell? ⟨w.heap.size, 1, none⟩ = some (.int .i64 nx) := (by rw [hcl _ _ (by first | omega | (simp; done) | (simp; omega))]; first | (go_simp; done) | (simp [*]; done) | (simp [go_sem, *]; done)); have f0_1 : w2.frozen? ⟨w.heap.size, 1, none⟩ = false := (by rw [hfz _ _ (by first | omega | (simp; done) | (simp; omega))]; first | (go_simp; done) | (simp [*]; done) | (simp [go_sem, *]; done)); have z1 : ¬ (w.heap.size + 1 = w2.heap.size) := (by have h_ := hb2.size; simp at h_; omega); have y1 : w.heap.size + 1 < w2.heap.size := (by have h_ := hb2.size; simp at h_; omega); have c1_0 : w2.cell? ⟨w.heap.size + 1, 0, none⟩ = some (.int .u8 r.kind) := (by rw [hcl _ _ (by first | omega | (simp; done) | (simp; omega))]; first | (go_simp; done) | (simp [*]; done) | (simp [go_sem, *]; done)); have c1_1 : w2.cell? ⟨w.heap.size + 1, 1, none⟩ = some (.int .i64 r.id) := (by rw [hcl _ _ (by first | omega | (simp; done) | (simp; omega))]; first | (go_simp; done) | (simp [*]; done) | (simp [go_sem, *]; done)); have c1_36 : w2.cell? ⟨w.heap.size + 1, 36, none⟩ = some (.int .i64 r.off) := (by rw [hcl _ _ (by first | omega | (simp; done) | (simp; omega))]; first | (go_simp; done) | (simp [*]; done) | (simp [go_sem, *]; done)); have z2 : ¬ (w.heap.size + 1 + 1 = w2.heap.size) := (by have h_ := hb2.size; simp at h_; omega); have y2 : w.heap.size + 1 + 1 < w2.heap.size := (by have h_ := hb2.size; simp at h_; omega); have c2_0 : w2.cell? ⟨w.heap.size + 1 + 1, 0, none⟩ = some (.slice none 0 0) := (by rw [hcl _ _ (by first | omega | (simp; done) | (simp; omega))]; first | (go_simp; done) | (simp [*]; done) | (simp [go_sem, *]; done)); have f2_0 : w2.frozen? ⟨w.heap.size + 1 + 1, 0, none⟩ = false := (by rw [hfz _ _ (by first | omega | (simp; done) | (simp; omega))]; first | (go_simp; done) | (simp [*]; done) | (simp [go_sem, *]; done)); have c2_1 : w2.cell? ⟨w.heap.size + 1 + 1, 1, none⟩ = some (.int .i64 0) := (by rw [hcl _ _ (by first | omega | (simp; done) | (simp; omega))]; first | (go_simp; done) | (simp [*]; done) | (simp [go_sem, *]; done)); have f2_1 : w2.frozen? ⟨w.heap.size + 1 + 1, 1, none⟩ = false := (by rw [hfz _ _ (by first | omega | (simp; done) | (simp; omega))]; first | (go_simp; done) | (simp [*]; done) | (simp [go_sem, *]; done)); have r0 : rowAt w2 ⟨w.heap.size + 1, 0, none⟩ 37 = some (rcL r) := (by rw [rowAt_below hb2 (by first | omega | (simp; done) | (simp; omega))]; first | (go_simp; done) | (simp [*]; done) | (simp [go_sem, *]; done)); have HO2 := Aside0.mk (Kd.R_lower (base' := w.heap.size + 1 + 1 + 1) ho (by simp)); have HB2 := Aside0.mk (Below.trans (below_alloc (below_alloc (below_alloc (Below.refl w.heap.size w) _) _) _) (hb2.mono (by simp; omega))); clear hb2 hcl hfz ho) | (go_at_call 80; refine (idx_id A2 c2 l r.id _ _ (Kd.R_reads' (flat_put (flat_put HO2.out (by omega)) (by omega))).2.2 (Nat.le_trans hlen (by decide)) ?hc1).mono ?_; (case hc1 => first | (go_simp; done) | (simp [go_sem, *]; done)); rintro e w3 ⟨rfl, hb3⟩; obtain ⟨hcl, hfz⟩ := bcell hb3; have zi0 : ¬ (w.heap.size = w3.heap.size) := (by have h_ := hb3.size; simp at h_; omega); have yi0 : w.heap.size < w3.heap.size := (by have h_ := hb3.size; simp at h_; omega); have ci0_0 : w3.cell? ⟨w.heap.size, 0, none⟩ = some (.slice A2 l.length c2) := (by rw [hcl _ _ (by first | omega | (simp; done) | (simp; omega))]; first | (go_simp; done) | (simp [*]; done) | (simp [go_sem, *]; done)); have fi0_0 : w3.frozen? ⟨w.heap.size, 0, none⟩ = false := (by rw [hfz _ _ (by first | omega | (simp; done) | (simp; omega))]; first | (go_simp; done) | (simp [*]; done) | (simp [go_sem, *]; done)); have ci0_1 : w3.cell? ⟨w.heap.size, 1, none⟩ = some (.int .i64 nx) := (by rw [hcl _ _ (by first | omega | (simp; done) | (simp; omega))]; first | (go_simp; done) | (simp [*]; done) | (simp [go_sem, *]; done)); have fi0_1 : w3.frozen? ⟨w.heap.size, 1, none⟩ = false := (by rw [hfz _ _ (by first | omega | (simp; done) | (simp; omega))]; first | (go_simp; done) | (simp [*]; done) | (simp [go_sem, *]; done)); have zi1 : ¬ (w.heap.size + 1 = w3.heap.size) := (by have h_ := hb3.size; simp at h_; omega); have yi1 : w.heap.size + 1 < w3.heap.size := (by have h_ := hb3.size; simp at h_; omega); have ci1_0 : w3.cell? ⟨w.heap.size + 1, 0, none⟩ = some (.int .u8 r.kind) := (by rw [hcl _ _ (by first | omega | (simp; done) | (simp; omega))]; first | (go_simp; done) | (simp [*]; done) | (simp [go_sem, *]; done)); have ci1_1 : w3.cell? ⟨w.heap.size + 1, 1, none⟩ = some (.int .i64 r.id) := (by rw [hcl _ _ (by first | omega | (simp; done) | (simp; omega))]; first | (go_simp; done) | (simp [*]; done) | (simp [go_sem, *]; done)); have ci1_36 : w3.cell? ⟨w.heap.size + 1, 36, none⟩ = some (.int .i64 r.off) := (by rw [hcl _ _ (by first | omega | (simp; done) | (simp; omega))]; first | (go_simp; done) | (simp [*]; done) | (simp [go_sem, *]; done)); have zi2 : ¬ (w.heap.size + 1 + 1 = w3.heap.size) := (by have h_ := hb3.size; simp at h_; omega); have yi2 : w.heap.size + 1 + 1 < w3.heap.size := (by have h_ := hb3.size; simp at h_; omega); have ci2_0 : w3.cell? ⟨w.heap.size + 1 + 1, 0, none⟩ = some (.slice none 0 0) := (by rw [hcl _ _ (by first | omega | (simp; done) | (simp; omega))]; first | (go_simp; done) | (simp [*]; done) | (simp [go_sem, *]; done)); have fi2_0 : w3.frozen? ⟨w.heap.size + 1 + 1, 0, none⟩ = false := (by rw [hfz _ _ (by first | omega | (simp; done) | (simp; omega))]; first | (go_simp; done) | (simp [*]; done) | (simp [go_sem, *]; done)); have ci2_1 : w3.cell? ⟨w.heap.size + 1 + 1, 1, none⟩ = some (.int .i64 0) := (by rw [hcl _ _ (by first | omega | (simp; done) | (simp; omega))]; first | (go_simp; done) | (simp [*]; done) | (simp [go_sem, *]; done)); have fi2_1 : w3.frozen? ⟨w.heap.size + 1 + 1, 1, none⟩ = false := (by rw [hfz _ _ (by first | omega | (simp; done) | (simp; omega))]; first | (go_simp; done) | (simp [*]; done) | (simp [go_sem, *]; done)); have ri0 : rowAt w3 ⟨w.heap.size + 1, 0, none⟩ 37 = some (rcL r) := (by rw [rowAt_below hb3 (by first | omega | (simp; done) | (simp; omega))]; first | (go_simp; done) | (simp [*]; done) | (simp [go_sem, *]; done)); have HO3 := Aside0.mk (Kd.R_below (flat_put (flat_put HO2.out (by omega)) (by omega)) hb3); have HB3 := Aside0.mk (Below.trans (below_setCell (below_setCell HB2.out (by omega) _) (by omega) _) (hb3.mono (by simp; omega))); clear hb3 hcl hfz; rw [HI.out]; obtain ⟨g, rfl, hg1, hg2⟩ := R_some HO3.out (Nat.lt_of_le_of_lt (Nat.zero_le _) HIL.out); have HG := Aside0.mk (And.intro hg1 hg2); clear hg1 hg2) | (go_at_call 83; refine (Delete_at g c2 i (w.heap.size + 1 + 1 + 1) _ l w3 HO3.out HIL.out (Nat.le_trans hlen (by decide)) (by have := HG.out.2; omega)).mono ?_; rintro e w4 ⟨rfl, ho4, hon⟩; have hb4 := hon.below HG.out.1 (by have := HG.out.2; omega); have hcl : ∀ b o, b < w.heap.size + 1 + 1 + 1 → w4.cell? ⟨b, o, none⟩ = w3.cell? ⟨b, o, none⟩ := fun b o h => hb4.cell (p := ⟨b, o, none⟩) h; have hfz : ∀ b o, b < w.heap.size + 1 + 1 + 1 → w4.frozen? ⟨b, o, none⟩ = w3.frozen? ⟨b, o, none⟩ := fun b o h => hb4.frozen (p := ⟨b, o, none⟩) h; have cd0_0 : w4.cell? ⟨w.heap.size, 0, none⟩ = some (.slice (some ⟨g, 0, none⟩) l.length c2) := (by rw [hcl _ _ (by first | omega | (simp; done) | (simp; omega))]; first | (go_simp; done) | (simp [*]; done) | (simp [go_sem, *]; done)); have fd0_0 : w4.frozen? ⟨w.heap.size, 0, none⟩ = false := (by rw [hfz _ _ (by first | omega | (simp; done) | (simp; omega))]; first | (go_simp; done) | (simp [*]; done) | (simp [go_sem, *]; done)); have cd0_1 : w4.cell? ⟨w.heap.size, 1, none⟩ = some (.int .i64 nx) := (by rw [hcl _ _ (by first | omega | (simp; done) | (simp; omega))]; first | (go_simp; done) | (simp [*]; done) | (simp [go_sem, *]; done)); have fd0_1 : w4.frozen? ⟨w.heap.size, 1, none⟩ = false := (by rw [hfz _ _ (by first | omega | (simp; done) | (simp; omega))]; first | (go_simp; done) | (simp [*]; done) | (simp [go_sem, *]; done)); have cd1_0 : w4.cell? ⟨w.heap.size + 1 + 1, 0, none⟩ = some (.slice none 0 0) := (by rw [hcl _ _ (by first | omega | (simp; done) | (simp; omega))]; first | (go_simp; done) | (simp [*]; done) | (simp [go_sem, *]; done)); have fd1_0 : w4.frozen? ⟨w.heap.size + 1 + 1, 0, none⟩ = false := (by rw [hfz _ _ (by first | omega | (simp; done) | (simp; omega))]; first | (go_simp; done) | (simp [*]; done) | (simp [go_sem, *]; done)); have cd1_1 : w4.cell? ⟨w.heap.size + 1 + 1, 1, none⟩ = some (.int .i64 0) := (by rw [hcl _ _ (by first | omega | (simp; done) | (simp; omega))]; first | (go_simp; done) | (simp [*]; done) | (simp [go_sem, *]; done)); have fd1_1 : w4.frozen? ⟨w.heap.size + 1 + 1, 1, none⟩ = false := (by rw [hfz _ _ (by first | omega | (simp; done) | (simp; omega))]; first | (go_simp; done) | (simp [*]; done) | (simp [go_sem, *]; done)); have HO4 := Aside0.mk ho4; have HB4 := Aside0.mk (HB3.out.trans (hb4.mono (by omega))); have HS4 := Aside0.mk hon.size; clear ho4 hon hb4 hcl hfz))
    refine bodyPost_ret (v := .tuple #[.agg #[.slice (some ⟨g, 0, none⟩) (l.length - 1) c2, .int .i64 nx], .bool true]) (by simp [results, Tryd.results27, go_sem, *]) rfl ⟨_, by rw [HP.out], ?_, ?_⟩
    · rw [HP.out]; exact Kd.R_lower (flat_put (flat_put (flat_put (HO4.out) (by omega)) (by omega)) (by omega)) (by omega)
    · have hs4 := HS4.out; have hs3 := HG.out.2; (repeat' (first | exact HB4.out | (with_reducible refine below_setCell ?_ ?_ _) | (with_reducible refine below_setRow ?_ ?_ _) | (with_reducible refine Below.alloc ?_ ?_ _) | (with_reducible refine below_drew ?_) | (with_reducible refine pw_below_drewN ?_ _) | (with_reducible exact Below.refl _ _) | omega | (simp; done) | (simp; omega)))
end Go.Proofs.YtiohgpcbdefokaaDoor.B
/- record.Step at a mark. No condition. -/
namespace Go.Proofs.YtiohgpcbdefokaaDoor.B
open Go.RowKit Go.Proofs.YtiohgpcbdefokaaDoorW.PrintWords Go.Proofs.YtiohgpcbdefokaaDoor.RowLaws
attribute [local go_sem ↓ high] lvO_hs ldO_hs stO_hs lvO_pt ldO_pt stO_pt zero_pt eqA_pt lvO_ptR ldO_ptR stO_ptR zero_ptR eqA_ptR lvO_rc ldO_rc stO_rc zero_rc eqA_rc lvO_rcR ldO_rcR stO_rcR zero_rcR eqA_rcR lvO_tk ldO_tk stO_tk zero_tk eqA_tk lvO_tkR ldO_tkR stO_tkR zero_tkR eqA_tkR lvO_it ldO_it stO_it zero_it eqA_it blO_pt blO_ptR blO_rc blO_rcR blO_tk blO_tkR blO_it bsO_pt bsO_ptR bsO_rc bsO_rcR bsO_it
attribute [local go_sem high] rowAt_setCell rowAt_setRow cell_setRow_ne isRow_setRow_ne rowAt_alloc rowAt_drew isRow_alloc isRow_drew isRow_setCell rowRun_some okL_hs ldV_hs ldA_hs stA_hs setRow_alloc get_pt_id get_pt_path cut_pt_sum get_pt_size get_pt_off cut_pt okL_pt size_pt lenb_pt eta_pt ldV_pt ldA_pt stA_pt ldV_ptR ldA_ptR stA_ptR get_rc_kind get_rc_id get_rc_path cut_rc_sum get_rc_size get_rc_off cut_rc okL_rc size_rc lenb_rc eta_rc ldV_rc ldA_rc stA_rc ldV_rcR ldA_rcR stA_rcR get_tk_path cut_tk_sum get_tk_size get_tk_off cut_tk_old cut_tk okL_tk size_tk lenb_tk eta_tk ldV_tk ldA_tk stA_tk ldV_tkR ldA_tkR stA_tkR get_it_path get_it_dir get_it_size cut_it_sum cut_it okL_it size_it lenb_it eta_it ldV_it ldA_it stA_it bld_pt_01234 bld_pt_0123 bld_pt_z bld_ptR_01234 bld_ptR_0123 bld_ptR_z bld_rc_012345 bld_rc_015 bld_rc_01 bld_rc_z bld_rc_01234 bld_rc_24 bld_rc_05 bld_rc_0 bld_rcR_012345 bld_rcR_015 bld_rcR_01 bld_rcR_z bld_rcR_01234 bld_rcR_24 bld_rcR_05 bld_rcR_0 bld_tk_01234 bld_tk_0 bld_tk_z bld_tkR_01234 bld_tkR_0 bld_tkR_z bld_it_0123 bld_it_023 bld_it_01 bld_it_0 bld_it_z bs0_pt bs1_pt bs0_ptR bs1_ptR bs0_rc bs1_rc bs0_rcR bs1_rcR bs0_it bs1_it
attribute [local irreducible] wpStill
theorem part_off {e : Nat} {W : World} {B c i g n : Nat} {ok : Nat → Prop} {l : List Pt} {p : Pt} (h : Kd.R kPt e W B ok (.slice (some ⟨g, 0, none⟩) n c) l) (hx : l[i]? = some p) (x : Int) :
    Kd.R kPt e (W.setCell ⟨g, i * 36 + 35, none⟩ (.int .i64 x)) B ok (.slice (some ⟨g, 0, none⟩) n c) (l.set i { p with off := x }) := by
  have hi := List.getElem?_eq_some_iff.1 hx
  obtain rfl := (Kd.R_reads' h).1
  have hil := hi.1
  obtain ⟨b, o, hA, _, hr⟩ := flat_at (Kd.R_reads' h).2.2 (by decide) (Nat.lt_of_le_of_lt (Nat.zero_le _) hil)
  injection hA with hA
  injection hA with hb ho
  subst hb ho
  have h2 := (hr i hi.1).2
  rw [hi.2] at h2
  have := Kd.R_seg (okp := fun k => ok k ∧ k ≠ g) (x' := { p with off := x }) h (i : Int) (by omega) (by omega) (c := ptL p) (seg := [.int .i64 x]) (j := 35) (ptL_len p) (fun j u hu => by have := h2 j u hu; rw [Nat.zero_add] at this; exact this) (show 35 + 1 ≤ 36 by decide) (show (ptL p).take 35 ++ [Value.int .i64 x] ++ (ptL p).drop (35 + 1) = ptL _ from ptL_off p x) (fun _ h => h)
  exact this.1
theorem part_frozen {W : World} {B c g n : Nat} {ok : Nat → Prop} {l : List Pt} (h : Kd.R kPt 75 W B ok (.slice (some ⟨g, 0, none⟩) n c) l) (j : Nat) : W.frozen? ⟨g, j, none⟩ = false := by
  obtain ⟨_, _, _, cur, hc, _⟩ := R_block h
  exact blk_frozen hc _
set_option linter.unusedVariables false in
set_option maxHeartbeats 8000000 in
set_option maxRecDepth 100000 in
theorem Step_mark1 (A : Option Addr) (c : Nat) (l : List Pt) (nx : Int) (r : Rc) (w : World) (hC : Kd.C kPt w A l.length l) (hc : l.length ≤ c) (hlen : l.length ≤ 64) (hid : r.id ≤ 2199023255552) (hid0 : -9223372036854775808 ≤ r.id) (hk : r.kind = 1) (i : Nat) (p : Pt) (hn : l.findIdx? (fun x => decide (x.id = r.id)) = some i) (hx : l[i]? = some p) (h1 : r.off < p.off) :
    Calls Tryd.prog 27 #[.agg #[.slice A l.length c, .int .i64 nx], .agg (rcL r).toArray] w fun e w' => ∃ v : Value, e = .returned (.tuple #[.agg #[v, .int .i64 (stepP ⟨l, nx⟩ r).1.next], .bool (stepP ⟨l, nx⟩ r).2]) ∧ Kd.R kPt 75 w' w.heap.size (fun _ => True) v (stepP ⟨l, nx⟩ r).1.parts ∧ Below w.heap.size w w' := by
  have HC := Aside0.mk hC
  clear hC
  obtain ⟨hil, hid2, hid3⟩ := List.findIdx?_eq_some_iff_getElem.1 hn
  clear hid3
  have hi := show fstI (fun x : Pt => decide (x.id = r.id)) l = (i : Int) by unfold fstI; rw [hn]
  have HI := Aside0.mk hi
  have HIL := Aside0.mk hil
  have HX := Aside0.mk hx
  have HP := Aside0.mk (show stepP ⟨l, nx⟩ r = (⟨l, nx⟩, false) by simp only [stepP]; rw [if_neg (by rw [hk]; decide), if_neg (by rw [hk]; decide), if_pos hk]; simp only [hn, hx]; rw [if_pos (.inl h1)])
  have hw2 : (i : Int) < (l.length : Int) := by omega
  clear hi hn hil hid2 hx
  go_enter Tryd.func27, Tryd.ntmps27
  go_wp2_with (first | (go_at_call 79; refine (ownS_calls A c l nx _ (Kd.C_below HC.out ?_) hc (Nat.le_trans hlen (by decide))).mono ?_; (exact below_alloc (below_alloc (below_alloc (Below.refl _ _) _) _) _); rintro e w2 ⟨v, rfl, ho, hb2⟩; obtain ⟨A2, c2, rfl⟩ := Kd.R_slice ho; obtain ⟨hcl, hfz⟩ := bcell hb2; have z0 : ¬ (w.heap.size = w2.heap.size) := (by have h_ := hb2.size; simp at h_; omega); have y0 : w.heap.size < w2.heap.size := (by have h_ := hb2.size; simp at h_; omega); have c0_0 : w2.cell? ⟨w.heap.size, 0, none⟩ = some (.slice A l.length c) := (by rw [hcl _ _ (by first | omega | (simp; done) | (simp; omega))]; first | (go_simp; done) | (simp [*]; done) | (simp [go_sem, *]; done)); have f0_0 : w2.frozen? ⟨w.heap.size, 0, none⟩ = false := (by rw [hfz _ _ (by first | omega | (simp; done) | (simp; omega))]; first | (go_simp; done) | (simp [*]; done) | (simp [go_sem, *]; done)); have c0_1 : w2.cell? ⟨w.heap.size, 1, none⟩ = some (.int .i64 nx) := (by rw [hcl _ _ (by first | omega | (simp; done) | (simp; omega))]; first | (go_simp; done) | (simp [*]; done) | (simp [go_sem, *]; done)); have f0_1 : w2.frozen? ⟨w.heap.size, 1, none⟩ = false := (by rw [hfz _ _ (by first | omega | (simp; done) | (simp; omega))]; first | (go_simp; done) | (simp [*]; done) | (simp [go_sem, *]; done)); have z1 : ¬ (w.heap.size + 1 = w2.heap.size) := (by have h_ := hb2.size; simp at h_; omega); have y1 : w.heap.size + 1 < w2.heap.size := (by have h_ := hb2.size; simp at h_; omega); have c1_0 : w2.cell? ⟨w.heap.size + 1, 0, none⟩ = some (.int .u8 r.kind) := (by rw [hcl _ _ (by first | omega | (simp; done) | (simp; omega))]; first | (go_simp; done) | (simp [*]; done) | (simp [go_sem, *]; done)); have c1_1 : w2.cell? ⟨w.heap.size + 1, 1, none⟩ = some (.int .i64 r.id) := (by rw [hcl _ _ (by first | omega | (simp; done) | (simp; omega))]; first | (go_simp; done) | (simp [*]; done) | (simp [go_sem, *]; done)); have c1_36 : w2.cell? ⟨w.heap.size + 1, 36, none⟩ = some (.int .i64 r.off) := (by rw [hcl _ _ (by first | omega | (simp; done) | (simp; omega))]; first | (go_simp; done) | (simp [*]; done) | (simp [go_sem, *]; done)); have z2 : ¬ (w.heap.size + 1 + 1 = w2.heap.size) := (by have h_ := hb2.size; simp at h_; omega); have y2 : w.heap.size + 1 + 1 < w2.heap.size := (by have h_ := hb2.size; simp at h_; omega); have c2_0 : w2.cell? ⟨w.heap.size + 1 + 1, 0, none⟩ = some (.slice none 0 0) := (by rw [hcl _ _ (by first | omega | (simp; done) | (simp; omega))]; first | (go_simp; done) | (simp [*]; done) | (simp [go_sem, *]; done)); have f2_0 : w2.frozen? ⟨w.heap.size + 1 + 1, 0, none⟩ = false := (by rw [hfz _ _ (by first | omega | (simp; done) | (simp; omega))]; first | (go_simp; done) | (simp [*]; done) | (simp [go_sem, *]; done)); have c2_1 : w2.cell? ⟨w.heap.size + 1 + 1, 1, none⟩ = some (.int .i64 0) := (by rw [hcl _ _ (by first | omega | (simp; done) | (simp; omega))]; first | (go_simp; done) | (simp [*]; done) | (simp [go_sem, *]; done)); have f2_1 : w2.frozen? ⟨w.heap.size + 1 + 1, 1, none⟩ = false := (by rw [hfz _ _ (by first | omega | (simp; done) | (simp; omega))]; first | (go_simp; done) | (simp [*]; done) | (simp [go_sem, *]; done)); have r0 : rowAt w2 ⟨w.heap.size + 1, 0, none⟩ 37 = some (rcL r) := (by rw [rowAt_below hb2 (by first | omega | (simp; done) | (simp; omega))]; first | (go_simp; done) | (simp [*]; done) | (simp [go_sem, *]; done)); have HO2 := Aside0.mk (Kd.R_lower (base' := w.heap.size + 1 + 1 + 1) ho (by simp)); have HB2 := Aside0.mk (Below.trans (below_alloc (below_alloc (below_alloc (Below.refl w.heap.size w) _) _) _) (hb2.mono (by simp; omega))); clear hb2 hcl hfz ho) | (go_at_call 80; refine (idx_id A2 c2 l r.id _ _ (Kd.R_reads' (flat_put (flat_put HO2.out (by omega)) (by omega))).2.2 (Nat.le_trans hlen (by decide)) ?hc1).mono ?_; (case hc1 => first | (go_simp; done) | (simp [go_sem, *]; done)); rintro e w3 ⟨rfl, hb3⟩; obtain ⟨hcl, hfz⟩ := bcell hb3; have zi0 : ¬ (w.heap.size = w3.heap.size) := (by have h_ := hb3.size; simp at h_; omega); have yi0 : w.heap.size < w3.heap.size := (by have h_ := hb3.size; simp at h_; omega); have ci0_0 : w3.cell? ⟨w.heap.size, 0, none⟩ = some (.slice A2 l.length c2) := (by rw [hcl _ _ (by first | omega | (simp; done) | (simp; omega))]; first | (go_simp; done) | (simp [*]; done) | (simp [go_sem, *]; done)); have fi0_0 : w3.frozen? ⟨w.heap.size, 0, none⟩ = false := (by rw [hfz _ _ (by first | omega | (simp; done) | (simp; omega))]; first | (go_simp; done) | (simp [*]; done) | (simp [go_sem, *]; done)); have ci0_1 : w3.cell? ⟨w.heap.size, 1, none⟩ = some (.int .i64 nx) := (by rw [hcl _ _ (by first | omega | (simp; done) | (simp; omega))]; first | (go_simp; done) | (simp [*]; done) | (simp [go_sem, *]; done)); have fi0_1 : w3.frozen? ⟨w.heap.size, 1, none⟩ = false := (by rw [hfz _ _ (by first | omega | (simp; done) | (simp; omega))]; first | (go_simp; done) | (simp [*]; done) | (simp [go_sem, *]; done)); have zi1 : ¬ (w.heap.size + 1 = w3.heap.size) := (by have h_ := hb3.size; simp at h_; omega); have yi1 : w.heap.size + 1 < w3.heap.size := (by have h_ := hb3.size; simp at h_; omega); have ci1_0 : w3.cell? ⟨w.heap.size + 1, 0, none⟩ = some (.int .u8 r.kind) := (by rw [hcl _ _ (by first | omega | (simp; done) | (simp; omega))]; first | (go_simp; done) | (simp [*]; done) | (simp [go_sem, *]; done)); have ci1_1 : w3.cell? ⟨w.heap.size + 1, 1, none⟩ = some (.int .i64 r.id) := (by rw [hcl _ _ (by first | omega | (simp; done) | (simp; omega))]; first | (go_simp; done) | (simp [*]; done) | (simp [go_sem, *]; done)); have ci1_36 : w3.cell? ⟨w.heap.size + 1, 36, none⟩ = some (.int .i64 r.off) := (by rw [hcl _ _ (by first | omega | (simp; done) | (simp; omega))]; first | (go_simp; done) | (simp [*]; done) | (simp [go_sem, *]; done)); have zi2 : ¬ (w.heap.size + 1 + 1 = w3.heap.size) := (by have h_ := hb3.size; simp at h_; omega); have yi2 : w.heap.size + 1 + 1 < w3.heap.size := (by have h_ := hb3.size; simp at h_; omega); have ci2_0 : w3.cell? ⟨w.heap.size + 1 + 1, 0, none⟩ = some (.slice none 0 0) := (by rw [hcl _ _ (by first | omega | (simp; done) | (simp; omega))]; first | (go_simp; done) | (simp [*]; done) | (simp [go_sem, *]; done)); have fi2_0 : w3.frozen? ⟨w.heap.size + 1 + 1, 0, none⟩ = false := (by rw [hfz _ _ (by first | omega | (simp; done) | (simp; omega))]; first | (go_simp; done) | (simp [*]; done) | (simp [go_sem, *]; done)); have ci2_1 : w3.cell? ⟨w.heap.size + 1 + 1, 1, none⟩ = some (.int .i64 0) := (by rw [hcl _ _ (by first | omega | (simp; done) | (simp; omega))]; first | (go_simp; done) | (simp [*]; done) | (simp [go_sem, *]; done)); have fi2_1 : w3.frozen? ⟨w.heap.size + 1 + 1, 1, none⟩ = false := (by rw [hfz _ _ (by first | omega | (simp; done) | (simp; omega))]; first | (go_simp; done) | (simp [*]; done) | (simp [go_sem, *]; done)); have ri0 : rowAt w3 ⟨w.heap.size + 1, 0, none⟩ 37 = some (rcL r) := (by rw [rowAt_below hb3 (by first | omega | (simp; done) | (simp; omega))]; first | (go_simp; done) | (simp [*]; done) | (simp [go_sem, *]; done)); have HO3 := Aside0.mk (Kd.R_below (flat_put (flat_put HO2.out (by omega)) (by omega)) hb3); have HB3 := Aside0.mk (Below.trans (below_setCell (below_setCell HB2.out (by omega) _) (by omega) _) (hb3.mono (by simp; omega))); clear hb3 hcl hfz; rw [HI.out]; obtain ⟨g, rfl, hg1, hg2⟩ := R_some HO3.out (Nat.lt_of_le_of_lt (Nat.zero_le _) HIL.out); have HG := Aside0.mk (And.intro hg1 hg2); clear hg1 hg2; obtain ⟨x4, x5⟩ := part_cells HO3.out HX.out; have HG0 := Aside0.mk HB3.out.size))
  refine still_tail_at 23 (by kernel_rfl) (by kernel_rfl) ?_
  intro W hW
  have HOW := Aside0.mk (show Kd.R kPt 75 W (w.heap.size + 1 + 1 + 1) (fun _ => True) (.slice (some ⟨g, 0, none⟩) l.length c2) l from by rw [hW]; exact Kd.R_drew HO3.out)
  have HBW := Aside0.mk (show Below w.heap.size w W from by rw [hW]; exact below_drew HB3.out)
  have hd1 : decide ((i : Int) < 0) = false := by simp
  have hd2 : decide (r.off < p.off) = true := by simp; omega
  have k0 : W.cell? ⟨w.heap.size, 0, none⟩ = some (.slice (some ⟨g, 0, none⟩) l.length c2) := by rw [hW]; exact ci0_0
  have k1 : W.cell? ⟨w.heap.size + 1, 36, none⟩ = some (.int .i64 r.off) := by rw [hW]; exact ci1_36
  have k2 : W.cell? ⟨g, i * 36 + 34, none⟩ = some (.int .i64 p.size) := by rw [hW]; exact x4
  have k3 : W.cell? ⟨g, i * 36 + 35, none⟩ = some (.int .i64 p.off) := by rw [hW]; exact x5
  have HZ := Aside0.mk (show W.cell? ⟨w.heap.size, 0, none⟩ = some (.slice (some ⟨g, 0, none⟩) l.length c2) ∧ W.cell? ⟨w.heap.size, 1, none⟩ = some (.int .i64 nx) ∧ W.frozen? ⟨w.heap.size, 0, none⟩ = false ∧ W.frozen? ⟨w.heap.size, 1, none⟩ = false ∧ W.cell? ⟨w.heap.size + 1 + 1, 0, none⟩ = some (.slice none 0 0) ∧ W.cell? ⟨w.heap.size + 1 + 1, 1, none⟩ = some (.int .i64 0) ∧ W.frozen? ⟨w.heap.size + 1 + 1, 0, none⟩ = false ∧ W.frozen? ⟨w.heap.size + 1 + 1, 1, none⟩ = false from by rw [hW]; exact ⟨ci0_0, ci0_1, fi0_0, fi0_1, ci2_0, ci2_1, fi2_0, fi2_1⟩)
  clear hW z0 y0 c0_0 f0_0 c0_1 f0_1 z1 y1 c1_0 c1_1 c1_36 z2 y2 c2_0 f2_0 c2_1 f2_1 r0 zi0 yi0 ci0_0 fi0_0 ci0_1 fi0_1 zi1 yi1 ci1_0 ci1_1 ci1_36 zi2 yi2 ci2_0 fi2_0 ci2_1 fi2_1 ri0 x4 x5 h1
  simp only [List.take_succ_cons, List.take_zero, List.drop_succ_cons, List.drop_zero]
  repeat (first | ((with_reducible refine wpStill_plain ?hg (fun K hK => ?_)); (case hg => with_reducible rfl); go_simp; refine still_back hK ?_; clear hK K) | ((with_reducible refine wpStill_skip ?hg (fun K hK => ?_)); (case hg => exact rfl); go_simp; refine still_back hK ?_; clear hK K) | ((with_reducible refine wpStill_held ?hg (fun K hK => ?_)); (case hg => exact rfl); go_simp; refine still_back hK ?_; clear hK K))
  refine wpStill_nil ?_
  obtain ⟨j0, j1, j2, j3, j4, j5, j6, j7⟩ := HZ.out
  go_wp2
  refine bodyPost_ret (v := .tuple #[.agg #[.slice (some ⟨g, 0, none⟩) l.length c2, .int .i64 nx], .bool false]) (by simp [results, Tryd.results27, go_sem, *]) rfl ⟨_, by rw [HP.out], ?_, ?_⟩
  · rw [HP.out]; exact Kd.R_lower (flat_put (flat_put (HOW.out) (by omega)) (by omega)) (by omega)
  · have hs3 := HG0.out; (repeat' (first | exact HBW.out | (with_reducible refine below_setCell ?_ ?_ _) | (with_reducible refine below_setRow ?_ ?_ _) | (with_reducible refine Below.alloc ?_ ?_ _) | (with_reducible refine below_drew ?_) | (with_reducible refine pw_below_drewN ?_ _) | (with_reducible exact Below.refl _ _) | omega | (simp; done) | (simp; omega)))
set_option linter.unusedVariables false in
set_option maxHeartbeats 8000000 in
set_option maxRecDepth 100000 in
theorem Step_mark2 (A : Option Addr) (c : Nat) (l : List Pt) (nx : Int) (r : Rc) (w : World) (hC : Kd.C kPt w A l.length l) (hc : l.length ≤ c) (hlen : l.length ≤ 64) (hid : r.id ≤ 2199023255552) (hid0 : -9223372036854775808 ≤ r.id) (hk : r.kind = 1) (i : Nat) (p : Pt) (hn : l.findIdx? (fun x => decide (x.id = r.id)) = some i) (hx : l[i]? = some p) (h1 : ¬ r.off < p.off) (h2 : p.size < r.off) :
    Calls Tryd.prog 27 #[.agg #[.slice A l.length c, .int .i64 nx], .agg (rcL r).toArray] w fun e w' => ∃ v : Value, e = .returned (.tuple #[.agg #[v, .int .i64 (stepP ⟨l, nx⟩ r).1.next], .bool (stepP ⟨l, nx⟩ r).2]) ∧ Kd.R kPt 75 w' w.heap.size (fun _ => True) v (stepP ⟨l, nx⟩ r).1.parts ∧ Below w.heap.size w w' := by
  have HC := Aside0.mk hC
  clear hC
  obtain ⟨hil, hid2, hid3⟩ := List.findIdx?_eq_some_iff_getElem.1 hn
  clear hid3
  have hi := show fstI (fun x : Pt => decide (x.id = r.id)) l = (i : Int) by unfold fstI; rw [hn]
  have HI := Aside0.mk hi
  have HIL := Aside0.mk hil
  have HX := Aside0.mk hx
  have HP := Aside0.mk (show stepP ⟨l, nx⟩ r = (⟨l, nx⟩, false) by simp only [stepP]; rw [if_neg (by rw [hk]; decide), if_neg (by rw [hk]; decide), if_pos hk]; simp only [hn, hx]; rw [if_pos (.inr h2)])
  have hw2 : (i : Int) < (l.length : Int) := by omega
  clear hi hn hil hid2 hx
  go_enter Tryd.func27, Tryd.ntmps27
  go_wp2_with (first | (go_at_call 79; refine (ownS_calls A c l nx _ (Kd.C_below HC.out ?_) hc (Nat.le_trans hlen (by decide))).mono ?_; (exact below_alloc (below_alloc (below_alloc (Below.refl _ _) _) _) _); rintro e w2 ⟨v, rfl, ho, hb2⟩; obtain ⟨A2, c2, rfl⟩ := Kd.R_slice ho; obtain ⟨hcl, hfz⟩ := bcell hb2; have z0 : ¬ (w.heap.size = w2.heap.size) := (by have h_ := hb2.size; simp at h_; omega); have y0 : w.heap.size < w2.heap.size := (by have h_ := hb2.size; simp at h_; omega); have c0_0 : w2.cell? ⟨w.heap.size, 0, none⟩ = some (.slice A l.length c) := (by rw [hcl _ _ (by first | omega | (simp; done) | (simp; omega))]; first | (go_simp; done) | (simp [*]; done) | (simp [go_sem, *]; done)); have f0_0 : w2.frozen? ⟨w.heap.size, 0, none⟩ = false := (by rw [hfz _ _ (by first | omega | (simp; done) | (simp; omega))]; first | (go_simp; done) | (simp [*]; done) | (simp [go_sem, *]; done)); have c0_1 : w2.cell? ⟨w.heap.size, 1, none⟩ = some (.int .i64 nx) := (by rw [hcl _ _ (by first | omega | (simp; done) | (simp; omega))]; first | (go_simp; done) | (simp [*]; done) | (simp [go_sem, *]; done)); have f0_1 : w2.frozen? ⟨w.heap.size, 1, none⟩ = false := (by rw [hfz _ _ (by first | omega | (simp; done) | (simp; omega))]; first | (go_simp; done) | (simp [*]; done) | (simp [go_sem, *]; done)); have z1 : ¬ (w.heap.size + 1 = w2.heap.size) := (by have h_ := hb2.size; simp at h_; omega); have y1 : w.heap.size + 1 < w2.heap.size := (by have h_ := hb2.size; simp at h_; omega); have c1_0 : w2.cell? ⟨w.heap.size + 1, 0, none⟩ = some (.int .u8 r.kind) := (by rw [hcl _ _ (by first | omega | (simp; done) | (simp; omega))]; first | (go_simp; done) | (simp [*]; done) | (simp [go_sem, *]; done)); have c1_1 : w2.cell? ⟨w.heap.size + 1, 1, none⟩ = some (.int .i64 r.id) := (by rw [hcl _ _ (by first | omega | (simp; done) | (simp; omega))]; first | (go_simp; done) | (simp [*]; done) | (simp [go_sem, *]; done)); have c1_36 : w2.cell? ⟨w.heap.size + 1, 36, none⟩ = some (.int .i64 r.off) := (by rw [hcl _ _ (by first | omega | (simp; done) | (simp; omega))]; first | (go_simp; done) | (simp [*]; done) | (simp [go_sem, *]; done)); have z2 : ¬ (w.heap.size + 1 + 1 = w2.heap.size) := (by have h_ := hb2.size; simp at h_; omega); have y2 : w.heap.size + 1 + 1 < w2.heap.size := (by have h_ := hb2.size; simp at h_; omega); have c2_0 : w2.cell? ⟨w.heap.size + 1 + 1, 0, none⟩ = some (.slice none 0 0) := (by rw [hcl _ _ (by first | omega | (simp; done) | (simp; omega))]; first | (go_simp; done) | (simp [*]; done) | (simp [go_sem, *]; done)); have f2_0 : w2.frozen? ⟨w.heap.size + 1 + 1, 0, none⟩ = false := (by rw [hfz _ _ (by first | omega | (simp; done) | (simp; omega))]; first | (go_simp; done) | (simp [*]; done) | (simp [go_sem, *]; done)); have c2_1 : w2.cell? ⟨w.heap.size + 1 + 1, 1, none⟩ = some (.int .i64 0) := (by rw [hcl _ _ (by first | omega | (simp; done) | (simp; omega))]; first | (go_simp; done) | (simp [*]; done) | (simp [go_sem, *]; done)); have f2_1 : w2.frozen? ⟨w.heap.size + 1 + 1, 1, none⟩ = false := (by rw [hfz _ _ (by first | omega | (simp; done) | (simp; omega))]; first | (go_simp; done) | (simp [*]; done) | (simp [go_sem, *]; done)); have r0 : rowAt w2 ⟨w.heap.size + 1, 0, none⟩ 37 = some (rcL r) := (by rw [rowAt_below hb2 (by first | omega | (simp; done) | (simp; omega))]; first | (go_simp; done) | (simp [*]; done) | (simp [go_sem, *]; done)); have HO2 := Aside0.mk (Kd.R_lower (base' := w.heap.size + 1 + 1 + 1) ho (by simp)); have HB2 := Aside0.mk (Below.trans (below_alloc (below_alloc (below_alloc (Below.refl w.heap.size w) _) _) _) (hb2.mono (by simp; omega))); clear hb2 hcl hfz ho) | (go_at_call 80; refine (idx_id A2 c2 l r.id _ _ (Kd.R_reads' (flat_put (flat_put HO2.out (by omega)) (by omega))).2.2 (Nat.le_trans hlen (by decide)) ?hc1).mono ?_; (case hc1 => first | (go_simp; done) | (simp [go_sem, *]; done)); rintro e w3 ⟨rfl, hb3⟩; obtain ⟨hcl, hfz⟩ := bcell hb3; have zi0 : ¬ (w.heap.size = w3.heap.size) := (by have h_ := hb3.size; simp at h_; omega); have yi0 : w.heap.size < w3.heap.size := (by have h_ := hb3.size; simp at h_; omega); have ci0_0 : w3.cell? ⟨w.heap.size, 0, none⟩ = some (.slice A2 l.length c2) := (by rw [hcl _ _ (by first | omega | (simp; done) | (simp; omega))]; first | (go_simp; done) | (simp [*]; done) | (simp [go_sem, *]; done)); have fi0_0 : w3.frozen? ⟨w.heap.size, 0, none⟩ = false := (by rw [hfz _ _ (by first | omega | (simp; done) | (simp; omega))]; first | (go_simp; done) | (simp [*]; done) | (simp [go_sem, *]; done)); have ci0_1 : w3.cell? ⟨w.heap.size, 1, none⟩ = some (.int .i64 nx) := (by rw [hcl _ _ (by first | omega | (simp; done) | (simp; omega))]; first | (go_simp; done) | (simp [*]; done) | (simp [go_sem, *]; done)); have fi0_1 : w3.frozen? ⟨w.heap.size, 1, none⟩ = false := (by rw [hfz _ _ (by first | omega | (simp; done) | (simp; omega))]; first | (go_simp; done) | (simp [*]; done) | (simp [go_sem, *]; done)); have zi1 : ¬ (w.heap.size + 1 = w3.heap.size) := (by have h_ := hb3.size; simp at h_; omega); have yi1 : w.heap.size + 1 < w3.heap.size := (by have h_ := hb3.size; simp at h_; omega); have ci1_0 : w3.cell? ⟨w.heap.size + 1, 0, none⟩ = some (.int .u8 r.kind) := (by rw [hcl _ _ (by first | omega | (simp; done) | (simp; omega))]; first | (go_simp; done) | (simp [*]; done) | (simp [go_sem, *]; done)); have ci1_1 : w3.cell? ⟨w.heap.size + 1, 1, none⟩ = some (.int .i64 r.id) := (by rw [hcl _ _ (by first | omega | (simp; done) | (simp; omega))]; first | (go_simp; done) | (simp [*]; done) | (simp [go_sem, *]; done)); have ci1_36 : w3.cell? ⟨w.heap.size + 1, 36, none⟩ = some (.int .i64 r.off) := (by rw [hcl _ _ (by first | omega | (simp; done) | (simp; omega))]; first | (go_simp; done) | (simp [*]; done) | (simp [go_sem, *]; done)); have zi2 : ¬ (w.heap.size + 1 + 1 = w3.heap.size) := (by have h_ := hb3.size; simp at h_; omega); have yi2 : w.heap.size + 1 + 1 < w3.heap.size := (by have h_ := hb3.size; simp at h_; omega); have ci2_0 : w3.cell? ⟨w.heap.size + 1 + 1, 0, none⟩ = some (.slice none 0 0) := (by rw [hcl _ _ (by first | omega | (simp; done) | (simp; omega))]; first | (go_simp; done) | (simp [*]; done) | (simp [go_sem, *]; done)); have fi2_0 : w3.frozen? ⟨w.heap.size + 1 + 1, 0, none⟩ = false := (by rw [hfz _ _ (by first | omega | (simp; done) | (simp; omega))]; first | (go_simp; done) | (simp [*]; done) | (simp [go_sem, *]; done)); have ci2_1 : w3.cell? ⟨w.heap.size + 1 + 1, 1, none⟩ = some (.int .i64 0) := (by rw [hcl _ _ (by first | omega | (simp; done) | (simp; omega))]; first | (go_simp; done) | (simp [*]; done) | (simp [go_sem, *]; done)); have fi2_1 : w3.frozen? ⟨w.heap.size + 1 + 1, 1, none⟩ = false := (by rw [hfz _ _ (by first | omega | (simp; done) | (simp; omega))]; first | (go_simp; done) | (simp [*]; done) | (simp [go_sem, *]; done)); have ri0 : rowAt w3 ⟨w.heap.size + 1, 0, none⟩ 37 = some (rcL r) := (by rw [rowAt_below hb3 (by first | omega | (simp; done) | (simp; omega))]; first | (go_simp; done) | (simp [*]; done) | (simp [go_sem, *]; done)); have HO3 := Aside0.mk (Kd.R_below (flat_put (flat_put HO2.out (by omega)) (by omega)) hb3); have HB3 := Aside0.mk (Below.trans (below_setCell (below_setCell HB2.out (by omega) _) (by omega) _) (hb3.mono (by simp; omega))); clear hb3 hcl hfz; rw [HI.out]; obtain ⟨g, rfl, hg1, hg2⟩ := R_some HO3.out (Nat.lt_of_le_of_lt (Nat.zero_le _) HIL.out); have HG := Aside0.mk (And.intro hg1 hg2); clear hg1 hg2; obtain ⟨x4, x5⟩ := part_cells HO3.out HX.out; have HG0 := Aside0.mk HB3.out.size))
  refine still_tail_at 23 (by kernel_rfl) (by kernel_rfl) ?_
  intro W hW
  have HOW := Aside0.mk (show Kd.R kPt 75 W (w.heap.size + 1 + 1 + 1) (fun _ => True) (.slice (some ⟨g, 0, none⟩) l.length c2) l from by rw [hW]; exact Kd.R_drew HO3.out)
  have HBW := Aside0.mk (show Below w.heap.size w W from by rw [hW]; exact below_drew HB3.out)
  have hd1 : decide ((i : Int) < 0) = false := by simp
  have hd2 : decide (r.off < p.off) = false := by simp; omega
  have hd3 : decide (p.size < r.off) = true := by simp; omega
  have k0 : W.cell? ⟨w.heap.size, 0, none⟩ = some (.slice (some ⟨g, 0, none⟩) l.length c2) := by rw [hW]; exact ci0_0
  have k1 : W.cell? ⟨w.heap.size + 1, 36, none⟩ = some (.int .i64 r.off) := by rw [hW]; exact ci1_36
  have k2 : W.cell? ⟨g, i * 36 + 34, none⟩ = some (.int .i64 p.size) := by rw [hW]; exact x4
  have k3 : W.cell? ⟨g, i * 36 + 35, none⟩ = some (.int .i64 p.off) := by rw [hW]; exact x5
  have HZ := Aside0.mk (show W.cell? ⟨w.heap.size, 0, none⟩ = some (.slice (some ⟨g, 0, none⟩) l.length c2) ∧ W.cell? ⟨w.heap.size, 1, none⟩ = some (.int .i64 nx) ∧ W.frozen? ⟨w.heap.size, 0, none⟩ = false ∧ W.frozen? ⟨w.heap.size, 1, none⟩ = false ∧ W.cell? ⟨w.heap.size + 1 + 1, 0, none⟩ = some (.slice none 0 0) ∧ W.cell? ⟨w.heap.size + 1 + 1, 1, none⟩ = some (.int .i64 0) ∧ W.frozen? ⟨w.heap.size + 1 + 1, 0, none⟩ = false ∧ W.frozen? ⟨w.heap.size + 1 + 1, 1, none⟩ = false from by rw [hW]; exact ⟨ci0_0, ci0_1, fi0_0, fi0_1, ci2_0, ci2_1, fi2_0, fi2_1⟩)
  clear hW z0 y0 c0_0 f0_0 c0_1 f0_1 z1 y1 c1_0 c1_1 c1_36 z2 y2 c2_0 f2_0 c2_1 f2_1 r0 zi0 yi0 ci0_0 fi0_0 ci0_1 fi0_1 zi1 yi1 ci1_0 ci1_1 ci1_36 zi2 yi2 ci2_0 fi2_0 ci2_1 fi2_1 ri0 x4 x5 h1 h2
  simp only [List.take_succ_cons, List.take_zero, List.drop_succ_cons, List.drop_zero]
  repeat (first | ((with_reducible refine wpStill_plain ?hg (fun K hK => ?_)); (case hg => with_reducible rfl); go_simp; refine still_back hK ?_; clear hK K) | ((with_reducible refine wpStill_skip ?hg (fun K hK => ?_)); (case hg => exact rfl); go_simp; refine still_back hK ?_; clear hK K) | ((with_reducible refine wpStill_held ?hg (fun K hK => ?_)); (case hg => exact rfl); go_simp; refine still_back hK ?_; clear hK K))
  refine wpStill_nil ?_
  obtain ⟨j0, j1, j2, j3, j4, j5, j6, j7⟩ := HZ.out
  go_wp2
  refine bodyPost_ret (v := .tuple #[.agg #[.slice (some ⟨g, 0, none⟩) l.length c2, .int .i64 nx], .bool false]) (by simp [results, Tryd.results27, go_sem, *]) rfl ⟨_, by rw [HP.out], ?_, ?_⟩
  · rw [HP.out]; exact Kd.R_lower (flat_put (flat_put (HOW.out) (by omega)) (by omega)) (by omega)
  · have hs3 := HG0.out; (repeat' (first | exact HBW.out | (with_reducible refine below_setCell ?_ ?_ _) | (with_reducible refine below_setRow ?_ ?_ _) | (with_reducible refine Below.alloc ?_ ?_ _) | (with_reducible refine below_drew ?_) | (with_reducible refine pw_below_drewN ?_ _) | (with_reducible exact Below.refl _ _) | omega | (simp; done) | (simp; omega)))
set_option linter.unusedVariables false in
set_option maxHeartbeats 8000000 in
set_option maxRecDepth 100000 in
theorem Step_mark3 (A : Option Addr) (c : Nat) (l : List Pt) (nx : Int) (r : Rc) (w : World) (hC : Kd.C kPt w A l.length l) (hc : l.length ≤ c) (hlen : l.length ≤ 64) (hid : r.id ≤ 2199023255552) (hid0 : -9223372036854775808 ≤ r.id) (hk : r.kind = 1) (i : Nat) (p : Pt) (hn : l.findIdx? (fun x => decide (x.id = r.id)) = some i) (hx : l[i]? = some p) (h1 : ¬ r.off < p.off) (h2 : ¬ p.size < r.off) :
    Calls Tryd.prog 27 #[.agg #[.slice A l.length c, .int .i64 nx], .agg (rcL r).toArray] w fun e w' => ∃ v : Value, e = .returned (.tuple #[.agg #[v, .int .i64 (stepP ⟨l, nx⟩ r).1.next], .bool (stepP ⟨l, nx⟩ r).2]) ∧ Kd.R kPt 75 w' w.heap.size (fun _ => True) v (stepP ⟨l, nx⟩ r).1.parts ∧ Below w.heap.size w w' := by
  have HC := Aside0.mk hC
  clear hC
  obtain ⟨hil, hid2, hid3⟩ := List.findIdx?_eq_some_iff_getElem.1 hn
  clear hid3
  have hi := show fstI (fun x : Pt => decide (x.id = r.id)) l = (i : Int) by unfold fstI; rw [hn]
  have HI := Aside0.mk hi
  have HIL := Aside0.mk hil
  have HX := Aside0.mk hx
  have HP := Aside0.mk (show stepP ⟨l, nx⟩ r = (⟨l.set i { p with off := r.off }, nx⟩, true) by simp only [stepP]; rw [if_neg (by rw [hk]; decide), if_neg (by rw [hk]; decide), if_pos hk]; simp only [hn, hx]; rw [if_neg (fun h => h.elim h1 h2)])
  have hw2 : (i : Int) < (l.length : Int) := by omega
  clear hi hn hil hid2 hx
  go_enter Tryd.func27, Tryd.ntmps27
  go_wp2_with (first | (go_at_call 79; refine (ownS_calls A c l nx _ (Kd.C_below HC.out ?_) hc (Nat.le_trans hlen (by decide))).mono ?_; (exact below_alloc (below_alloc (below_alloc (Below.refl _ _) _) _) _); rintro e w2 ⟨v, rfl, ho, hb2⟩; obtain ⟨A2, c2, rfl⟩ := Kd.R_slice ho; obtain ⟨hcl, hfz⟩ := bcell hb2; have z0 : ¬ (w.heap.size = w2.heap.size) := (by have h_ := hb2.size; simp at h_; omega); have y0 : w.heap.size < w2.heap.size := (by have h_ := hb2.size; simp at h_; omega); have c0_0 : w2.cell? ⟨w.heap.size, 0, none⟩ = some (.slice A l.length c) := (by rw [hcl _ _ (by first | omega | (simp; done) | (simp; omega))]; first | (go_simp; done) | (simp [*]; done) | (simp [go_sem, *]; done)); have f0_0 : w2.frozen? ⟨w.heap.size, 0, none⟩ = false := (by rw [hfz _ _ (by first | omega | (simp; done) | (simp; omega))]; first | (go_simp; done) | (simp [*]; done) | (simp [go_sem, *]; done)); have c0_1 : w2.cell? ⟨w.heap.size, 1, none⟩ = some (.int .i64 nx) := (by rw [hcl _ _ (by first | omega | (simp; done) | (simp; omega))]; first | (go_simp; done) | (simp [*]; done) | (simp [go_sem, *]; done)); have f0_1 : w2.frozen? ⟨w.heap.size, 1, none⟩ = false := (by rw [hfz _ _ (by first | omega | (simp; done) | (simp; omega))]; first | (go_simp; done) | (simp [*]; done) | (simp [go_sem, *]; done)); have z1 : ¬ (w.heap.size + 1 = w2.heap.size) := (by have h_ := hb2.size; simp at h_; omega); have y1 : w.heap.size + 1 < w2.heap.size := (by have h_ := hb2.size; simp at h_; omega); have c1_0 : w2.cell? ⟨w.heap.size + 1, 0, none⟩ = some (.int .u8 r.kind) := (by rw [hcl _ _ (by first | omega | (simp; done) | (simp; omega))]; first | (go_simp; done) | (simp [*]; done) | (simp [go_sem, *]; done)); have c1_1 : w2.cell? ⟨w.heap.size + 1, 1, none⟩ = some (.int .i64 r.id) := (by rw [hcl _ _ (by first | omega | (simp; done) | (simp; omega))]; first | (go_simp; done) | (simp [*]; done) | (simp [go_sem, *]; done)); have c1_36 : w2.cell? ⟨w.heap.size + 1, 36, none⟩ = some (.int .i64 r.off) := (by rw [hcl _ _ (by first | omega | (simp; done) | (simp; omega))]; first | (go_simp; done) | (simp [*]; done) | (simp [go_sem, *]; done)); have z2 : ¬ (w.heap.size + 1 + 1 = w2.heap.size) := (by have h_ := hb2.size; simp at h_; omega); have y2 : w.heap.size + 1 + 1 < w2.heap.size := (by have h_ := hb2.size; simp at h_; omega); have c2_0 : w2.cell? ⟨w.heap.size + 1 + 1, 0, none⟩ = some (.slice none 0 0) := (by rw [hcl _ _ (by first | omega | (simp; done) | (simp; omega))]; first | (go_simp; done) | (simp [*]; done) | (simp [go_sem, *]; done)); have f2_0 : w2.frozen? ⟨w.heap.size + 1 + 1, 0, none⟩ = false := (by rw [hfz _ _ (by first | omega | (simp; done) | (simp; omega))]; first | (go_simp; done) | (simp [*]; done) | (simp [go_sem, *]; done)); have c2_1 : w2.cell? ⟨w.heap.size + 1 + 1, 1, none⟩ = some (.int .i64 0) := (by rw [hcl _ _ (by first | omega | (simp; done) | (simp; omega))]; first | (go_simp; done) | (simp [*]; done) | (simp [go_sem, *]; done)); have f2_1 : w2.frozen? ⟨w.heap.size + 1 + 1, 1, none⟩ = false := (by rw [hfz _ _ (by first | omega | (simp; done) | (simp; omega))]; first | (go_simp; done) | (simp [*]; done) | (simp [go_sem, *]; done)); have r0 : rowAt w2 ⟨w.heap.size + 1, 0, none⟩ 37 = some (rcL r) := (by rw [rowAt_below hb2 (by first | omega | (simp; done) | (simp; omega))]; first | (go_simp; done) | (simp [*]; done) | (simp [go_sem, *]; done)); have HO2 := Aside0.mk (Kd.R_lower (base' := w.heap.size + 1 + 1 + 1) ho (by simp)); have HB2 := Aside0.mk (Below.trans (below_alloc (below_alloc (below_alloc (Below.refl w.heap.size w) _) _) _) (hb2.mono (by simp; omega))); clear hb2 hcl hfz ho) | (go_at_call 80; refine (idx_id A2 c2 l r.id _ _ (Kd.R_reads' (flat_put (flat_put HO2.out (by omega)) (by omega))).2.2 (Nat.le_trans hlen (by decide)) ?hc1).mono ?_; (case hc1 => first | (go_simp; done) | (simp [go_sem, *]; done)); rintro e w3 ⟨rfl, hb3⟩; obtain ⟨hcl, hfz⟩ := bcell hb3; have zi0 : ¬ (w.heap.size = w3.heap.size) := (by have h_ := hb3.size; simp at h_; omega); have yi0 : w.heap.size < w3.heap.size := (by have h_ := hb3.size; simp at h_; omega); have ci0_0 : w3.cell? ⟨w.heap.size, 0, none⟩ = some (.slice A2 l.length c2) := (by rw [hcl _ _ (by first | omega | (simp; done) | (simp; omega))]; first | (go_simp; done) | (simp [*]; done) | (simp [go_sem, *]; done)); have fi0_0 : w3.frozen? ⟨w.heap.size, 0, none⟩ = false := (by rw [hfz _ _ (by first | omega | (simp; done) | (simp; omega))]; first | (go_simp; done) | (simp [*]; done) | (simp [go_sem, *]; done)); have ci0_1 : w3.cell? ⟨w.heap.size, 1, none⟩ = some (.int .i64 nx) := (by rw [hcl _ _ (by first | omega | (simp; done) | (simp; omega))]; first | (go_simp; done) | (simp [*]; done) | (simp [go_sem, *]; done)); have fi0_1 : w3.frozen? ⟨w.heap.size, 1, none⟩ = false := (by rw [hfz _ _ (by first | omega | (simp; done) | (simp; omega))]; first | (go_simp; done) | (simp [*]; done) | (simp [go_sem, *]; done)); have zi1 : ¬ (w.heap.size + 1 = w3.heap.size) := (by have h_ := hb3.size; simp at h_; omega); have yi1 : w.heap.size + 1 < w3.heap.size := (by have h_ := hb3.size; simp at h_; omega); have ci1_0 : w3.cell? ⟨w.heap.size + 1, 0, none⟩ = some (.int .u8 r.kind) := (by rw [hcl _ _ (by first | omega | (simp; done) | (simp; omega))]; first | (go_simp; done) | (simp [*]; done) | (simp [go_sem, *]; done)); have ci1_1 : w3.cell? ⟨w.heap.size + 1, 1, none⟩ = some (.int .i64 r.id) := (by rw [hcl _ _ (by first | omega | (simp; done) | (simp; omega))]; first | (go_simp; done) | (simp [*]; done) | (simp [go_sem, *]; done)); have ci1_36 : w3.cell? ⟨w.heap.size + 1, 36, none⟩ = some (.int .i64 r.off) := (by rw [hcl _ _ (by first | omega | (simp; done) | (simp; omega))]; first | (go_simp; done) | (simp [*]; done) | (simp [go_sem, *]; done)); have zi2 : ¬ (w.heap.size + 1 + 1 = w3.heap.size) := (by have h_ := hb3.size; simp at h_; omega); have yi2 : w.heap.size + 1 + 1 < w3.heap.size := (by have h_ := hb3.size; simp at h_; omega); have ci2_0 : w3.cell? ⟨w.heap.size + 1 + 1, 0, none⟩ = some (.slice none 0 0) := (by rw [hcl _ _ (by first | omega | (simp; done) | (simp; omega))]; first | (go_simp; done) | (simp [*]; done) | (simp [go_sem, *]; done)); have fi2_0 : w3.frozen? ⟨w.heap.size + 1 + 1, 0, none⟩ = false := (by rw [hfz _ _ (by first | omega | (simp; done) | (simp; omega))]; first | (go_simp; done) | (simp [*]; done) | (simp [go_sem, *]; done)); have ci2_1 : w3.cell? ⟨w.heap.size + 1 + 1, 1, none⟩ = some (.int .i64 0) := (by rw [hcl _ _ (by first | omega | (simp; done) | (simp; omega))]; first | (go_simp; done) | (simp [*]; done) | (simp [go_sem, *]; done)); have fi2_1 : w3.frozen? ⟨w.heap.size + 1 + 1, 1, none⟩ = false := (by rw [hfz _ _ (by first | omega | (simp; done) | (simp; omega))]; first | (go_simp; done) | (simp [*]; done) | (simp [go_sem, *]; done)); have ri0 : rowAt w3 ⟨w.heap.size + 1, 0, none⟩ 37 = some (rcL r) := (by rw [rowAt_below hb3 (by first | omega | (simp; done) | (simp; omega))]; first | (go_simp; done) | (simp [*]; done) | (simp [go_sem, *]; done)); have HO3 := Aside0.mk (Kd.R_below (flat_put (flat_put HO2.out (by omega)) (by omega)) hb3); have HB3 := Aside0.mk (Below.trans (below_setCell (below_setCell HB2.out (by omega) _) (by omega) _) (hb3.mono (by simp; omega))); clear hb3 hcl hfz; rw [HI.out]; obtain ⟨g, rfl, hg1, hg2⟩ := R_some HO3.out (Nat.lt_of_le_of_lt (Nat.zero_le _) HIL.out); have HG := Aside0.mk (And.intro hg1 hg2); clear hg1 hg2; obtain ⟨x4, x5⟩ := part_cells HO3.out HX.out; have HG0 := Aside0.mk HB3.out.size))
  refine still_tail_at 23 (by kernel_rfl) (by kernel_rfl) ?_
  intro W hW
  have HOW := Aside0.mk (show Kd.R kPt 75 W (w.heap.size + 1 + 1 + 1) (fun _ => True) (.slice (some ⟨g, 0, none⟩) l.length c2) l from by rw [hW]; exact Kd.R_drew HO3.out)
  have HBW := Aside0.mk (show Below w.heap.size w W from by rw [hW]; exact below_drew HB3.out)
  have hd1 : decide ((i : Int) < 0) = false := by simp
  have hd2 : decide (r.off < p.off) = false := by simp; omega
  have hd3 : decide (p.size < r.off) = false := by simp; omega
  have k0 : W.cell? ⟨w.heap.size, 0, none⟩ = some (.slice (some ⟨g, 0, none⟩) l.length c2) := by rw [hW]; exact ci0_0
  have k1 : W.cell? ⟨w.heap.size + 1, 36, none⟩ = some (.int .i64 r.off) := by rw [hW]; exact ci1_36
  have k2 : W.cell? ⟨g, i * 36 + 34, none⟩ = some (.int .i64 p.size) := by rw [hW]; exact x4
  have k3 : W.cell? ⟨g, i * 36 + 35, none⟩ = some (.int .i64 p.off) := by rw [hW]; exact x5
  have HZ := Aside0.mk (show W.cell? ⟨w.heap.size, 0, none⟩ = some (.slice (some ⟨g, 0, none⟩) l.length c2) ∧ W.cell? ⟨w.heap.size, 1, none⟩ = some (.int .i64 nx) ∧ W.frozen? ⟨w.heap.size, 0, none⟩ = false ∧ W.frozen? ⟨w.heap.size, 1, none⟩ = false ∧ W.cell? ⟨w.heap.size + 1 + 1, 0, none⟩ = some (.slice none 0 0) ∧ W.cell? ⟨w.heap.size + 1 + 1, 1, none⟩ = some (.int .i64 0) ∧ W.frozen? ⟨w.heap.size + 1 + 1, 0, none⟩ = false ∧ W.frozen? ⟨w.heap.size + 1 + 1, 1, none⟩ = false ∧ W.cell? ⟨g, i * 36 + 35, none⟩ = some (.int .i64 p.off) ∧ W.frozen? ⟨g, i * 36 + 35, none⟩ = false from by rw [hW]; exact ⟨ci0_0, ci0_1, fi0_0, fi0_1, ci2_0, ci2_1, fi2_0, fi2_1, x5, part_frozen HO3.out _⟩)
  clear hW z0 y0 c0_0 f0_0 c0_1 f0_1 z1 y1 c1_0 c1_1 c1_36 z2 y2 c2_0 f2_0 c2_1 f2_1 r0 zi0 yi0 ci0_0 fi0_0 ci0_1 fi0_1 zi1 yi1 ci1_0 ci1_1 ci1_36 zi2 yi2 ci2_0 fi2_0 ci2_1 fi2_1 ri0 x4 x5 h1 h2
  simp only [List.take_succ_cons, List.take_zero, List.drop_succ_cons, List.drop_zero]
  repeat (first | ((with_reducible refine wpStill_plain ?hg (fun K hK => ?_)); (case hg => with_reducible rfl); go_simp; refine still_back hK ?_; clear hK K) | ((with_reducible refine wpStill_skip ?hg (fun K hK => ?_)); (case hg => exact rfl); go_simp; refine still_back hK ?_; clear hK K) | ((with_reducible refine wpStill_held ?hg (fun K hK => ?_)); (case hg => exact rfl); go_simp; refine still_back hK ?_; clear hK K))
  refine wpStill_nil ?_
  obtain ⟨j0, j1, j2, j3, j4, j5, j6, j7, j8, j9⟩ := HZ.out
  have n1 : ¬ (w.heap.size = g) := by have := HG.out.1; omega
  have n2 : ¬ (g = w.heap.size) := by have := HG.out.1; omega
  have n3 : ¬ (w.heap.size + 1 = g) := by have := HG.out.1; omega
  have n4 : ¬ (w.heap.size + 1 + 1 = g) := by have := HG.out.1; omega
  go_wp2
  refine bodyPost_ret (v := .tuple #[.agg #[.slice (some ⟨g, 0, none⟩) l.length c2, .int .i64 nx], .bool true]) (by simp [results, Tryd.results27, go_sem, *]) rfl ⟨_, by rw [HP.out], ?_, ?_⟩
  · have hg3 := HG.out.1; rw [HP.out]; exact Kd.R_lower (flat_put (flat_put (part_off HOW.out HX.out r.off) (by omega)) (by omega)) (by omega)
  · have hs3 := HG0.out; have hg3 := HG.out.1; (repeat' (first | exact HBW.out | (with_reducible refine below_setCell ?_ ?_ _) | (with_reducible refine below_setRow ?_ ?_ _) | (with_reducible refine Below.alloc ?_ ?_ _) | (with_reducible refine below_drew ?_) | (with_reducible refine pw_below_drewN ?_ _) | (with_reducible exact Below.refl _ _) | omega | (simp; done) | (simp; omega)))
set_option linter.unusedVariables false in
set_option maxHeartbeats 8000000 in
set_option maxRecDepth 100000 in
theorem Step_mark0 (A : Option Addr) (c : Nat) (l : List Pt) (nx : Int) (r : Rc) (w : World) (hC : Kd.C kPt w A l.length l) (hc : l.length ≤ c) (hlen : l.length ≤ 64) (hid : r.id ≤ 2199023255552) (hid0 : -9223372036854775808 ≤ r.id) (hk : r.kind = 1) (hn : l.findIdx? (fun x => decide (x.id = r.id)) = none) :
    Calls Tryd.prog 27 #[.agg #[.slice A l.length c, .int .i64 nx], .agg (rcL r).toArray] w fun e w' => ∃ v : Value, e = .returned (.tuple #[.agg #[v, .int .i64 (stepP ⟨l, nx⟩ r).1.next], .bool (stepP ⟨l, nx⟩ r).2]) ∧ Kd.R kPt 75 w' w.heap.size (fun _ => True) v (stepP ⟨l, nx⟩ r).1.parts ∧ Below w.heap.size w w' := by
  have HC := Aside0.mk hC
  clear hC
  have hi := show fstI (fun x : Pt => decide (x.id = r.id)) l = -1 by unfold fstI; rw [hn]
  have HI := Aside0.mk hi
  have HP := Aside0.mk (show stepP ⟨l, nx⟩ r = (⟨l, nx⟩, false) by simp [stepP, hk, hn])
  clear hi hn
  go_enter Tryd.func27, Tryd.ntmps27
  go_wp2_with (first | (go_at_call 79; refine (ownS_calls A c l nx _ (Kd.C_below HC.out ?_) hc (Nat.le_trans hlen (by decide))).mono ?_; (exact below_alloc (below_alloc (below_alloc (Below.refl _ _) _) _) _); rintro e w2 ⟨v, rfl, ho, hb2⟩; obtain ⟨A2, c2, rfl⟩ := Kd.R_slice ho; obtain ⟨hcl, hfz⟩ := bcell hb2; have z0 : ¬ (w.heap.size = w2.heap.size) := (by have h_ := hb2.size; simp at h_; omega); have y0 : w.heap.size < w2.heap.size := (by have h_ := hb2.size; simp at h_; omega); have c0_0 : w2.cell? ⟨w.heap.size, 0, none⟩ = some (.slice A l.length c) := (by rw [hcl _ _ (by first | omega | (simp; done) | (simp; omega))]; first | (go_simp; done) | (simp [*]; done) | (simp [go_sem, *]; done)); have f0_0 : w2.frozen? ⟨w.heap.size, 0, none⟩ = false := (by rw [hfz _ _ (by first | omega | (simp; done) | (simp; omega))]; first | (go_simp; done) | (simp [*]; done) | (simp [go_sem, *]; done)); have c0_1 : w2.cell? ⟨w.heap.size, 1, none⟩ = some (.int .i64 nx) := (by rw [hcl _ _ (by first | omega | (simp; done) | (simp; omega))]; first | (go_simp; done) | (simp [*]; done) | (simp [go_sem, *]; done)); have f0_1 : w2.frozen? ⟨w.heap.size, 1, none⟩ = false := (by rw [hfz _ _ (by first | omega | (simp; done) | (simp; omega))]; first | (go_simp; done) | (simp [*]; done) | (simp [go_sem, *]; done)); have z1 : ¬ (w.heap.size + 1 = w2.heap.size) := (by have h_ := hb2.size; simp at h_; omega); have y1 : w.heap.size + 1 < w2.heap.size := (by have h_ := hb2.size; simp at h_; omega); have c1_0 : w2.cell? ⟨w.heap.size + 1, 0, none⟩ = some (.int .u8 r.kind) := (by rw [hcl _ _ (by first | omega | (simp; done) | (simp; omega))]; first | (go_simp; done) | (simp [*]; done) | (simp [go_sem, *]; done)); have c1_1 : w2.cell? ⟨w.heap.size + 1, 1, none⟩ = some (.int .i64 r.id) := (by rw [hcl _ _ (by first | omega | (simp; done) | (simp; omega))]; first | (go_simp; done) | (simp [*]; done) | (simp [go_sem, *]; done)); have c1_36 : w2.cell? ⟨w.heap.size + 1, 36, none⟩ = some (.int .i64 r.off) := (by rw [hcl _ _ (by first | omega | (simp; done) | (simp; omega))]; first | (go_simp; done) | (simp [*]; done) | (simp [go_sem, *]; done)); have z2 : ¬ (w.heap.size + 1 + 1 = w2.heap.size) := (by have h_ := hb2.size; simp at h_; omega); have y2 : w.heap.size + 1 + 1 < w2.heap.size := (by have h_ := hb2.size; simp at h_; omega); have c2_0 : w2.cell? ⟨w.heap.size + 1 + 1, 0, none⟩ = some (.slice none 0 0) := (by rw [hcl _ _ (by first | omega | (simp; done) | (simp; omega))]; first | (go_simp; done) | (simp [*]; done) | (simp [go_sem, *]; done)); have f2_0 : w2.frozen? ⟨w.heap.size + 1 + 1, 0, none⟩ = false := (by rw [hfz _ _ (by first | omega | (simp; done) | (simp; omega))]; first | (go_simp; done) | (simp [*]; done) | (simp [go_sem, *]; done)); have c2_1 : w2.cell? ⟨w.heap.size + 1 + 1, 1, none⟩ = some (.int .i64 0) := (by rw [hcl _ _ (by first | omega | (simp; done) | (simp; omega))]; first | (go_simp; done) | (simp [*]; done) | (simp [go_sem, *]; done)); have f2_1 : w2.frozen? ⟨w.heap.size + 1 + 1, 1, none⟩ = false := (by rw [hfz _ _ (by first | omega | (simp; done) | (simp; omega))]; first | (go_simp; done) | (simp [*]; done) | (simp [go_sem, *]; done)); have r0 : rowAt w2 ⟨w.heap.size + 1, 0, none⟩ 37 = some (rcL r) := (by rw [rowAt_below hb2 (by first | omega | (simp; done) | (simp; omega))]; first | (go_simp; done) | (simp [*]; done) | (simp [go_sem, *]; done)); have HO2 := Aside0.mk (Kd.R_lower (base' := w.heap.size + 1 + 1 + 1) ho (by simp)); have HB2 := Aside0.mk (Below.trans (below_alloc (below_alloc (below_alloc (Below.refl w.heap.size w) _) _) _) (hb2.mono (by simp; omega))); clear hb2 hcl hfz ho) | (go_at_call 80; refine (idx_id A2 c2 l r.id _ _ (Kd.R_reads' (flat_put (flat_put HO2.out (by omega)) (by omega))).2.2 (Nat.le_trans hlen (by decide)) ?hc1).mono ?_; (case hc1 => first | (go_simp; done) | (simp [go_sem, *]; done)); rintro e w3 ⟨rfl, hb3⟩; obtain ⟨hcl, hfz⟩ := bcell hb3; have zi0 : ¬ (w.heap.size = w3.heap.size) := (by have h_ := hb3.size; simp at h_; omega); have yi0 : w.heap.size < w3.heap.size := (by have h_ := hb3.size; simp at h_; omega); have ci0_0 : w3.cell? ⟨w.heap.size, 0, none⟩ = some (.slice A2 l.length c2) := (by rw [hcl _ _ (by first | omega | (simp; done) | (simp; omega))]; first | (go_simp; done) | (simp [*]; done) | (simp [go_sem, *]; done)); have fi0_0 : w3.frozen? ⟨w.heap.size, 0, none⟩ = false := (by rw [hfz _ _ (by first | omega | (simp; done) | (simp; omega))]; first | (go_simp; done) | (simp [*]; done) | (simp [go_sem, *]; done)); have ci0_1 : w3.cell? ⟨w.heap.size, 1, none⟩ = some (.int .i64 nx) := (by rw [hcl _ _ (by first | omega | (simp; done) | (simp; omega))]; first | (go_simp; done) | (simp [*]; done) | (simp [go_sem, *]; done)); have fi0_1 : w3.frozen? ⟨w.heap.size, 1, none⟩ = false := (by rw [hfz _ _ (by first | omega | (simp; done) | (simp; omega))]; first | (go_simp; done) | (simp [*]; done) | (simp [go_sem, *]; done)); have zi1 : ¬ (w.heap.size + 1 = w3.heap.size) := (by have h_ := hb3.size; simp at h_; omega); have yi1 : w.heap.size + 1 < w3.heap.size := (by have h_ := hb3.size; simp at h_; omega); have ci1_0 : w3.cell? ⟨w.heap.size + 1, 0, none⟩ = some (.int .u8 r.kind) := (by rw [hcl _ _ (by first | omega | (simp; done) | (simp; omega))]; first | (go_simp; done) | (simp [*]; done) | (simp [go_sem, *]; done)); have ci1_1 : w3.cell? ⟨w.heap.size + 1, 1, none⟩ = some (.int .i64 r.id) := (by rw [hcl _ _ (by first | omega | (simp; done) | (simp; omega))]; first | (go_simp; done) | (simp [*]; done) | (simp [go_sem, *]; done)); have ci1_36 : w3.cell? ⟨w.heap.size + 1, 36, none⟩ = some (.int .i64 r.off) := (by rw [hcl _ _ (by first | omega | (simp; done) | (simp; omega))]; first | (go_simp; done) | (simp [*]; done) | (simp [go_sem, *]; done)); have zi2 : ¬ (w.heap.size + 1 + 1 = w3.heap.size) := (by have h_ := hb3.size; simp at h_; omega); have yi2 : w.heap.size + 1 + 1 < w3.heap.size := (by have h_ := hb3.size; simp at h_; omega); have ci2_0 : w3.cell? ⟨w.heap.size + 1 + 1, 0, none⟩ = some (.slice none 0 0) := (by rw [hcl _ _ (by first | omega | (simp; done) | (simp; omega))]; first | (go_simp; done) | (simp [*]; done) | (simp [go_sem, *]; done)); have fi2_0 : w3.frozen? ⟨w.heap.size + 1 + 1, 0, none⟩ = false := (by rw [hfz _ _ (by first | omega | (simp; done) | (simp; omega))]; first | (go_simp; done) | (simp [*]; done) | (simp [go_sem, *]; done)); have ci2_1 : w3.cell? ⟨w.heap.size + 1 + 1, 1, none⟩ = some (.int .i64 0) := (by rw [hcl _ _ (by first | omega | (simp; done) | (simp; omega))]; first | (go_simp; done) | (simp [*]; done) | (simp [go_sem, *]; done)); have fi2_1 : w3.frozen? ⟨w.heap.size + 1 + 1, 1, none⟩ = false := (by rw [hfz _ _ (by first | omega | (simp; done) | (simp; omega))]; first | (go_simp; done) | (simp [*]; done) | (simp [go_sem, *]; done)); have ri0 : rowAt w3 ⟨w.heap.size + 1, 0, none⟩ 37 = some (rcL r) := (by rw [rowAt_below hb3 (by first | omega | (simp; done) | (simp; omega))]; first | (go_simp; done) | (simp [*]; done) | (simp [go_sem, *]; done)); have HO3 := Aside0.mk (Kd.R_below (flat_put (flat_put HO2.out (by omega)) (by omega)) hb3); have HB3 := Aside0.mk (Below.trans (below_setCell (below_setCell HB2.out (by omega) _) (by omega) _) (hb3.mono (by simp; omega))); clear hb3 hcl hfz; rw [HI.out]; have HG0 := Aside0.mk HB3.out.size))
  refine still_tail_at 23 (by kernel_rfl) (by kernel_rfl) ?_
  intro W hW
  have HOW := Aside0.mk (show Kd.R kPt 75 W (w.heap.size + 1 + 1 + 1) (fun _ => True) (.slice A2 l.length c2) l from by rw [hW]; exact Kd.R_drew HO3.out)
  have HBW := Aside0.mk (show Below w.heap.size w W from by rw [hW]; exact below_drew HB3.out)
  have HZ := Aside0.mk (show W.cell? ⟨w.heap.size, 0, none⟩ = some (.slice A2 l.length c2) ∧ W.cell? ⟨w.heap.size, 1, none⟩ = some (.int .i64 nx) ∧ W.frozen? ⟨w.heap.size, 0, none⟩ = false ∧ W.frozen? ⟨w.heap.size, 1, none⟩ = false ∧ W.cell? ⟨w.heap.size + 1 + 1, 0, none⟩ = some (.slice none 0 0) ∧ W.cell? ⟨w.heap.size + 1 + 1, 1, none⟩ = some (.int .i64 0) ∧ W.frozen? ⟨w.heap.size + 1 + 1, 0, none⟩ = false ∧ W.frozen? ⟨w.heap.size + 1 + 1, 1, none⟩ = false from by rw [hW]; exact ⟨ci0_0, ci0_1, fi0_0, fi0_1, ci2_0, ci2_1, fi2_0, fi2_1⟩)
  clear hW z0 y0 c0_0 f0_0 c0_1 f0_1 z1 y1 c1_0 c1_1 c1_36 z2 y2 c2_0 f2_0 c2_1 f2_1 r0 zi0 yi0 ci0_0 fi0_0 ci0_1 fi0_1 zi1 yi1 ci1_0 ci1_1 ci1_36 zi2 yi2 ci2_0 fi2_0 ci2_1 fi2_1 ri0 
  simp only [List.take_succ_cons, List.take_zero, List.drop_succ_cons, List.drop_zero]
  repeat (first | ((with_reducible refine wpStill_plain ?hg (fun K hK => ?_)); (case hg => with_reducible rfl); go_simp; refine still_back hK ?_; clear hK K) | ((with_reducible refine wpStill_skip ?hg (fun K hK => ?_)); (case hg => exact rfl); go_simp; refine still_back hK ?_; clear hK K) | ((with_reducible refine wpStill_held ?hg (fun K hK => ?_)); (case hg => exact rfl); go_simp; refine still_back hK ?_; clear hK K))
  refine wpStill_nil ?_
  obtain ⟨j0, j1, j2, j3, j4, j5, j6, j7⟩ := HZ.out
  go_wp2
  refine bodyPost_ret (v := .tuple #[.agg #[.slice A2 l.length c2, .int .i64 nx], .bool false]) (by simp [results, Tryd.results27, go_sem, *]) rfl ⟨_, by rw [HP.out], ?_, ?_⟩
  · rw [HP.out]; exact Kd.R_lower (flat_put (flat_put (HOW.out) (by omega)) (by omega)) (by omega)
  · have hs3 := HG0.out; (repeat' (first | exact HBW.out | (with_reducible refine below_setCell ?_ ?_ _) | (with_reducible refine below_setRow ?_ ?_ _) | (with_reducible refine Below.alloc ?_ ?_ _) | (with_reducible refine below_drew ?_) | (with_reducible refine pw_below_drewN ?_ _) | (with_reducible exact Below.refl _ _) | omega | (simp; done) | (simp; omega)))
end Go.Proofs.YtiohgpcbdefokaaDoor.B
/- record.Step, whole. No condition. -/
namespace Go.Proofs.YtiohgpcbdefokaaDoor.B
open Go.RowKit Go.Proofs.YtiohgpcbdefokaaDoorW.PrintWords Go.Proofs.YtiohgpcbdefokaaDoor.RowLaws
attribute [local go_sem ↓ high] lvO_hs ldO_hs stO_hs lvO_pt ldO_pt stO_pt zero_pt eqA_pt lvO_ptR ldO_ptR stO_ptR zero_ptR eqA_ptR lvO_rc ldO_rc stO_rc zero_rc eqA_rc lvO_rcR ldO_rcR stO_rcR zero_rcR eqA_rcR lvO_tk ldO_tk stO_tk zero_tk eqA_tk lvO_tkR ldO_tkR stO_tkR zero_tkR eqA_tkR lvO_it ldO_it stO_it zero_it eqA_it blO_pt blO_ptR blO_rc blO_rcR blO_tk blO_tkR blO_it bsO_pt bsO_ptR bsO_rc bsO_rcR bsO_it
attribute [local go_sem high] rowAt_setCell rowAt_setRow cell_setRow_ne isRow_setRow_ne rowAt_alloc rowAt_drew isRow_alloc isRow_drew isRow_setCell rowRun_some okL_hs ldV_hs ldA_hs stA_hs setRow_alloc get_pt_id get_pt_path cut_pt_sum get_pt_size get_pt_off cut_pt okL_pt size_pt lenb_pt eta_pt ldV_pt ldA_pt stA_pt ldV_ptR ldA_ptR stA_ptR get_rc_kind get_rc_id get_rc_path cut_rc_sum get_rc_size get_rc_off cut_rc okL_rc size_rc lenb_rc eta_rc ldV_rc ldA_rc stA_rc ldV_rcR ldA_rcR stA_rcR get_tk_path cut_tk_sum get_tk_size get_tk_off cut_tk_old cut_tk okL_tk size_tk lenb_tk eta_tk ldV_tk ldA_tk stA_tk ldV_tkR ldA_tkR stA_tkR get_it_path get_it_dir get_it_size cut_it_sum cut_it okL_it size_it lenb_it eta_it ldV_it ldA_it stA_it bld_pt_01234 bld_pt_0123 bld_pt_z bld_ptR_01234 bld_ptR_0123 bld_ptR_z bld_rc_012345 bld_rc_015 bld_rc_01 bld_rc_z bld_rc_01234 bld_rc_24 bld_rc_05 bld_rc_0 bld_rcR_012345 bld_rcR_015 bld_rcR_01 bld_rcR_z bld_rcR_01234 bld_rcR_24 bld_rcR_05 bld_rcR_0 bld_tk_01234 bld_tk_0 bld_tk_z bld_tkR_01234 bld_tkR_0 bld_tkR_z bld_it_0123 bld_it_023 bld_it_01 bld_it_0 bld_it_z bs0_pt bs1_pt bs0_ptR bs1_ptR bs0_rc bs1_rc bs0_rcR bs1_rcR bs0_it bs1_it
set_option linter.unusedVariables false in
set_option maxHeartbeats 8000000 in
set_option maxRecDepth 100000 in
theorem Step_begin (A : Option Addr) (c : Nat) (l : List Pt) (nx : Int) (r : Rc) (w : World) (hC : Kd.C kPt w A l.length l) (hc : l.length ≤ c) (hlen : l.length ≤ 64) (hid : r.id ≤ 2199023255552) (hid0 : -9223372036854775808 ≤ r.id) (hk : r.kind = 0) :
    Calls Tryd.prog 27 #[.agg #[.slice A l.length c, .int .i64 nx], .agg (rcL r).toArray] w fun e w' => ∃ v : Value, e = .returned (.tuple #[.agg #[v, .int .i64 (stepP ⟨l, nx⟩ r).1.next], .bool (stepP ⟨l, nx⟩ r).2]) ∧ Kd.R kPt 75 w' w.heap.size (fun _ => True) v (stepP ⟨l, nx⟩ r).1.parts ∧ Below w.heap.size w w' := by
  have HC := Aside0.mk hC
  clear hC
  obtain ⟨q, hq⟩ : ∃ q, beginP ⟨l, nx⟩ r = q := ⟨_, rfl⟩
  have HQ := Aside0.mk hq
  have HP := Aside0.mk (show stepP ⟨l, nx⟩ r = q by unfold stepP; rw [if_pos hk, hq])
  clear hq
  obtain ⟨⟨ql, qn⟩, qb⟩ := q
  go_enter Tryd.func27, Tryd.ntmps27
  go_wp2_with (first | (go_at_call 79; refine (ownS_calls A c l nx _ (Kd.C_below HC.out ?_) hc (Nat.le_trans hlen (by decide))).mono ?_; (exact below_alloc (below_alloc (below_alloc (Below.refl _ _) _) _) _); rintro e w2 ⟨v, rfl, ho, hb2⟩; obtain ⟨A2, c2, rfl⟩ := Kd.R_slice ho; obtain ⟨hcl, hfz⟩ := bcell hb2; have z0 : ¬ (w.heap.size = w2.heap.size) := (by have h_ := hb2.size; simp at h_; omega); have y0 : w.heap.size < w2.heap.size := (by have h_ := hb2.size; simp at h_; omega); have c0_0 : w2.cell? ⟨w.heap.size, 0, none⟩ = some (.slice A l.length c) := (by rw [hcl _ _ (by first | omega | (simp; done) | (simp; omega))]; first | (go_simp; done) | (simp [*]; done) | (simp [go_sem, *]; done)); have f0_0 : w2.frozen? ⟨w.heap.size, 0, none⟩ = false := (by rw [hfz _ _ (by first | omega | (simp; done) | (simp; omega))]; first | (go_simp; done) | (simp [*]; done) | (simp [go_sem, *]; done)); have c0_1 : w2.cell? ⟨w.heap.size, 1, none⟩ = some (.int .i64 nx) := (by rw [hcl _ _ (by first | omega | (simp; done) | (simp; omega))]; first | (go_simp; done) | (simp [*]; done) | (simp [go_sem, *]; done)); have f0_1 : w2.frozen? ⟨w.heap.size, 1, none⟩ = false := (by rw [hfz _ _ (by first | omega | (simp; done) | (simp; omega))]; first | (go_simp; done) | (simp [*]; done) | (simp [go_sem, *]; done)); have z1 : ¬ (w.heap.size + 1 = w2.heap.size) := (by have h_ := hb2.size; simp at h_; omega); have y1 : w.heap.size + 1 < w2.heap.size := (by have h_ := hb2.size; simp at h_; omega); have c1_0 : w2.cell? ⟨w.heap.size + 1, 0, none⟩ = some (.int .u8 r.kind) := (by rw [hcl _ _ (by first | omega | (simp; done) | (simp; omega))]; first | (go_simp; done) | (simp [*]; done) | (simp [go_sem, *]; done)); have c1_1 : w2.cell? ⟨w.heap.size + 1, 1, none⟩ = some (.int .i64 r.id) := (by rw [hcl _ _ (by first | omega | (simp; done) | (simp; omega))]; first | (go_simp; done) | (simp [*]; done) | (simp [go_sem, *]; done)); have c1_36 : w2.cell? ⟨w.heap.size + 1, 36, none⟩ = some (.int .i64 r.off) := (by rw [hcl _ _ (by first | omega | (simp; done) | (simp; omega))]; first | (go_simp; done) | (simp [*]; done) | (simp [go_sem, *]; done)); have z2 : ¬ (w.heap.size + 1 + 1 = w2.heap.size) := (by have h_ := hb2.size; simp at h_; omega); have y2 : w.heap.size + 1 + 1 < w2.heap.size := (by have h_ := hb2.size; simp at h_; omega); have c2_0 : w2.cell? ⟨w.heap.size + 1 + 1, 0, none⟩ = some (.slice none 0 0) := (by rw [hcl _ _ (by first | omega | (simp; done) | (simp; omega))]; first | (go_simp; done) | (simp [*]; done) | (simp [go_sem, *]; done)); have f2_0 : w2.frozen? ⟨w.heap.size + 1 + 1, 0, none⟩ = false := (by rw [hfz _ _ (by first | omega | (simp; done) | (simp; omega))]; first | (go_simp; done) | (simp [*]; done) | (simp [go_sem, *]; done)); have c2_1 : w2.cell? ⟨w.heap.size + 1 + 1, 1, none⟩ = some (.int .i64 0) := (by rw [hcl _ _ (by first | omega | (simp; done) | (simp; omega))]; first | (go_simp; done) | (simp [*]; done) | (simp [go_sem, *]; done)); have f2_1 : w2.frozen? ⟨w.heap.size + 1 + 1, 1, none⟩ = false := (by rw [hfz _ _ (by first | omega | (simp; done) | (simp; omega))]; first | (go_simp; done) | (simp [*]; done) | (simp [go_sem, *]; done)); have r0 : rowAt w2 ⟨w.heap.size + 1, 0, none⟩ 37 = some (rcL r) := (by rw [rowAt_below hb2 (by first | omega | (simp; done) | (simp; omega))]; first | (go_simp; done) | (simp [*]; done) | (simp [go_sem, *]; done)); have HO2 := Aside0.mk (Kd.R_lower (base' := w.heap.size + 1 + 1 + 1) ho (by simp)); have HB2 := Aside0.mk (Below.trans (below_alloc (below_alloc (below_alloc (Below.refl w.heap.size w) _) _) _) (hb2.mono (by simp; omega))); clear hb2 hcl hfz ho) | (go_at_call 80; refine (idx_id A2 c2 l r.id _ _ (Kd.R_reads' (flat_put (flat_put HO2.out (by omega)) (by omega))).2.2 (Nat.le_trans hlen (by decide)) ?hc1).mono ?_; (case hc1 => first | (go_simp; done) | (simp [go_sem, *]; done)); rintro e w3 ⟨rfl, hb3⟩; obtain ⟨hcl, hfz⟩ := bcell hb3; have zi0 : ¬ (w.heap.size = w3.heap.size) := (by have h_ := hb3.size; simp at h_; omega); have yi0 : w.heap.size < w3.heap.size := (by have h_ := hb3.size; simp at h_; omega); have ci0_0 : w3.cell? ⟨w.heap.size, 0, none⟩ = some (.slice A2 l.length c2) := (by rw [hcl _ _ (by first | omega | (simp; done) | (simp; omega))]; first | (go_simp; done) | (simp [*]; done) | (simp [go_sem, *]; done)); have fi0_0 : w3.frozen? ⟨w.heap.size, 0, none⟩ = false := (by rw [hfz _ _ (by first | omega | (simp; done) | (simp; omega))]; first | (go_simp; done) | (simp [*]; done) | (simp [go_sem, *]; done)); have ci0_1 : w3.cell? ⟨w.heap.size, 1, none⟩ = some (.int .i64 nx) := (by rw [hcl _ _ (by first | omega | (simp; done) | (simp; omega))]; first | (go_simp; done) | (simp [*]; done) | (simp [go_sem, *]; done)); have fi0_1 : w3.frozen? ⟨w.heap.size, 1, none⟩ = false := (by rw [hfz _ _ (by first | omega | (simp; done) | (simp; omega))]; first | (go_simp; done) | (simp [*]; done) | (simp [go_sem, *]; done)); have zi1 : ¬ (w.heap.size + 1 = w3.heap.size) := (by have h_ := hb3.size; simp at h_; omega); have yi1 : w.heap.size + 1 < w3.heap.size := (by have h_ := hb3.size; simp at h_; omega); have ci1_0 : w3.cell? ⟨w.heap.size + 1, 0, none⟩ = some (.int .u8 r.kind) := (by rw [hcl _ _ (by first | omega | (simp; done) | (simp; omega))]; first | (go_simp; done) | (simp [*]; done) | (simp [go_sem, *]; done)); have ci1_1 : w3.cell? ⟨w.heap.size + 1, 1, none⟩ = some (.int .i64 r.id) := (by rw [hcl _ _ (by first | omega | (simp; done) | (simp; omega))]; first | (go_simp; done) | (simp [*]; done) | (simp [go_sem, *]; done)); have ci1_36 : w3.cell? ⟨w.heap.size + 1, 36, none⟩ = some (.int .i64 r.off) := (by rw [hcl _ _ (by first | omega | (simp; done) | (simp; omega))]; first | (go_simp; done) | (simp [*]; done) | (simp [go_sem, *]; done)); have zi2 : ¬ (w.heap.size + 1 + 1 = w3.heap.size) := (by have h_ := hb3.size; simp at h_; omega); have yi2 : w.heap.size + 1 + 1 < w3.heap.size := (by have h_ := hb3.size; simp at h_; omega); have ci2_0 : w3.cell? ⟨w.heap.size + 1 + 1, 0, none⟩ = some (.slice none 0 0) := (by rw [hcl _ _ (by first | omega | (simp; done) | (simp; omega))]; first | (go_simp; done) | (simp [*]; done) | (simp [go_sem, *]; done)); have fi2_0 : w3.frozen? ⟨w.heap.size + 1 + 1, 0, none⟩ = false := (by rw [hfz _ _ (by first | omega | (simp; done) | (simp; omega))]; first | (go_simp; done) | (simp [*]; done) | (simp [go_sem, *]; done)); have ci2_1 : w3.cell? ⟨w.heap.size + 1 + 1, 1, none⟩ = some (.int .i64 0) := (by rw [hcl _ _ (by first | omega | (simp; done) | (simp; omega))]; first | (go_simp; done) | (simp [*]; done) | (simp [go_sem, *]; done)); have fi2_1 : w3.frozen? ⟨w.heap.size + 1 + 1, 1, none⟩ = false := (by rw [hfz _ _ (by first | omega | (simp; done) | (simp; omega))]; first | (go_simp; done) | (simp [*]; done) | (simp [go_sem, *]; done)); have ri0 : rowAt w3 ⟨w.heap.size + 1, 0, none⟩ 37 = some (rcL r) := (by rw [rowAt_below hb3 (by first | omega | (simp; done) | (simp; omega))]; first | (go_simp; done) | (simp [*]; done) | (simp [go_sem, *]; done)); have HO3 := Aside0.mk (Kd.R_below (flat_put (flat_put HO2.out (by omega)) (by omega)) hb3); have HB3 := Aside0.mk (Below.trans (below_setCell (below_setCell HB2.out (by omega) _) (by omega) _) (hb3.mono (by simp; omega))); clear hb3 hcl hfz; have HG0 := Aside0.mk HB3.out.size) | (go_at_call 82; refine (begins_calls A2 c2 l nx r (w.heap.size + 1 + 1 + 1) _ HO3.out hlen (by omega) hid hid0).mono ?_; rintro e w4 ⟨v4, he4, ho4, hb4⟩; rw [HQ.out] at he4 ho4; subst he4; obtain ⟨A4, c4, rfl⟩ := Kd.R_slice ho4; have hcl : ∀ b o, b < w.heap.size + 1 + 1 + 1 → w4.cell? ⟨b, o, none⟩ = w3.cell? ⟨b, o, none⟩ := fun b o h => hb4.cell (p := ⟨b, o, none⟩) h; have hfz : ∀ b o, b < w.heap.size + 1 + 1 + 1 → w4.frozen? ⟨b, o, none⟩ = w3.frozen? ⟨b, o, none⟩ := fun b o h => hb4.frozen (p := ⟨b, o, none⟩) h; have cd0_0 : w4.cell? ⟨w.heap.size + 1 + 1, 0, none⟩ = some (.slice none 0 0) := (by rw [hcl _ _ (by first | omega | (simp; done) | (simp; omega))]; first | (go_simp; done) | (simp [*]; done) | (simp [go_sem, *]; done)); have fd0_0 : w4.frozen? ⟨w.heap.size + 1 + 1, 0, none⟩ = false := (by rw [hfz _ _ (by first | omega | (simp; done) | (simp; omega))]; first | (go_simp; done) | (simp [*]; done) | (simp [go_sem, *]; done)); have cd0_1 : w4.cell? ⟨w.heap.size + 1 + 1, 1, none⟩ = some (.int .i64 0) := (by rw [hcl _ _ (by first | omega | (simp; done) | (simp; omega))]; first | (go_simp; done) | (simp [*]; done) | (simp [go_sem, *]; done)); have fd0_1 : w4.frozen? ⟨w.heap.size + 1 + 1, 1, none⟩ = false := (by rw [hfz _ _ (by first | omega | (simp; done) | (simp; omega))]; first | (go_simp; done) | (simp [*]; done) | (simp [go_sem, *]; done)); have HO4 := Aside0.mk ho4; have HB4 := Aside0.mk (HB3.out.trans (hb4.mono (by omega))); clear ho4 hb4 hcl hfz))
  refine bodyPost_ret (v := .tuple #[.agg #[.slice A4 ql.length c4, .int .i64 qn], .bool qb]) (by simp [results, Tryd.results27, go_sem, *]) rfl ⟨_, by rw [HP.out], ?_, ?_⟩
  · rw [HP.out]; exact Kd.R_lower (flat_put (flat_put (HO4.out) (by omega)) (by omega)) (by omega)
  · (repeat' (first | exact HB4.out | (with_reducible refine below_setCell ?_ ?_ _) | (with_reducible refine below_setRow ?_ ?_ _) | (with_reducible refine Below.alloc ?_ ?_ _) | (with_reducible refine below_drew ?_) | (with_reducible refine pw_below_drewN ?_ _) | (with_reducible exact Below.refl _ _) | omega | (simp; done) | (simp; omega)))
theorem Step_calls (A : Option Addr) (c : Nat) (l : List Pt) (nx : Int) (r : Rc) (w : World) (hC : Kd.C kPt w A l.length l) (hc : l.length ≤ c) (hlen : l.length ≤ 64) (hid : r.id ≤ 2199023255552) (hid0 : -9223372036854775808 ≤ r.id) :
    Calls Tryd.prog 27 #[.agg #[.slice A l.length c, .int .i64 nx], .agg (rcL r).toArray] w fun e w' => ∃ v : Value, e = .returned (.tuple #[.agg #[v, .int .i64 (stepP ⟨l, nx⟩ r).1.next], .bool (stepP ⟨l, nx⟩ r).2]) ∧ Kd.R kPt 75 w' w.heap.size (fun _ => True) v (stepP ⟨l, nx⟩ r).1.parts ∧ Below w.heap.size w w' := by
  by_cases h0 : r.kind = 0
  · exact Step_begin A c l nx r w hC hc hlen hid hid0 h0
  by_cases h4 : r.kind = 4
  · by_cases h : r.id < nx
    · exact Step_skip0 A c l nx r w hC hc hlen hid hid0 h4 h
    · exact Step_skip1 A c l nx r w hC hc hlen hid hid0 h4 h
  by_cases h1 : r.kind = 1
  · cases hn : l.findIdx? (fun x => decide (x.id = r.id)) with
    | none => exact Step_mark0 A c l nx r w hC hc hlen hid hid0 h1 hn
    | some i =>
      obtain ⟨hil, _, _⟩ := List.findIdx?_eq_some_iff_getElem.1 hn
      have hx : l[i]? = some l[i] := List.getElem?_eq_getElem hil
      by_cases h2 : r.off < l[i].off
      · exact Step_mark1 A c l nx r w hC hc hlen hid hid0 h1 i _ hn hx h2
      by_cases h3 : l[i].size < r.off
      · exact Step_mark2 A c l nx r w hC hc hlen hid hid0 h1 i _ hn hx h2 h3
      · exact Step_mark3 A c l nx r w hC hc hlen hid hid0 h1 i _ hn hx h2 h3
  by_cases h2 : r.kind = 2 ∨ r.kind = 3
  · cases hn : l.findIdx? (fun x => decide (x.id = r.id)) with
    | none => exact Step_del0 A c l nx r w hC hc hlen hid hid0 h2 hn
    | some i => exact Step_del1 A c l nx r w hC hc hlen hid hid0 i h2 hn
  · exact Step_other A c l nx r w hC hc hlen hid hid0 h0 h1 (fun h => h2 (.inl h)) (fun h => h2 (.inr h)) h4
#print axioms Step_calls
end Go.Proofs.YtiohgpcbdefokaaDoor.B
/- slices.Equal over parts; record.Same. No condition. -/
namespace Go.Proofs.YtiohgpcbdefokaaDoor.B
open Go.RowKit Go.Proofs.YtiohgpcbdefokaaDoorW.PrintWords Go.Proofs.YtiohgpcbdefokaaDoor.RowLaws
attribute [local go_sem ↓ high] lvO_hs ldO_hs stO_hs lvO_pt ldO_pt stO_pt zero_pt eqA_pt lvO_ptR ldO_ptR stO_ptR zero_ptR eqA_ptR lvO_rc ldO_rc stO_rc zero_rc eqA_rc lvO_rcR ldO_rcR stO_rcR zero_rcR eqA_rcR lvO_tk ldO_tk stO_tk zero_tk eqA_tk lvO_tkR ldO_tkR stO_tkR zero_tkR eqA_tkR lvO_it ldO_it stO_it zero_it eqA_it blO_pt blO_ptR blO_rc blO_rcR blO_tk blO_tkR blO_it bsO_pt bsO_ptR bsO_rc bsO_rcR bsO_it
attribute [local go_sem high] rowAt_setCell rowAt_setRow cell_setRow_ne isRow_setRow_ne rowAt_alloc rowAt_drew isRow_alloc isRow_drew isRow_setCell rowRun_some okL_hs ldV_hs ldA_hs stA_hs setRow_alloc get_pt_id get_pt_path cut_pt_sum get_pt_size get_pt_off cut_pt okL_pt size_pt lenb_pt eta_pt ldV_pt ldA_pt stA_pt ldV_ptR ldA_ptR stA_ptR get_rc_kind get_rc_id get_rc_path cut_rc_sum get_rc_size get_rc_off cut_rc okL_rc size_rc lenb_rc eta_rc ldV_rc ldA_rc stA_rc ldV_rcR ldA_rcR stA_rcR get_tk_path cut_tk_sum get_tk_size get_tk_off cut_tk_old cut_tk okL_tk size_tk lenb_tk eta_tk ldV_tk ldA_tk stA_tk ldV_tkR ldA_tkR stA_tkR get_it_path get_it_dir get_it_size cut_it_sum cut_it okL_it size_it lenb_it eta_it ldV_it ldA_it stA_it bld_pt_01234 bld_pt_0123 bld_pt_z bld_ptR_01234 bld_ptR_0123 bld_ptR_z bld_rc_012345 bld_rc_015 bld_rc_01 bld_rc_z bld_rc_01234 bld_rc_24 bld_rc_05 bld_rc_0 bld_rcR_012345 bld_rcR_015 bld_rcR_01 bld_rcR_z bld_rcR_01234 bld_rcR_24 bld_rcR_05 bld_rcR_0 bld_tk_01234 bld_tk_0 bld_tk_z bld_tkR_01234 bld_tkR_0 bld_tkR_z bld_it_0123 bld_it_023 bld_it_01 bld_it_0 bld_it_z bs0_pt bs1_pt bs0_ptR bs1_ptR bs0_rc bs1_rc bs0_rcR bs1_rcR bs0_it bs1_it
attribute [local irreducible] wpStill
theorem eq_of_all {l m : List Pt} (hl : l.length = m.length) (h : ∀ j, j < l.length → ∀ x y, l[j]? = some x → m[j]? = some y → x = y) : l = m := by
  refine List.ext_getElem hl fun i h1 h2 => ?_
  exact h i h1 _ _ (List.getElem?_eq_getElem h1) (List.getElem?_eq_getElem h2)
end Go.Proofs.YtiohgpcbdefokaaDoor.B
/- The document's answer for states: Find, Same. No condition. -/
namespace Go.Proofs.YtiohgpcbdefokaaDoor.B
open Go.RowKit Go.Proofs.YtiohgpcbdefokaaDoorW.PrintWords Go.Proofs.YtiohgpcbdefokaaDoor.RowLaws
attribute [local go_sem ↓ high] lvO_hs ldO_hs stO_hs lvO_pt ldO_pt stO_pt zero_pt eqA_pt lvO_ptR ldO_ptR stO_ptR zero_ptR eqA_ptR lvO_rc ldO_rc stO_rc zero_rc eqA_rc lvO_rcR ldO_rcR stO_rcR zero_rcR eqA_rcR lvO_tk ldO_tk stO_tk zero_tk eqA_tk lvO_tkR ldO_tkR stO_tkR zero_tkR eqA_tkR lvO_it ldO_it stO_it zero_it eqA_it blO_pt blO_ptR blO_rc blO_rcR blO_tk blO_tkR blO_it bsO_pt bsO_ptR bsO_rc bsO_rcR bsO_it
attribute [local go_sem high] rowAt_setCell rowAt_setRow cell_setRow_ne isRow_setRow_ne rowAt_alloc rowAt_drew isRow_alloc isRow_drew isRow_setCell rowRun_some okL_hs ldV_hs ldA_hs stA_hs setRow_alloc get_pt_id get_pt_path cut_pt_sum get_pt_size get_pt_off cut_pt okL_pt size_pt lenb_pt eta_pt ldV_pt ldA_pt stA_pt ldV_ptR ldA_ptR stA_ptR get_rc_kind get_rc_id get_rc_path cut_rc_sum get_rc_size get_rc_off cut_rc okL_rc size_rc lenb_rc eta_rc ldV_rc ldA_rc stA_rc ldV_rcR ldA_rcR stA_rcR get_tk_path cut_tk_sum get_tk_size get_tk_off cut_tk_old cut_tk okL_tk size_tk lenb_tk eta_tk ldV_tk ldA_tk stA_tk ldV_tkR ldA_tkR stA_tkR get_it_path get_it_dir get_it_size cut_it_sum cut_it okL_it size_it lenb_it eta_it ldV_it ldA_it stA_it bld_pt_01234 bld_pt_0123 bld_pt_z bld_ptR_01234 bld_ptR_0123 bld_ptR_z bld_rc_012345 bld_rc_015 bld_rc_01 bld_rc_z bld_rc_01234 bld_rc_24 bld_rc_05 bld_rc_0 bld_rcR_012345 bld_rcR_015 bld_rcR_01 bld_rcR_z bld_rcR_01234 bld_rcR_24 bld_rcR_05 bld_rcR_0 bld_tk_01234 bld_tk_0 bld_tk_z bld_tkR_01234 bld_tkR_0 bld_tkR_z bld_it_0123 bld_it_023 bld_it_01 bld_it_0 bld_it_z bs0_pt bs1_pt bs0_ptR bs1_ptR bs0_rc bs1_rc bs0_rcR bs1_rcR bs0_it bs1_it
attribute [local irreducible] wpStill
set_option linter.unusedVariables false in
set_option maxHeartbeats 8000000 in
set_option maxRecDepth 100000 in
theorem FindR_calls (A : Option Addr) (c : Nat) (l : List Pt) (nx : Int) (p : ByteArray) (w : World) (hC : Kd.C kPt w A l.length l) (hlen : l.length ≤ 1000) :
    Calls Tryd.prog 34 #[.agg #[.slice A l.length c, .int .i64 nx], .string p] w fun e w' => e = .returned (.tuple #[.agg (ptL (findP l p).1).toArray, .bool (findP l p).2]) ∧ Below w.heap.size w w' := by
  have HC := Aside0.mk hC
  clear hC
  go_enter Tryd.func34, Tryd.ntmps34
  go_wp2
  go_loopw [6] (fun iv wr => ∃ k : Nat, k ≤ l.length ∧ iv = .int .i64 k ∧ Aside0 (Below w.heap.size w wr) ∧ wr.cell? ⟨w.heap.size, 0, none⟩ = some (.slice A l.length c) ∧ isRow wr (w.heap.size + 1) 36 = true ∧ Aside0 (∀ j, j < k → ∀ x, l[j]? = some x → decide (x.path = p) = false)) (fun iv _ => l.length - (intOf iv).toNat)
  case atStart => exact ⟨0, Nat.zero_le _, rfl, ⟨below_alloc (below_alloc (Below.refl _ _) _) _⟩, by go_simp, by go_simp, ⟨fun j hj => by omega⟩⟩
  case round =>
    obtain ⟨k, hk, rfl, HB, m0, hr2, HN⟩ := hrel
    by_cases hlt : k < l.length
    · obtain ⟨b, o, hA, hb, hr⟩ := flat_at HC.out (by decide) (by omega)
      subst hA
      obtain ⟨hrow, hcells⟩ := hr k hlt
      have q1 := hcells 1 _ (get_pt_path l[k])
      rw [← rowAt_below HB.out hb] at hrow
      rw [← HB.out.cell (p := ⟨b, o + k * 36 + 1, none⟩) hb] at q1
      have HX := Aside0.mk (show l[k]? = some l[k] from List.getElem?_eq_getElem hlt)
      obtain ⟨x, hx⟩ : ∃ x, x = l[k] := ⟨_, rfl⟩
      rw [← hx] at hrow HX q1
      clear hr hx hcells
      have hlt2 : (k : Int) < (l.length : Int) := by omega
      by_cases hp : x.path = p
      · have hd : (x.path.toList == p.toList) = true := by rw [str_eq]; exact decide_eq_true hp
        have HF := Aside0.mk (findP_some HX.out (decide_eq_true hp) HN.out)
        clear hp
        go_wp2
        refine bodyPost_ret (v := .tuple #[.agg (ptL x).toArray, .bool true]) (res2 rfl rfl (lv_ptR (by rw [rowAt_setRow_same hr2 _ _ _ (by decide), cut_pt])) rfl) rfl ⟨by rw [HF.out], below_setRow HB.out (by omega) _⟩
      · have hd : (x.path.toList == p.toList) = false := by rw [str_eq]; exact decide_eq_false hp
        have HP := Aside0.mk (decide_eq_false hp)
        clear hp
        go_wp2
        go_roundw
        case rel =>
          refine ⟨k + 1, by omega, by simp, HB, m0, hr2, ⟨fun j hj y hy => ?_⟩⟩
          by_cases hjk : j = k
          · subst hjk
            have := HX.out.symm.trans hy
            injection this with this
            subst this
            exact HP.out
          · exact HN.out j (by omega) y hy
        case measure => simp [intOf]; omega
    · have hk2 : k = l.length := by omega
      subst hk2
      have HF := Aside0.mk (findP_none (l := l) (p := p) (fun x hx => by obtain ⟨j, hj, rfl⟩ := List.getElem_of_mem hx; exact HN.out j hj _ (List.getElem?_eq_getElem hj)))
      go_wp2
      refine bodyPost_ret (v := .tuple #[.agg (ptL Pt.zero).toArray, .bool false]) (res2 rfl rfl (lv_ptR (by rw [rowAt_setRow_same hr2 _ _ _ (by decide), cut_pt]; rfl)) rfl) rfl ⟨by rw [HF.out], below_setRow HB.out (by omega) _⟩
set_option linter.unusedVariables false in
set_option maxHeartbeats 8000000 in
set_option maxRecDepth 100000 in
theorem SameR_calls (A A' : Option Addr) (c c' : Nat) (l m : List Pt) (nx ny : Int) (w : World) (hC : Kd.C kPt w A l.length l) (hD : Kd.C kPt w A' m.length m) (hlen : l.length ≤ 1000) :
    Calls Tryd.prog 29 #[.agg #[.slice A l.length c, .int .i64 nx], .agg #[.slice A' m.length c', .int .i64 ny]] w fun e w' => e = .returned (.bool (decide ((⟨l, nx⟩ : St) = ⟨m, ny⟩))) ∧ Below w.heap.size w w' := by
  have HC := Aside0.mk hC
  have HD := Aside0.mk hD
  clear hC hD
  by_cases hlm : l.length = m.length
  case neg =>
    have hne : ¬ (l.length : Int) = (m.length : Int) := by omega
    have HN := Aside0.mk (show ¬ (⟨l, nx⟩ : St) = ⟨m, ny⟩ from fun e => hlm (by injection e with e; rw [e]))
    clear hlm
    go_enter Tryd.func29, Tryd.ntmps29
    go_wp2
    go_ret
    exact ⟨by rw [decide_eq_false HN.out]; rfl, below_alloc (below_alloc (Below.refl _ _) _) _⟩
  rw [← hlm]
  rw [← hlm] at HD
  have HLM := Aside0.mk hlm
  clear hlm
  by_cases hn : nx = ny
  case neg =>
    have hd : decide (nx = ny) = false := decide_eq_false hn
    have HN := Aside0.mk (show ¬ (⟨l, nx⟩ : St) = ⟨m, ny⟩ from fun e => hn (by injection e))
    go_enter Tryd.func29, Tryd.ntmps29
    go_wp2
    go_ret
    exact ⟨by rw [decide_eq_false HN.out]; rfl, below_alloc (below_alloc (Below.refl _ _) _) _⟩
  subst hn
  go_enter Tryd.func29, Tryd.ntmps29
  go_wp2
  go_loopw [5] (fun i wr => ∃ k : Nat, k ≤ l.length ∧ i = .int .i64 k ∧ Aside0 (Below w.heap.size w wr) ∧ wr.cell? ⟨w.heap.size, 0, none⟩ = some (.slice A l.length c) ∧ wr.cell? ⟨w.heap.size + 1, 0, none⟩ = some (.slice A' l.length c') ∧ Aside0 (∀ j, j < k → ∀ x y, l[j]? = some x → m[j]? = some y → x = y)) (fun i _ => l.length - (intOf i).toNat)
  case atStart => exact ⟨0, Nat.zero_le _, rfl, ⟨below_alloc (below_alloc (Below.refl _ _) _) _⟩, by go_simp, by go_simp, ⟨fun j hj => by omega⟩⟩
  case round =>
    obtain ⟨k, hk, rfl, HB, m0, m1, HN⟩ := hrel
    by_cases hlt : k < l.length
    · obtain ⟨b, o, hA, hb, hr⟩ := flat_at HC.out (by decide) (by omega)
      obtain ⟨b', o', hA', hb', hr'⟩ := flat_at HD.out (by decide) (by omega)
      subst hA hA'
      have hrow := (hr k hlt).1
      have hrow' := (hr' k (by rw [← HLM.out]; exact hlt)).1
      rw [← rowAt_below HB.out hb] at hrow
      rw [← rowAt_below HB.out hb'] at hrow'
      have HX := Aside0.mk (show l[k]? = some l[k] from List.getElem?_eq_getElem hlt)
      have hm : k < m.length := by rw [← HLM.out]; exact hlt
      have HY := Aside0.mk (show m[k]? = some m[k] from List.getElem?_eq_getElem hm)
      obtain ⟨x, hx⟩ : ∃ x, x = l[k] := ⟨_, rfl⟩
      obtain ⟨y, hy⟩ : ∃ y, y = m[k] := ⟨_, rfl⟩
      rw [← hx] at hrow HX
      rw [← hy] at hrow' HY
      clear hr hr' hx hy hm
      have hlt2 : (k : Int) < (l.length : Int) := by omega
      by_cases hxy : x = y
      case pos =>
        subst hxy
        go_wp2
        refine still_tail_at 10 (by kernel_rfl) (by kernel_rfl) ?_
        intro W hW
        have r1 : rowAt W ⟨b, o + k * 36, none⟩ 36 = some (ptL x) := by rw [hW, rowAt_drew]; exact hrow
        have r2 : rowAt W ⟨b', o' + k * 36, none⟩ 36 = some (ptL x) := by rw [hW, rowAt_drew]; exact hrow'
        have e0 : W.cell? ⟨w.heap.size, 0, none⟩ = some (.slice (some ⟨b, o, none⟩) l.length c) := by rw [hW]; exact m0
        have e1 : W.cell? ⟨w.heap.size + 1, 0, none⟩ = some (.slice (some ⟨b', o', none⟩) l.length c') := by rw [hW]; exact m1
        have HBW := Aside0.mk (show Below w.heap.size w W from by rw [hW]; exact below_drew HB.out)
        clear hW hrow hrow' m0 m1
        simp only [List.take_succ_cons, List.take_zero, List.drop_succ_cons, List.drop_zero]
        repeat (first | ((with_reducible refine wpStill_plain ?hg (fun K hK => ?_)); (case hg => with_reducible rfl); go_simp; refine still_back hK ?_; clear hK K) | ((with_reducible refine wpStill_skip ?hg (fun K hK => ?_)); (case hg => exact rfl); go_simp; refine still_back hK ?_; clear hK K) | ((with_reducible refine wpStill_held ?hg (fun K hK => ?_)); (case hg => exact rfl); go_simp; refine still_back hK ?_; clear hK K))
        refine wpStill_nil ?_
        go_wp2
        go_roundw
        case rel =>
          refine ⟨k + 1, by omega, by simp, HBW, e0, e1, ⟨fun j hj x' y' hx' hy' => ?_⟩⟩
          by_cases hjk : j = k
          · subst hjk
            have e1 := HX.out.symm.trans hx'
            have e2 := HY.out.symm.trans hy'
            injection e1 with e1
            injection e2 with e2
            rw [← e1, ← e2]
          · exact HN.out j (by omega) x' y' hx' hy'
        case measure => simp [intOf]; omega
      case neg =>
        have hd : decide (x = y) = false := decide_eq_false hxy
        have HNE := Aside0.mk hxy
        clear hxy
        go_wp2
        refine still_tail_at 10 (by kernel_rfl) (by kernel_rfl) ?_
        intro W hW
        have r1 : rowAt W ⟨b, o + k * 36, none⟩ 36 = some (ptL x) := by rw [hW, rowAt_drew]; exact hrow
        have r2 : rowAt W ⟨b', o' + k * 36, none⟩ 36 = some (ptL y) := by rw [hW, rowAt_drew]; exact hrow'
        have e0 : W.cell? ⟨w.heap.size, 0, none⟩ = some (.slice (some ⟨b, o, none⟩) l.length c) := by rw [hW]; exact m0
        have e1 : W.cell? ⟨w.heap.size + 1, 0, none⟩ = some (.slice (some ⟨b', o', none⟩) l.length c') := by rw [hW]; exact m1
        have HBW := Aside0.mk (show Below w.heap.size w W from by rw [hW]; exact below_drew HB.out)
        clear hW hrow hrow' m0 m1
        simp only [List.take_succ_cons, List.take_zero, List.drop_succ_cons, List.drop_zero]
        repeat (first | ((with_reducible refine wpStill_plain ?hg (fun K hK => ?_)); (case hg => with_reducible rfl); go_simp; refine still_back hK ?_; clear hK K) | ((with_reducible refine wpStill_skip ?hg (fun K hK => ?_)); (case hg => exact rfl); go_simp; refine still_back hK ?_; clear hK K) | ((with_reducible refine wpStill_held ?hg (fun K hK => ?_)); (case hg => exact rfl); go_simp; refine still_back hK ?_; clear hK K))
        refine wpStill_nil ?_
        go_wp2
        go_ret
        refine ⟨?_, HBW.out⟩
        have : ¬ (⟨l, nx⟩ : St) = ⟨m, nx⟩ := fun e => by
          injection e with e
          rw [e] at HX
          have e1 := HX.out.symm.trans HY.out
          injection e1 with e1
          exact HNE.out e1
        rw [decide_eq_false this]; rfl
    · have hk2 : k = l.length := by omega
      subst hk2
      go_wp2
      go_ret
      have : l = m := eq_of_all HLM.out HN.out
      exact ⟨by rw [this, decide_eq_true rfl]; rfl, HB.out⟩
end Go.Proofs.YtiohgpcbdefokaaDoor.B
/- A state of the one side is a state of the other (back). No condition. -/
namespace Go.Proofs.YtiohgpcbdefokaaDoor.B
open Go.RowKit Go.Proofs.YtiohgpcbdefokaaDoorW.PrintWords Go.Proofs.YtiohgpcbdefokaaDoor.RowLaws
attribute [local go_sem ↓ high] lvO_hs ldO_hs stO_hs lvO_pt ldO_pt stO_pt zero_pt eqA_pt lvO_ptR ldO_ptR stO_ptR zero_ptR eqA_ptR lvO_rc ldO_rc stO_rc zero_rc eqA_rc lvO_rcR ldO_rcR stO_rcR zero_rcR eqA_rcR lvO_tk ldO_tk stO_tk zero_tk eqA_tk lvO_tkR ldO_tkR stO_tkR zero_tkR eqA_tkR lvO_it ldO_it stO_it zero_it eqA_it blO_pt blO_ptR blO_rc blO_rcR blO_tk blO_tkR blO_it bsO_pt bsO_ptR bsO_rc bsO_rcR bsO_it
attribute [local go_sem high] rowAt_setCell rowAt_setRow cell_setRow_ne isRow_setRow_ne rowAt_alloc rowAt_drew isRow_alloc isRow_drew isRow_setCell rowRun_some okL_hs ldV_hs ldA_hs stA_hs setRow_alloc get_pt_id get_pt_path cut_pt_sum get_pt_size get_pt_off cut_pt okL_pt size_pt lenb_pt eta_pt ldV_pt ldA_pt stA_pt ldV_ptR ldA_ptR stA_ptR get_rc_kind get_rc_id get_rc_path cut_rc_sum get_rc_size get_rc_off cut_rc okL_rc size_rc lenb_rc eta_rc ldV_rc ldA_rc stA_rc ldV_rcR ldA_rcR stA_rcR get_tk_path cut_tk_sum get_tk_size get_tk_off cut_tk_old cut_tk okL_tk size_tk lenb_tk eta_tk ldV_tk ldA_tk stA_tk ldV_tkR ldA_tkR stA_tkR get_it_path get_it_dir get_it_size cut_it_sum cut_it okL_it size_it lenb_it eta_it ldV_it ldA_it stA_it bld_pt_01234 bld_pt_0123 bld_pt_z bld_ptR_01234 bld_ptR_0123 bld_ptR_z bld_rc_012345 bld_rc_015 bld_rc_01 bld_rc_z bld_rc_01234 bld_rc_24 bld_rc_05 bld_rc_0 bld_rcR_012345 bld_rcR_015 bld_rcR_01 bld_rcR_z bld_rcR_01234 bld_rcR_24 bld_rcR_05 bld_rcR_0 bld_tk_01234 bld_tk_0 bld_tk_z bld_tkR_01234 bld_tkR_0 bld_tkR_z bld_it_0123 bld_it_023 bld_it_01 bld_it_0 bld_it_z bs0_pt bs1_pt bs0_ptR bs1_ptR bs0_rc bs1_rc bs0_rcR bs1_rcR bs0_it bs1_it
theorem infoPtR : (Tryd.prog.info? 78).map (fun i => (i.zero, i.size, i.bytes)) = some (some (.agg (ptL Pt.zero).toArray), 36, 72) := by kernel_rfl
/-- What the loop of back keeps. -/
structure BkW (w : World) (A : Option Addr) (n c : Nat) (nx : Int) (A3 : Option Addr) (k c3 : Nat) (xs : List Pt) (W : World) : Prop where
  b : Below w.heap.size w W
  z : w.heap.size + 1 + 1 + 1 ≤ W.heap.size
  b0 : W.cell? ⟨w.heap.size, 0, none⟩ = some (.slice A n c)
  t0 : W.cell? ⟨w.heap.size + 1, 0, none⟩ = some (.slice none 0 0)
  t1 : W.cell? ⟨w.heap.size + 1, 1, none⟩ = some (.int .i64 0)
  f0 : W.frozen? ⟨w.heap.size + 1, 0, none⟩ = false
  f1 : W.frozen? ⟨w.heap.size + 1, 1, none⟩ = false
  x0 : W.cell? ⟨w.heap.size + 1 + 1, 0, none⟩ = some (.slice A3 k c3)
  x1 : W.cell? ⟨w.heap.size + 1 + 1, 1, none⟩ = some (.int .i64 nx)
  g0 : W.frozen? ⟨w.heap.size + 1 + 1, 0, none⟩ = false
  o : Kd.R kPt 78 W (w.heap.size + 1 + 1 + 1) (fun _ => True) (.slice A3 k c3) xs
theorem bk_next {w W w5 : World} {A : Option Addr} {n c : Nat} {nx : Int} {A3 : Option Addr} {k c3 : Nat} {xs ys : List Pt} {A5 : Option Addr} {k5 c5 : Nat} (h : BkW w A n c nx A3 k c3 xs W) (hb : Below (w.heap.size + 1 + 1 + 1) W w5)
    (ho : Kd.R kPt 78 w5 (w.heap.size + 1 + 1 + 1) (fun _ => True) (.slice A5 k5 c5) ys) : BkW w A n c nx A5 k5 c5 ys (w5.setCell ⟨w.heap.size + 1 + 1, 0, none⟩ (.slice A5 k5 c5)) := by
  have c0 := (hb.cell (p := ⟨w.heap.size, 0, none⟩) (by simp; omega)).trans h.b0
  have c1 := (hb.cell (p := ⟨w.heap.size + 1, 0, none⟩) (by simp)).trans h.t0
  have c2 := (hb.cell (p := ⟨w.heap.size + 1, 1, none⟩) (by simp)).trans h.t1
  have c3 := (hb.cell (p := ⟨w.heap.size + 1 + 1, 0, none⟩) (by simp)).trans h.x0
  have c4 := (hb.cell (p := ⟨w.heap.size + 1 + 1, 1, none⟩) (by simp)).trans h.x1
  have d1 := (hb.frozen (p := ⟨w.heap.size + 1, 0, none⟩) (by simp)).trans h.f0
  have d2 := (hb.frozen (p := ⟨w.heap.size + 1, 1, none⟩) (by simp)).trans h.f1
  have d3 := (hb.frozen (p := ⟨w.heap.size + 1 + 1, 0, none⟩) (by simp)).trans h.g0
  have hz := h.z
  have hs := hb.size
  refine ⟨below_setCell (Below.trans h.b (hb.mono (by omega))) (by omega) _, by simp [World.setCell]; omega, ?_, ?_, ?_, ?_, ?_, ?_, ?_, ?_, flat_put ho (by omega)⟩ <;> simp [go_sem, *]
set_option linter.unusedVariables false in
set_option maxHeartbeats 8000000 in
set_option maxRecDepth 100000 in
theorem back_calls (A : Option Addr) (c : Nat) (l : List Pt) (nx : Int) (w : World) (hC : Kd.C kPt w A l.length l) (hlen : l.length ≤ 1000) :
    Calls Tryd.prog 30 #[.agg #[.slice A l.length c, .int .i64 nx]] w fun e w' => ∃ (A9 : Option Addr) (c9 : Nat), e = .returned (.agg #[.slice A9 l.length c9, .int .i64 nx]) ∧ Kd.C kPt w' A9 l.length l ∧ Below w.heap.size w w' := by
  have HC := Aside0.mk hC
  clear hC
  go_enter Tryd.func30, Tryd.ntmps30
  go_wp2
  go_loopw [4] (fun iv wr => ∃ (k : Nat) (A3 : Option Addr) (c3 : Nat), k ≤ l.length ∧ iv = .int .i64 k ∧ Aside0 (BkW w A l.length c nx A3 k c3 (l.take k) wr)) (fun iv _ => l.length - (intOf iv).toNat)
  case atStart =>
    refine ⟨0, none, 0, Nat.zero_le _, rfl, ⟨?_, ?_, ?_, ?_, ?_, ?_, ?_, ?_, ?_, ?_, Kd.R_nil _ _ _ _ _⟩⟩ <;> first | exact below_alloc (below_alloc (below_alloc (Below.refl _ _) _) _) _ | (go_simp; done) | (simp; done) | (simp [go_sem, *]; done)
  case round =>
    obtain ⟨k, A3, c3, hk, rfl, HW⟩ := hrel
    have m0 := HW.out.b0
    have m1 := HW.out.x0
    have m2 := HW.out.g0
    by_cases hlt : k < l.length
    · obtain ⟨b, o, hA, hb, hr⟩ := flat_at HC.out (by decide) (by omega)
      subst hA
      have hrow := (hr k hlt).1
      rw [← rowAt_below HW.out.b hb] at hrow
      have HTK := Aside0.mk (show l.take (k + 1) = l.take k ++ [l[k]] from List.take_succ_eq_append_getElem hlt)
      obtain ⟨p, hp⟩ : ∃ p, p = l[k] := ⟨_, rfl⟩
      rw [← hp] at hrow HTK
      clear hr hp
      have hlt2 : (k : Int) < (l.length : Int) := by omega
      have hz := HW.out.z
      have n2 : ¬ (w.heap.size + 1 + 1 = wr.heap.size) := by omega
      have n0 : ¬ (w.heap.size = wr.heap.size) := by omega
      have hbz : b < wr.heap.size := Nat.lt_of_lt_of_le hb HW.out.b.size
      have a1 : (wr.alloc (.cells (ptL p).toArray 78)).cell? ⟨w.heap.size + 1 + 1, 0, none⟩ = some (.slice A3 k c3) := ((below_alloc (Below.refl _ _) _).cell (p := ⟨w.heap.size + 1 + 1, 0, none⟩) (by simp; omega)).trans m1
      have HT1 := Aside0.mk (show (l.take (k + 1)).length = k + 1 by rw [List.length_take]; omega)
      have HTL := Aside0.mk (show (l.take k).length = k by rw [List.length_take]; omega)
      go_wp2
      go_region_law
        (first
        | ((with_reducible refine gate_stepb (b := .append) (xs := #[.tmp 16, .tmp 22]) rfl ?_);
              (first | rw [show (wr.alloc (.cells (ptL p).toArray 78)).drew = wr.drew.alloc (.cells (ptL p).toArray 78) from rfl] | skip);
              refine Kd.R_append_step kPt (w0 := wr) (w.heap.size + 1 + 1 + 1) rfl (.tmp 16) (.tmp 22) 61 78 _ 72 rfl Tryd.underlying61 infoPtR zcPt (by decide) (by decide) (.slice A3 k c3) (l.take k) p (ptL p) (fun _ => True) (fun _ => False) rfl ?aX rfl (fun _ h => h.elim) (fun _ _ => trivial) ?aO ?aB ?aS ?aL ?_;
              (case aX => first | rfl | (rw [World.size_alloc]; rfl));
              (case aO => first | exact Kd.R_drew HW.out.o | exact HW.out.o);
              (case aB => first | exact below_drew (Below.refl _ _) | exact Below.refl _ _);
              (case aS => exact HW.out.z);
              (case aL => rw [HTL.out]; omega);
              intro v5 w5 ho5 hb5 hg5 hat5;
              rw [← HTK.out] at ho5;
              obtain ⟨A5, c5, hv5⟩ := Kd.R_slice ho5; rw [HT1.out] at hv5; subst hv5;
              have hS5 : w5.cell? ⟨w.heap.size, 0, none⟩ = some (.slice (some ⟨b, o, none⟩) l.length c) ∧ w5.cell? ⟨w.heap.size + 1 + 1, 0, none⟩ = some (.slice A3 k c3) ∧ rowAt w5 ⟨b, o + k * 36, none⟩ 36 = some (ptL p) := ⟨(hb5.cell (p := ⟨w.heap.size, 0, none⟩) (by simp; omega)).trans m0, (hb5.cell (p := ⟨w.heap.size + 1 + 1, 0, none⟩) (by simp)).trans m1, by rw [rowAt_below hb5 (by simp; omega)]; exact hrow⟩;
              have g5 : w5.frozen? ⟨w.heap.size + 1 + 1, 0, none⟩ = false := (hb5.frozen (p := ⟨w.heap.size + 1 + 1, 0, none⟩) (by simp)).trans m2;
              have HO5 := Aside0.mk ho5;
              have HB5 := Aside0.mk hb5;
              clear ho5 hb5 hg5 hat5))
      all_goals
        go_wp2
        go_roundw
        case rel => exact ⟨k + 1, A5, c5, by omega, by simp, ⟨by have h_ := bk_next HW.out HB5.out HO5.out; simpa using h_⟩⟩
        case measure => simp [intOf]; omega
    · have hk2 : k = l.length := by omega
      subst hk2
      have t0 := HW.out.t0
      have t1 := HW.out.t1
      have f0 := HW.out.f0
      have f1 := HW.out.f1
      have x1 := HW.out.x1
      have ho := HW.out.o
      rw [List.take_length] at ho
      have HO := Aside0.mk ho
      clear ho
      go_wp2
      refine bodyPost_ret (v := .agg #[.slice A3 l.length c3, .int .i64 nx]) (by simp [results, Tryd.results30, go_sem, *]) rfl ⟨_, _, rfl, (Kd.R_reads' (flat_put (flat_put HO.out (by omega)) (by omega))).2.2, below_setCell (below_setCell HW.out.b (by omega) _) (by omega) _⟩
end Go.Proofs.YtiohgpcbdefokaaDoor.B
