/- Plain Lean: the register of the 32-bit sum as bits. -/
import Derived.Laws.BytesArg
import Derived.Laws.BitsLemmas
import Derived.RowKit
import Derived.Lib.Bytes
import Derived.OpenShut
namespace Go.Proofs.YtklacmafifaajaaDoor.PureBits
open Go Go.RowKit

/-- The number that 32 bits hold. -/
def V (b : BitVec 32) : Int := (b.toNat : Int)
theorem V_inj {a b : BitVec 32} (h : V a = V b) : a = b := BitVec.eq_of_toNat_eq (by unfold V at h; omega)
theorem V_lt (b : BitVec 32) : 0 ≤ V b ∧ V b < 4294967296 := by have := b.isLt; unfold V; omega
theorem ofInt_V (b : BitVec 32) : BitVec.ofInt 32 (V b) = b := by
  apply BitVec.eq_of_toNat_eq
  have := b.isLt
  simp [V]
theorem wrap_V (b : BitVec 32) : IntKind.u32.wrap (V b) = V b := by have := V_lt b; rw [IntKind.wrap_u32]; omega
theorem xor_eq (x y : Int) : Go.bits .xor .u32 x y = V (BitVec.ofInt 32 x ^^^ BitVec.ofInt 32 y) := wrap_V _
theorem xor_V (a b : BitVec 32) : Go.bits .xor .u32 (V a) (V b) = V (a ^^^ b) := by rw [xor_eq, ofInt_V, ofInt_V]
theorem and_V (a b : BitVec 32) : Go.bits .and .u32 (V a) (V b) = V (a &&& b) := by
  have : Go.bits .and .u32 (V a) (V b) = V (BitVec.ofInt 32 (V a) &&& BitVec.ofInt 32 (V b)) := wrap_V _
  rw [this, ofInt_V, ofInt_V]
theorem max_V : IntKind.u32.max = V (BitVec.allOnes 32) := by decide
theorem ones_xor (a : BitVec 32) : BitVec.allOnes 32 ^^^ a = ~~~a := by
  rw [BitVec.xor_comm, BitVec.xor_allOnes]
theorem inv_V (a : BitVec 32) : Go.bits .xor .u32 IntKind.u32.max (V a) = V (~~~a) := by rw [max_V, xor_V, ones_xor]
theorem inv_eq (x : Int) : Go.bits .xor .u32 IntKind.u32.max x = V (~~~(BitVec.ofInt 32 x)) := by rw [max_V, xor_eq, ofInt_V, ones_xor]
theorem V_ofInt {x : Int} (h0 : 0 ≤ x) (h1 : x < 4294967296) : V (BitVec.ofInt 32 x) = x := by
  simp only [V, BitVec.toNat_ofInt]
  omega
theorem div16_V (a : BitVec 32) : V a / (16 : Int) = V (a >>> 4) := by
  simp [V, BitVec.toNat_ushiftRight, Nat.shiftRight_eq_div_pow]
theorem div2_V (a : BitVec 32) : V a / (2 : Int) = V (a >>> 1) := by
  simp [V, BitVec.toNat_ushiftRight, Nat.shiftRight_eq_div_pow]

/-- One bit of the register's change. -/
def poly : BitVec 32 := 0xedb88320#32
def b1 (x : BitVec 32) : BitVec 32 := if x.getLsbD 0 then (x >>> 1) ^^^ poly else x >>> 1
def b4 (x : BitVec 32) : BitVec 32 := b1 (b1 (b1 (b1 x)))
def b8 (x : BitVec 32) : BitVec 32 := b4 (b4 x)
def stepB (c : BitVec 32) (x : Int) : BitVec 32 := b8 (c ^^^ BitVec.ofInt 32 x)

theorem b1_get (x : BitVec 32) (i : Nat) : (b1 x).getLsbD i = (x.getLsbD (1 + i) ^^ (x.getLsbD 0 && poly.getLsbD i)) := by
  unfold b1
  cases h : x.getLsbD 0
  · rw [if_neg (by decide), BitVec.getLsbD_ushiftRight]; simp
  · rw [if_pos rfl, BitVec.getLsbD_xor, BitVec.getLsbD_ushiftRight]; simp
theorem b1_xor (x y : BitVec 32) : b1 (x ^^^ y) = b1 x ^^^ b1 y := by
  apply BitVec.eq_of_getLsbD_eq
  intro i hi
  rw [BitVec.getLsbD_xor, b1_get, b1_get, b1_get, BitVec.getLsbD_xor, BitVec.getLsbD_xor]
  cases x.getLsbD 0 <;> cases y.getLsbD 0 <;> cases x.getLsbD (1 + i) <;> cases y.getLsbD (1 + i) <;> cases poly.getLsbD i <;> rfl
theorem b4_xor (x y : BitVec 32) : b4 (x ^^^ y) = b4 x ^^^ b4 y := by simp only [b4, b1_xor]
theorem b8_xor (x y : BitVec 32) : b8 (x ^^^ y) = b8 x ^^^ b8 y := by simp only [b8, b4_xor]
theorem b1_inj {x y : BitVec 32} (h : b1 x = b1 y) : x = y := by
  have m (z : BitVec 32) : (b1 z).getLsbD 31 = z.getLsbD 0 := by
    have hp : poly.getLsbD 31 = true := by decide
    rw [b1_get, hp, z.getLsbD_of_ge (1 + 31) (by omega)]
    cases z.getLsbD 0 <;> rfl
  have h0 : x.getLsbD 0 = y.getLsbD 0 := by rw [← m, ← m, h]
  apply BitVec.eq_of_getLsbD_eq
  intro i hi
  match i with
  | 0 => exact h0
  | i + 1 =>
    have := congrArg (fun z => z.getLsbD i) h
    simp only [b1_get, h0] at this
    rw [Nat.add_comm i 1]
    revert this
    cases x.getLsbD (1 + i) <;> cases y.getLsbD (1 + i) <;> cases y.getLsbD 0 <;> cases poly.getLsbD i <;> simp
theorem b8_inj {x y : BitVec 32} (h : b8 x = b8 y) : x = y := b1_inj (b1_inj (b1_inj (b1_inj (b1_inj (b1_inj (b1_inj (b1_inj h)))))))
theorem stepB_inj {c d : BitVec 32} {x : Int} (h : stepB c x = stepB d x) : c = d := by
  have := b8_inj h
  have := congrArg (· ^^^ BitVec.ofInt 32 x) this
  simpa [BitVec.xor_assoc] using this
theorem foldB_inj {c d : BitVec 32} : ∀ {l : List Int}, l.foldl stepB c = l.foldl stepB d → c = d := by
  intro l
  induction l generalizing c d with
  | nil => exact id
  | cons x l ih => intro h; exact stepB_inj (ih h)

/-- The table of half bytes tells four bits of change. -/
def tab : List Int := [0, 498536548, 997073096, 651767980, 1994146192, 1802195444, 1303535960, 1342533948, 3988292384, 4027552580, 3604390888, 3412177804, 2607071920, 2262029012, 2685067896, 3183342108]
theorem tab_b4 : ∀ i : Fin 16, tab.getD i.val 0 = V (b4 (BitVec.ofNat 32 i.val)) := by decide +kernel
theorem b1_shl (x : BitVec 32) (n : Nat) (hn : 0 < n) (h4 : n ≤ 4) : b1 ((x >>> 4) <<< n) = (x >>> 4) <<< (n - 1) := by
  apply BitVec.eq_of_getLsbD_eq
  intro i hi
  have h0 : ((x >>> 4) <<< n).getLsbD 0 = false := by rw [BitVec.getLsbD_shiftLeft]; simp [hn]
  rw [b1_get, h0, BitVec.getLsbD_shiftLeft, BitVec.getLsbD_shiftLeft, BitVec.getLsbD_ushiftRight, BitVec.getLsbD_ushiftRight]
  by_cases h : i < n - 1
  · have h' : 1 + i < n := by omega
    simp [h, h']
  · have h' : ¬ 1 + i < n := by omega
    have e2 : 4 + (1 + i - n) = 4 + (i - (n - 1)) := by omega
    rw [e2]
    by_cases hq : 1 + i < 32
    · simp [h, h', hi, hq]
    · rw [x.getLsbD_of_ge (4 + (i - (n - 1))) (by omega)]; simp
theorem split16 (x : BitVec 32) : x = (x &&& 15#32) ^^^ ((x >>> 4) <<< 4) := by
  apply BitVec.eq_of_getLsbD_eq
  intro i hi
  have h15 : (15#32).getLsbD i = decide (i < 4) := by
    have : ∀ i : Fin 32, (15#32).getLsbD i.val = decide (i.val < 4) := by decide
    exact this ⟨i, hi⟩
  rw [BitVec.getLsbD_xor, BitVec.getLsbD_and, h15, BitVec.getLsbD_shiftLeft, BitVec.getLsbD_ushiftRight]
  by_cases h : i < 4
  · simp [h]
  · have e : 4 + (i - 4) = i := by omega
    rw [e]
    simp [h, hi]
theorem b4_split (x : BitVec 32) : b4 x = b4 (x &&& 15#32) ^^^ (x >>> 4) := by
  conv => lhs; rw [split16 x]
  rw [b4_xor]
  congr 1
  unfold b4
  rw [b1_shl x 4 (by decide) (by decide), b1_shl x (4 - 1) (by decide) (by decide), b1_shl x (4 - 1 - 1) (by decide) (by decide), b1_shl x (4 - 1 - 1 - 1) (by decide) (by decide)]
  apply BitVec.eq_of_getLsbD_eq
  intro i hi
  rw [BitVec.getLsbD_shiftLeft]
  simp [hi]
theorem b1_zero : b1 0#32 = 0#32 := by decide

def half (c : Int) : Int := Go.bits .xor .u32 (tab.getD (Go.bits .and .u32 c 15).toNat 0) (c / 16)
def step (c x : Int) : Int := half (half (Go.bits .xor .u32 c (x % 4294967296)))
theorem half_V (c : BitVec 32) : half (V c) = V (b4 c) := by
  unfold half
  have e15 : (15 : Int) = V 15#32 := by decide
  rw [e15, and_V]
  rw [div16_V]
  have hlt : (c &&& 15#32).toNat < 16 := by
    rw [BitVec.toNat_and]
    exact Nat.lt_of_le_of_lt Nat.and_le_right (by decide)
  have ht : tab.getD (V (c &&& 15#32)).toNat 0 = V (b4 (c &&& 15#32)) := by
    have := tab_b4 ⟨(c &&& 15#32).toNat, hlt⟩
    simp only at this
    rw [BitVec.ofNat_toNat, BitVec.setWidth_eq] at this
    exact this
  rw [ht, xor_V, ← b4_split]
theorem ofInt_mod (x : Int) : BitVec.ofInt 32 (x % 4294967296) = BitVec.ofInt 32 x := by
  apply BitVec.eq_of_toNat_eq
  simp only [BitVec.toNat_ofInt]
  omega
theorem step_V (c : BitVec 32) (x : Int) : step (V c) x = V (stepB c x) := by
  unfold step
  rw [xor_eq, ofInt_V, ofInt_mod, half_V, half_V]
  rfl
theorem fold_V : ∀ (l : List Int) (c : BitVec 32), l.foldl step (V c) = V (l.foldl stepB c)
  | [], _ => rfl
  | x :: l, c => by rw [List.foldl_cons, List.foldl_cons, step_V]; exact fold_V l _

/-- What More tells. -/
def M (a : BitVec 32) (l : List Int) : BitVec 32 := ~~~(l.foldl stepB (~~~a))
theorem more_eq (a : Int) (l : List Int) : Go.bits .xor .u32 IntKind.u32.max (l.foldl step (Go.bits .xor .u32 IntKind.u32.max a)) = V (M (BitVec.ofInt 32 a) l) := by
  rw [inv_eq a, fold_V, inv_V]; rfl
theorem M_append (a : BitVec 32) (l m : List Int) : M (M a l) m = M a (l ++ m) := by
  unfold M; rw [List.foldl_append, BitVec.not_not]
theorem not_inj {a b : BitVec 32} (h : ~~~a = ~~~b) : a = b := by rw [← BitVec.not_not (b := a), h, BitVec.not_not]
theorem M_inj {a b : BitVec 32} {l : List Int} (h : M a l = M b l) : a = b := not_inj (foldB_inj (not_inj h))
theorem ofInt_inj {x y : Int} (hx : 0 ≤ x ∧ x < 4294967296) (hy : 0 ≤ y ∧ y < 4294967296) (h : BitVec.ofInt 32 x = BitVec.ofInt 32 y) : x = y := by
  rw [← V_ofInt hx.1 hx.2, ← V_ofInt hy.1 hy.2, h]
/-- One byte changed changes the sum. -/
theorem M_set (a : BitVec 32) (l m : List Int) (x y : Int) (hx : 0 ≤ x ∧ x < 256) (hy : 0 ≤ y ∧ y < 256) (h : M a (l ++ x :: m) = M a (l ++ y :: m)) : x = y := by
  rw [← M_append, ← M_append] at h
  generalize M a l = c at h
  have h1 := not_inj h
  simp only [List.foldl_cons] at h1
  have h2 := foldB_inj h1
  have h3 := b8_inj h2
  have h4 := congrArg (~~~c ^^^ ·) h3
  simp only [← BitVec.xor_assoc, BitVec.xor_self, BitVec.zero_xor] at h4
  exact ofInt_inj ⟨hx.1, by omega⟩ ⟨hy.1, by omega⟩ h4

/-! ### bytes -/
theorem toList_nums (l : List Int) : (strOfNums l).toList = l.map fun n => UInt8.ofNat n.toNat := by
  have e : ∀ b : ByteArray, b.toList = b.data.toList := by
    intro b
    have := Go.Lib.strOfNums_toList (b.data.toList.map fun x => (x.toNat : Int))
    have hb : strOfNums (b.data.toList.map fun x => (x.toNat : Int)) = b := by
      cases b with | mk d => simp [strOfNums, Function.comp_def]
    rw [hb] at this
    rw [this]
    simp [Go.Lib.bytesOf, Function.comp_def]
  rw [e]; rfl
theorem toList_inj {a b : List Int} (ha : ∀ x ∈ a, 0 ≤ x ∧ x < 256) (hb : ∀ x ∈ b, 0 ≤ x ∧ x < 256) (h : (strOfNums a).toList = (strOfNums b).toList) : a = b := by
  rw [toList_nums, toList_nums] at h
  have r : ∀ l : List Int, (∀ x ∈ l, 0 ≤ x ∧ x < 256) → (l.map fun n => UInt8.ofNat n.toNat).map (fun x => (x.toNat : Int)) = l := by
    intro l hl
    rw [List.map_map]
    conv => rhs; rw [← List.map_id l]
    apply List.map_congr_left
    intro x hx
    have := hl x hx
    simp [UInt8.toNat_ofNat']
    omega
  rw [← r a ha, ← r b hb, h]
/-- The four bytes of a sum. -/
def four (c : Int) : List Int := [c % 256, c / 256 % 256, c / 65536 % 256, c / 16777216 % 256]
theorem four_in (c : Int) : ∀ x ∈ four c, 0 ≤ x ∧ x < 256 := by
  intro x hx
  simp only [four, List.mem_cons, List.not_mem_nil, or_false] at hx
  rcases hx with rfl | rfl | rfl | rfl <;> omega
theorem four_inj {c d : Int} (hc : 0 ≤ c ∧ c < 4294967296) (hd : 0 ≤ d ∧ d < 4294967296) (h : four c = four d) : c = d := by
  simp only [four, List.cons.injEq, and_true] at h
  omega
theorem w64 {x : Int} (h : -9223372036854775808 ≤ x ∧ x < 9223372036854775808) : wrap64 x = x := by unfold wrap64; omega
end Go.Proofs.YtklacmafifaajaaDoor.PureBits
