/- Contracts and plain laws for the statement RecordPuts, part c: several texts of this session behind one another. No condition. -/
import Derived.Lib.Split
import Derived.Lib.SplitLaws
import Derived.Lib.IndexBytes
import Derived.Lib.IndexLaws
import Derived.Lib.Join
import Derived.Lib.Strings
import Derived.RowKit
import Derived.Test.YtiohgpcbdefokaaDoorMRecordPutsb
import Derived.OpenShut
import Derived.Laws.Bits128
import Derived.Laws.BytesArg
import Derived.Laws.BitsLemmas
import Derived.Lib.Bytes
import Derived.Lib.Hide
import Derived.WalkSpells
import Derived.WalkLawsBesides
import Derived.Deep.RegionHeld3
import Derived.Deep.QuietTactic
import Derived.BigQuiet
import Derived.StillTailTactics
/- Plain Lean, no condition: a text's parts between slashes, joined again, and their order. -/
namespace Go.Proofs.YtiohgpcbdefokaaDoor.PureSp
open Go Go.Lib Go.RowKit

theorem w64 {x : Int} (h : -9223372036854775808 ≤ x ∧ x < 9223372036854775808) : wrap64 x = x := by unfold wrap64; omega

/-- The parts between slashes. -/
def sp : List UInt8 → List (List UInt8)
  | [] => [[]]
  | c :: l => if c = 47 then [] :: sp l else match sp l with
    | h :: t => (c :: h) :: t
    | [] => [[c]]
theorem sp_ne : ∀ s, sp s ≠ []
  | [] => by simp [sp]
  | c :: l => by
    unfold sp
    split
    · simp
    · split <;> simp
theorem sp_cons (c : UInt8) (l : List UInt8) (h : c ≠ 47) : ∃ x t, sp l = x :: t ∧ sp (c :: l) = (c :: x) :: t := by
  cases hs : sp l with
  | nil => exact absurd hs (sp_ne l)
  | cons x t => exact ⟨x, t, rfl, by rw [sp, if_neg h, hs]⟩
theorem sp_none : ∀ s : List UInt8, s.count 47 = 0 → sp s = [s]
  | [], _ => rfl
  | c :: l, h => by
    have hc : c ≠ 47 := by
      rintro rfl
      rw [List.count_cons_self] at h
      omega
    rw [List.count_cons_of_ne hc] at h
    obtain ⟨x, t, e1, e2⟩ := sp_cons c l hc
    rw [sp_none l h] at e1
    injection e1 with e3 e4
    rw [e2, ← e3, ← e4]
theorem sp_hit : ∀ (s : List UInt8) (i : Nat), indexByte s 47 = (i : Int) → sp s = s.take i :: sp (s.drop (i + 1)) ∧ s.count 47 = 1 + (s.drop (i + 1)).count 47
  | [], i, h => by simp [indexByte] at h
  | c :: l, i, h => by
    unfold indexByte at h
    by_cases hc : c = 47
    · subst hc
      rw [if_pos (by simp)] at h
      obtain rfl : i = 0 := by omega
      refine ⟨by rw [sp, if_pos rfl]; rfl, ?_⟩
      rw [List.count_cons_self]
      simp only [Nat.zero_add, List.drop_succ_cons, List.drop_zero]
      omega
    · rw [if_neg (by simpa using hc)] at h
      by_cases hm : (indexByte l 47 == -1) = true
      · rw [if_pos hm] at h; omega
      · rw [if_neg hm] at h
        have h2 := indexByte_ge l 47
        have h3 : indexByte l 47 ≠ -1 := by simpa using hm
        obtain ⟨j, rfl⟩ : ∃ j, i = j + 1 := ⟨i - 1, by omega⟩
        obtain ⟨e1, e2⟩ := sp_hit l j (by omega)
        obtain ⟨x, t, e3, e4⟩ := sp_cons c l hc
        rw [e1] at e3
        injection e3 with e5 e6
        refine ⟨?_, ?_⟩
        · rw [e4, ← e5, ← e6]
          simp
        · rw [List.count_cons_of_ne hc, e2]
          simp
theorem indexByte_count : ∀ s : List UInt8, indexByte s 47 = -1 → s.count 47 = 0
  | [], _ => rfl
  | c :: l, h => by
    unfold indexByte at h
    by_cases hc : c = 47
    · subst hc; rw [if_pos (by simp)] at h; omega
    · rw [if_neg (by simpa using hc)] at h
      rw [List.count_cons_of_ne hc]
      apply indexByte_count
      by_cases hm : (indexByte l 47 == -1) = true
      · simpa using hm
      · rw [if_neg hm] at h
        have h2 := indexByte_ge l 47
        omega
theorem splitK_sp : ∀ (k : Nat) (s : List UInt8), s.count 47 = k → splitK [47] 0 k s = sp s
  | 0, s, h => (sp_none s h).symm
  | k + 1, s, h => by
    unfold splitK
    rw [index_one]
    by_cases hm : (indexByte s 47 == -1) = true
    · have := indexByte_count s (by simpa using hm)
      omega
    · rw [if_neg hm]
      have h2 := indexByte_ge s 47
      have h3 : indexByte s 47 ≠ -1 := by simpa using hm
      obtain ⟨i, hi⟩ : ∃ i : Nat, indexByte s 47 = i := ⟨(indexByte s 47).toNat, by omega⟩
      obtain ⟨e1, e2⟩ := sp_hit s i hi
      rw [hi, e1, splitK_sp k _ (by simp only [List.length_singleton, Int.toNat_natCast]; omega)]
      simp


/-! ### the order -/
def lt (a b : List UInt8) : Bool := Op.bytesLess a b
theorem lt_nil_r (a : List UInt8) : lt a [] = false := by cases a <;> rfl
theorem lt_cons (a b : UInt8) (x y : List UInt8) : lt (a :: x) (b :: y) = (decide (a < b) || (a == b && lt x y)) := rfl
theorem u8_irr (a : UInt8) : ¬ a < a := UInt8.lt_irrefl a
theorem lt_irr : ∀ x, lt x x = false
  | [] => rfl
  | a :: x => by rw [lt_cons, lt_irr x]; simp
theorem lt_asymm : ∀ x y, lt x y = true → lt y x = false
  | x, [], h => by rw [lt_nil_r] at h; cases h
  | [], b :: y, _ => lt_nil_r _
  | a :: x, b :: y, h => by
    rw [lt_cons] at h ⊢
    simp only [Bool.or_eq_true, decide_eq_true_eq, Bool.and_eq_true, beq_iff_eq] at h
    rcases h with h | ⟨rfl, h⟩
    · have h1 : ¬ b < a := UInt8.lt_asymm h
      have h2 : b ≠ a := fun e => u8_irr a (e ▸ h)
      simp [h1, h2]
    · simp [lt_asymm x y h]

/-- Part by part. -/
def cmpP : List (List UInt8) → List (List UInt8) → Int
  | [], [] => 0
  | [], _ :: _ => -1
  | _ :: _, [] => 1
  | x :: xs, y :: ys => if lt x y = true then -1 else if x = y then cmpP xs ys else 1
def less (a b : List (List UInt8)) : Bool := decide (cmpP a b < 0)
theorem less_cons (x y : List UInt8) (xs ys) : less (x :: xs) (y :: ys) = (lt x y || (x == y && less xs ys)) := by
  unfold less
  rw [cmpP]
  by_cases h : lt x y = true
  · simp [h]
  · rw [if_neg h]
    by_cases e : x = y
    · simp [e, lt_irr]
    · rw [if_neg e]
      simp [h, e]
theorem between : ∀ (d p r : List (List UInt8)), less d p = true → less p (d ++ r) = true → ∃ r', r' ≠ [] ∧ p = d ++ r'
  | [], [], _, h, _ => by cases h
  | [], x :: p, _, _, _ => ⟨x :: p, by simp, rfl⟩
  | _ :: _, [], _, h, _ => by cases h
  | y :: d, x :: p, r, h1, h2 => by
    rw [less_cons] at h1
    rw [List.cons_append, less_cons] at h2
    simp only [Bool.or_eq_true, Bool.and_eq_true, beq_iff_eq] at h1 h2
    rcases h1 with h1 | ⟨rfl, h1⟩
    · rcases h2 with h2 | ⟨rfl, h2⟩
      · have := lt_asymm _ _ h1; rw [h2] at this; cases this
      · rw [lt_irr] at h1; cases h1
    · rcases h2 with h2 | ⟨_, h2⟩
      · rw [lt_irr] at h2; cases h2
      · obtain ⟨r', e1, e2⟩ := between d p r h1 h2
        exact ⟨r', e1, by rw [e2]; rfl⟩
/-- A path's names. -/
def S (s : List UInt8) : List (List UInt8) := if s = [] then [] else sp s
theorem data_ext {a b : ByteArray} (h : a.data.toList = b.data.toList) : a = b := by
  cases a; cases b; simp at h; simp [h]
end Go.Proofs.YtiohgpcbdefokaaDoor.PureSp
/- The document's way to check a path tells what the program's tells. No condition. -/
namespace Go.Proofs.YtiohgpcbdefokaaDoor.B
open Go Go.Lib Go.RowKit Go.WideShapes Go.Proofs.YtiohgpcbdefokaaDoorW.PrintWords Go.Proofs.YtiohgpcbdefokaaDoor.PureSp
namespace PathE
theorem toL (s : ByteArray) : s.toList = s.data.toList := toList_data s
theorem split (s : ByteArray) (hs : s.size < 4294967281) : ∃ l : List ByteArray, path_Split.f s = some l ∧ l.map (·.data.toList) = S s.data.toList := by
  unfold path_Split.f S
  rw [toL]
  by_cases h : s.data.toList = []
  · rw [if_pos h, if_pos h]
    exact ⟨[], rfl, rfl⟩
  · rw [if_neg h, if_neg h]
    unfold strings_Split.f
    rw [if_pos hs, if_pos (by decide), Option.bind_some]
    refine ⟨_, rfl, ?_⟩
    rw [splitB_data]
    exact splitK_sp _ _ (count_one 47 _).symm
theorem S_length (s : List UInt8) : (S s).length ≤ s.length + 1 := by
  have h : ∀ s : List UInt8, (sp s).length ≤ s.length + 1 := by
    intro s
    induction s with
    | nil => simp [sp]
    | cons c l ih =>
      by_cases hc : c = 47
      · rw [sp, if_pos hc]; simp only [List.length_cons]; omega
      · obtain ⟨x, t, e1, e2⟩ := sp_cons c l hc
        rw [e1] at ih
        rw [e2]; simp only [List.length_cons] at ih ⊢; omega
  unfold S
  split
  · simp
  · exact h s
def glue (p : List UInt8) : List (List UInt8) → List (List UInt8)
  | [] => [p]
  | h :: t => (p ++ h) :: t
theorem bt_at' (s : ByteArray) (i : Nat) (h : i < s.size) : bt s (i : Int) = (s.data.toList[i]'(by simpa using h)).toNat := by
  unfold bt
  rw [dif_pos (by simpa using h)]
  simp
  rfl
theorem bt_47 (s : ByteArray) (i : Nat) (h : i < s.size) : (bt s (i : Int) = 47) ↔ s.data.toList[i]'(by simpa using h) = 47 := by
  rw [bt_at' s i h]
  constructor
  · intro e
    apply UInt8.toNat_inj.mp
    have : (47 : UInt8).toNat = 47 := rfl
    omega
  · intro e
    rw [e]; rfl
theorem refsplit_at (s : ByteArray) (hs : s.size ≤ 1001) : ∀ (n i f k : Nat) (out : List ByteArray), n + i = s.size → f ≤ i → out.length ≤ i → n + 2 ≤ k →
    ∃ l, sumpterref07_Split.l0 k s out (f : Int) (i : Int) = some l ∧ l.map (·.data.toList) = out.map (·.data.toList) ++ glue ((s.data.toList.drop f).take (i - f)) (sp (s.data.toList.drop i))
  | 0, i, f, k, out, h, hf, ho, hk => by
    obtain ⟨k, rfl⟩ : ∃ j, k = j + 2 := ⟨k - 2, by omega⟩
    have hd : s.data.toList.drop i = [] := List.drop_of_length_le (by simp; omega)
    simp only [sumpterref07_Split.l0]
    rw [if_pos (by omega), if_pos (by omega), if_pos (by omega), if_pos (by omega), if_pos (by omega), PureSp.w64 (x := (i : Int) + 1) (by omega), if_neg (by omega)]
    refine ⟨_, rfl, ?_⟩
    rw [hd, List.map_append]
    simp [sp, glue]
  | n + 1, i, f, k, out, h, hf, ho, hk => by
    obtain ⟨k, rfl⟩ : ∃ j, k = j + 1 := ⟨k - 1, by omega⟩
    have hi : i < s.size := by omega
    have hil : i < s.data.toList.length := by simpa using hi
    simp only [sumpterref07_Split.l0]
    rw [if_pos (by omega), if_neg (by omega), if_pos (by omega), if_pos (by omega)]
    have hd : s.data.toList.drop i = s.data.toList[i] :: s.data.toList.drop (i + 1) := List.drop_eq_getElem_cons hil
    by_cases hc : bt s (i : Int) = 47
    · rw [if_pos hc, if_pos (by omega), if_pos (by omega), if_pos (by omega), PureSp.w64 (x := (i : Int) + 1) (by omega)]
      obtain ⟨l, e1, e2⟩ := refsplit_at s hs n (i + 1) (i + 1) k (out ++ [s.extract ((f : Int)).toNat ((i : Int)).toNat]) (by omega) (by omega) (by simp; omega) (by omega)
      refine ⟨l, e1, ?_⟩
      rw [e2, hd, (bt_47 s i hi).mp hc, sp, if_pos rfl]
      cases hq : sp (s.data.toList.drop (i + 1)) with
      | nil => exact absurd hq (sp_ne _)
      | cons x t => simp [glue]
    · rw [if_neg hc, PureSp.w64 (x := (i : Int) + 1) (by omega)]
      obtain ⟨l, e1, e2⟩ := refsplit_at s hs n (i + 1) f k out (by omega) (by omega) (by omega) (by omega)
      refine ⟨l, e1, ?_⟩
      obtain ⟨x, t, e3, e4⟩ := sp_cons s.data.toList[i] (s.data.toList.drop (i + 1)) (fun e => hc ((bt_47 s i hi).mpr e))
      rw [e2, hd, e3, e4]
      congr 1
      simp only [glue]
      congr 1
      have h1 : i - f < (s.data.toList.drop f).length := by rw [List.length_drop]; omega
      have h2 : (s.data.toList.drop f)[i - f] = s.data.toList[i] := by rw [List.getElem_drop]; congr 1; omega
      rw [show i + 1 - f = (i - f) + 1 by omega, List.take_succ_eq_append_getElem h1, h2]
      simp
theorem refsplit (k : Nat) (s : ByteArray) (hs : s.size ≤ 1001) (hk : s.size + 2 ≤ k) : ∃ l : List ByteArray, sumpterref07_Split.f k s = some l ∧ l.map (·.data.toList) = S s.data.toList := by
  unfold sumpterref07_Split.f S
  rw [toL]
  by_cases h : s.data.toList = []
  · rw [if_pos h, if_pos h]
    exact ⟨[], rfl, rfl⟩
  · rw [if_neg h, if_neg h]
    obtain ⟨l, e1, e2⟩ := refsplit_at s hs s.size 0 0 k [] (by omega) (by omega) (by simp) (by omega)
    refine ⟨l, e1, ?_⟩
    rw [e2]
    cases hq : sp s.data.toList with
    | nil => exact absurd hq (sp_ne _)
    | cons x t => simp [glue, hq]
theorem name_l0 (x : ByteArray) (hx : x.size ≤ 1000) : ∀ (k : Nat) (i : Int), 0 ≤ i → i ≤ x.size → path_Name.l0 k x (x.size : Int) i = sumpterref07_Name.l0 k x i
  | 0, _, _, _ => rfl
  | k + 1, i, h0, hi => by
    unfold path_Name.l0 sumpterref07_Name.l0
    by_cases h : i < (x.size : Int)
    · rw [if_pos h, if_pos h0, if_pos h, if_pos h, if_pos h0]
      by_cases h1 : bt x i = 47
      · rw [if_pos h1, if_pos h1]
      rw [if_neg h1, if_neg h1]
      by_cases h2 : bt x i ≤ 32
      · rw [if_pos h2, if_pos (show bt x i < 33 by omega)]
      rw [if_neg h2, if_neg (show ¬ bt x i < 33 by omega)]
      by_cases h3 : bt x i > 126
      · rw [if_pos h3, if_pos h3]
      rw [if_neg h3, if_neg h3]
      have hw : wrap64 (i + 1) = i + 1 := w64 ⟨by omega, by omega⟩
      rw [hw]
      exact name_l0 x hx k (i + 1) (by omega) (by omega)
    · rw [if_neg h, if_neg h]
theorem sp_len : ∀ (s x : List UInt8), x ∈ sp s → x.length ≤ s.length
  | [], x, h => by
    have : x = [] := by simpa [sp] using h
    subst this
    simp
  | c :: l, x, h => by
    by_cases hc : c = 47
    · subst hc
      have e : sp (47 :: l) = [] :: sp l := by simp [sp]
      rw [e] at h
      rcases List.mem_cons.1 h with rfl | h
      · simp
      · have := sp_len l x h; simp; omega
    · obtain ⟨y, t, h1, h2⟩ := sp_cons c l hc
      rw [h2] at h
      rcases List.mem_cons.1 h with rfl | h
      · have := sp_len l y (by rw [h1]; simp); simp; omega
      · have := sp_len l x (by rw [h1]; exact List.mem_cons_of_mem _ h); simp; omega
theorem nameE (x : ByteArray) (hx : x.size ≤ 1000) (k : Nat) : sumpterref07_Name.f k x = path_Name.f k x := by
  have hj : ∀ b, path_Name.j0 k x b = sumpterref07_Name.j0 k x b := by
    intro b
    cases k with
    | zero => rfl
    | succ k =>
      simp only [path_Name.j0, sumpterref07_Name.j0]
      rw [name_l0 x hx k 0 (by omega) (by omega)]
  unfold sumpterref07_Name.f path_Name.f
  rw [toL, hj, hj]
  have hs : x.data.toList.length = x.size := by simp
  by_cases h : x.data.toList = []
  · rw [if_pos h, if_pos (by rw [h] at hs; simp at hs; omega)]
  · rw [if_neg h, if_neg (by have : 0 < x.data.toList.length := List.length_pos_iff.2 h; omega)]
theorem name_up (x : ByteArray) : ∀ n, path_Name.f (39 + n) x = path_Name.f 39 x
  | 0 => rfl
  | n + 1 => by
    obtain ⟨b, hb⟩ := name_total x
    rw [hb]
    have := name_up x n
    rw [hb] at this
    exact path_Name.mono x (39 + n) b this
theorem name_bad (x : ByteArray) (hx : x.size ≤ 1000) (k : Nat) (hk : 39 ≤ k) : sumpterref07_Name.f k x = some (!badName x) := by
  obtain ⟨n, rfl⟩ : ∃ n, k = 39 + n := ⟨k - 39, by omega⟩
  rw [nameE x hx, name_up]
  obtain ⟨b, hb⟩ := name_total x
  unfold badName
  rw [hb]
  simp
theorem chk_l0 (l : List ByteArray) (hl : l.length ≤ 1000) (hx : ∀ x ∈ l, x.size ≤ 1000) : ∀ (n i k : Nat), n + i = l.length → n + 40 ≤ k →
    sumpterref07_Check.l0 k l (i : Int) = (if (l.drop i).any badName = true then some 6 else if (l.length : Int) = 0 then some 6 else if (l.length : Int) > 8 then some 5 else some 0)
  | 0, i, k + 1, h, _ => by
    unfold sumpterref07_Check.l0
    rw [if_neg (by omega), List.drop_of_length_le (by omega)]
    rfl
  | n + 1, i, k + 1, h, hk => by
    have hi : i < l.length := by omega
    unfold sumpterref07_Check.l0
    rw [if_pos (by omega), if_pos (by omega), List.drop_eq_getElem_cons hi, List.any_cons]
    have hr : rdOf ByteArray.empty l (i : Int) = l[i] := by unfold rdOf; simp [List.getD, hi]
    rw [hr, name_bad _ (hx _ (List.getElem_mem hi)) k (by omega), Option.bind_some]
    by_cases hb : badName l[i] = true
    · rw [hb]; simp
    · have hb : badName l[i] = false := by simpa using hb
      have hw : wrap64 ((i : Int) + 1) = ((i + 1 : Nat) : Int) := w64 ⟨by omega, by omega⟩
      rw [hb, if_pos (by decide), hw, chk_l0 l hl hx n (i + 1) k (by omega) (by omega)]
      simp
end PathE
open PathE in
/-- The document's check is the program's. -/
theorem checkE (p : ByteArray) (k : Nat) (hk : 400 ≤ k) : sumpterref07_Check.f k p = path_Check.f p := by
  unfold sumpterref07_Check.f path_Check.f
  by_cases h : (p.size : Int) > 128
  · rw [if_pos h, if_pos h]
  rw [if_neg h, if_neg h]
  obtain ⟨l, hl, e1⟩ := split p (by omega)
  obtain ⟨m, hm, e2⟩ := refsplit k p (by omega) (by omega)
  have hlm : m = l := by
    have := e2.trans e1.symm
    clear hl hm e1 e2
    induction m generalizing l with
    | nil => cases l with
      | nil => rfl
      | cons a l => cases this
    | cons b m ih => cases l with
      | nil => cases this
      | cons a l =>
        simp only [List.map_cons, List.cons.injEq] at this
        rw [data_ext this.1, ih l this.2]
  subst hlm
  rw [hl, hm, Option.bind_some, Option.bind_some]
  have hlen : m.length ≤ 129 := by
    have h1 := congrArg List.length e1
    rw [List.length_map] at h1
    have h2 := S_length p.data.toList
    have h3 : p.data.toList.length = p.size := by simp
    omega
  have hsz : ∀ x ∈ m, x.size ≤ 1000 := by
    intro x hx
    have hm2 : x.data.toList ∈ S p.data.toList := by rw [← e1]; exact List.mem_map.2 ⟨x, hx, rfl⟩
    unfold S at hm2
    split at hm2
    · cases hm2
    · have h1 := sp_len p.data.toList x.data.toList hm2
      have h2 : x.data.toList.length = x.size := by simp
      have h3 : p.data.toList.length = p.size := by simp
      omega
  have := chk_l0 m (by omega) hsz m.length 0 k (by omega) (by omega)
  rw [show ((0 : Nat) : Int) = 0 from rfl] at this
  rw [this, List.drop_zero]
  by_cases hz : (m.length : Int) = 0
  · rw [if_pos hz]
    have : m = [] := List.eq_nil_of_length_eq_zero (by omega)
    subst this
    rfl
  · by_cases hb : m.any badName = true
    · rw [if_pos hb, if_neg hz, if_pos hb]
    · rw [if_neg hb, if_neg hz, if_neg hz, if_neg hb]
end Go.Proofs.YtiohgpcbdefokaaDoor.B
/- record.Put of a record that may not be; reserved paths are told alike on both sides. No condition. -/
namespace Go.Proofs.YtiohgpcbdefokaaDoor.B
open Go.RowKit Go.Proofs.YtiohgpcbdefokaaDoorW.PrintWords Go.Proofs.YtiohgpcbdefokaaDoor.RowLaws
attribute [local go_sem ↓ high] lvO_hs ldO_hs stO_hs lvO_pt ldO_pt stO_pt zero_pt eqA_pt lvO_ptR ldO_ptR stO_ptR zero_ptR eqA_ptR lvO_rc ldO_rc stO_rc zero_rc eqA_rc lvO_rcR ldO_rcR stO_rcR zero_rcR eqA_rcR lvO_tk ldO_tk stO_tk zero_tk eqA_tk lvO_tkR ldO_tkR stO_tkR zero_tkR eqA_tkR lvO_it ldO_it stO_it zero_it eqA_it blO_pt blO_ptR blO_rc blO_rcR blO_tk blO_tkR blO_it bsO_pt bsO_ptR bsO_rc bsO_rcR bsO_it
attribute [local go_sem high] rowAt_setCell rowAt_setRow cell_setRow_ne isRow_setRow_ne rowAt_alloc rowAt_drew isRow_alloc isRow_drew isRow_setCell rowRun_some okL_hs ldV_hs ldA_hs stA_hs setRow_alloc get_pt_id get_pt_path cut_pt_sum get_pt_size get_pt_off cut_pt okL_pt size_pt lenb_pt eta_pt ldV_pt ldA_pt stA_pt ldV_ptR ldA_ptR stA_ptR get_rc_kind get_rc_id get_rc_path cut_rc_sum get_rc_size get_rc_off cut_rc okL_rc size_rc lenb_rc eta_rc ldV_rc ldA_rc stA_rc ldV_rcR ldA_rcR stA_rcR get_tk_path cut_tk_sum get_tk_size get_tk_off cut_tk_old cut_tk okL_tk size_tk lenb_tk eta_tk ldV_tk ldA_tk stA_tk ldV_tkR ldA_tkR stA_tkR get_it_path get_it_dir get_it_size cut_it_sum cut_it okL_it size_it lenb_it eta_it ldV_it ldA_it stA_it bld_pt_01234 bld_pt_0123 bld_pt_z bld_ptR_01234 bld_ptR_0123 bld_ptR_z bld_rc_012345 bld_rc_015 bld_rc_01 bld_rc_z bld_rc_01234 bld_rc_24 bld_rc_05 bld_rc_0 bld_rcR_012345 bld_rcR_015 bld_rcR_01 bld_rcR_z bld_rcR_01234 bld_rcR_24 bld_rcR_05 bld_rcR_0 bld_tk_01234 bld_tk_0 bld_tk_z bld_tkR_01234 bld_tkR_0 bld_tkR_z bld_it_0123 bld_it_023 bld_it_01 bld_it_0 bld_it_z bs0_pt bs1_pt bs0_ptR bs1_ptR bs0_rc bs1_rc bs0_rcR bs1_rcR bs0_it bs1_it
theorem resvE (p : ByteArray) : sumpterref07_Reserved.f p = path_Reserved.f p := by
  unfold sumpterref07_Reserved.f path_Reserved.f strings_HasPrefix.f stringslite_HasPrefix.f
  rw [show ((⟨#[46, 115, 117, 109, 112, 116, 101, 114]⟩ : ByteArray).size : Int) = 8 from rfl]
  by_cases h : (p.size : Int) ≥ 8
  · have h8 : (8 : Int) ≤ (p.size : Int) := by omega
    have hz : (0 : Int) ≤ 8 := by decide
    have hL : (⟨#[46, 115, 117, 109, 112, 116, 101, 114]⟩ : ByteArray).toList = [46, 115, 117, 109, 112, 116, 101, 114] := by decide +kernel
    simp only [if_pos h, if_pos hz, if_pos h8, Option.bind_some, hL]
    rfl
  · rw [if_neg h, if_neg h]; rfl
set_option linter.unusedVariables false in
set_option maxHeartbeats 4000000 in
set_option maxRecDepth 100000 in
theorem PutNot_calls (r : Rc) (w : World) (hT : TabOK w) (hc : ¬ chkE r = 0) :
    Calls Tryd.prog 23 #[.agg (rcL r).toArray] w fun e w' => e = .returned (.tuple #[.slice none 0 0, .int .i64 (chkE r)]) ∧ Below w.heap.size w w' := by
  have HT := Aside0.mk hT
  have hd1 : decide (chkE r = 0) = false := decide_eq_false hc
  have hd2 : (chkE r != 0) = true := bne_iff_ne.2 hc
  clear hT hc
  go_enter Tryd.func23, Tryd.ntmps23
  go_wp2_with (go_at_call 26; refine (Check_calls r _ (HT.out.below ?_)).mono ?_; (exact below_alloc (Below.refl _ _) _); rintro e w2 ⟨rfl, hb2⟩; have HB2 := Aside0.mk (Below.trans (below_alloc (Below.refl w.heap.size w) _) (hb2.mono (by simp))); clear hb2)
  go_ret2
  exact ⟨rfl, HB2.out⟩
end Go.Proofs.YtiohgpcbdefokaaDoor.B
/- field.Num, told in plain words, for every number that has room. No condition. -/
namespace Go.Proofs.YtiohgpcbdefokaaDoor.B
open Go.RowKit Go.Proofs.YtiohgpcbdefokaaDoorW.PrintWords
/-- A number's bytes in its least width. -/
def numL (x : Int) : List Int :=
  if x < 64 then [x]
  else if x < 16384 then [64 + x / 256, x % 256]
  else if x < 1073741824 then [128 + x / 16777216, x / 65536 % 256, x / 256 % 256, x % 256]
  else [192 + x / 72057594037927936, x / 281474976710656 % 256, x / 1099511627776 % 256, x / 4294967296 % 256, x / 16777216 % 256, x / 65536 % 256, x / 256 % 256, x % 256]
theorem or_all : ∀ a : Fin 64, ∀ t : Fin 4, Go.bits .or .u8 (a.val : Int) ((t.val * 64 : Nat) : Int) = ((a.val + t.val * 64 : Nat) : Int) := by decide +kernel
theorem or_tag (a t : Int) (h0 : 0 ≤ a) (h1 : a < 64) (t0 : 0 ≤ t) (t1 : t < 4) : Go.bits .or .u8 a (t * 64) = a + t * 64 := by
  have := or_all ⟨a.toNat, by omega⟩ ⟨t.toNat, by omega⟩
  have e1 : ((a.toNat : Nat) : Int) = a := by omega
  have e2 : ((t.toNat * 64 : Nat) : Int) = t * 64 := by omega
  have e3 : ((a.toNat + t.toNat * 64 : Nat) : Int) = a + t * 64 := by omega
  simpa only [e1, e2, e3] using this
theorem numL_1 (x : Int) (h0 : 0 ≤ x) (h1 : x < 64) : field_Num.f 10 x = some [x] := by
  have hf := fits1 x (by omega)
  have ho := or_tag (x % 256) 0 (by omega) (by omega) (by omega) (by omega)
  simp only [Int.zero_mul, Int.add_zero] at ho
  simp only [field_Num.f, varint_Put.f, varint_Len.f, varint_PutIn.f, varint_tell.f, hf, if_pos (show x < 9223372036854775808 by omega), if_neg (show ¬ x < 0 by omega), if_pos h1, Option.bind_some]
  simp [varint_PutIn.l0, wrap64, rd, h0, h1]
  rw [ho]; omega
theorem numL_2 (x : Int) (h0 : 64 ≤ x) (h1 : x < 16384) : field_Num.f 10 x = some [64 + x / 256, x % 256] := by
  have hf := fits2 x (by omega)
  have ho := or_tag (x / 256 % 256) 1 (by omega) (by omega) (by omega) (by omega)
  simp only [Int.one_mul] at ho
  simp only [field_Num.f, varint_Put.f, varint_Len.f, varint_PutIn.f, varint_tell.f, hf, if_pos (show x < 9223372036854775808 by omega), if_neg (show ¬ x < 0 by omega), if_neg (show ¬ x < 64 by omega), if_pos h1, Option.bind_some]
  simp [varint_PutIn.l0, wrap64, rd, h1, show (0 : Int) ≤ x by omega, List.replicate]
  rw [ho]; omega
theorem numL_4 (x : Int) (h0 : 16384 ≤ x) (h1 : x < 1073741824) : field_Num.f 10 x = some [128 + x / 16777216, x / 65536 % 256, x / 256 % 256, x % 256] := by
  have hf := fits4 x (by omega)
  have ho := or_tag (x / 256 / 256 / 256 % 256) 2 (by omega) (by omega) (by omega) (by omega)
  simp only [show (2 : Int) * 64 = 128 from rfl] at ho
  simp only [field_Num.f, varint_Put.f, varint_Len.f, varint_PutIn.f, varint_tell.f, hf, if_pos (show x < 9223372036854775808 by omega), if_neg (show ¬ x < 0 by omega), if_neg (show ¬ x < 64 by omega), if_neg (show ¬ x < 16384 by omega), if_pos h1, Option.bind_some]
  simp [varint_PutIn.l0, wrap64, rd, h1, show (0 : Int) ≤ x by omega, List.replicate]
  rw [ho]; omega
theorem numL_8 (x : Int) (h0 : 1073741824 ≤ x) (h1 : x < 4611686018427387904) : field_Num.f 10 x = some [192 + x / 72057594037927936, x / 281474976710656 % 256, x / 1099511627776 % 256, x / 4294967296 % 256, x / 16777216 % 256, x / 65536 % 256, x / 256 % 256, x % 256] := by
  have hf := fits8 x (by omega)
  have ho := or_tag (x / 256 / 256 / 256 / 256 / 256 / 256 / 256 % 256) 3 (by omega) (by omega) (by omega) (by omega)
  simp only [show (3 : Int) * 64 = 192 from rfl] at ho
  simp only [field_Num.f, varint_Put.f, varint_Len.f, varint_PutIn.f, varint_tell.f, hf, if_pos (show x < 9223372036854775808 by omega), if_neg (show ¬ x < 0 by omega), if_neg (show ¬ x < 64 by omega), if_neg (show ¬ x < 16384 by omega), if_neg (show ¬ x < 1073741824 by omega), if_pos h1, Option.bind_some]
  simp [varint_PutIn.l0, wrap64, rd, h1, show (0 : Int) ≤ x by omega, List.replicate]
  rw [ho]; omega
theorem numL_all (x : Int) (h : 0 ≤ x ∧ x ≤ 1099511627776) : field_Num.f 10 x = some (numL x) ∧ (numL x).length ≤ 8 := by
  unfold numL
  by_cases h1 : x < 64
  · rw [if_pos h1]; exact ⟨numL_1 x h.1 h1, by simp⟩
  · rw [if_neg h1]
    by_cases h2 : x < 16384
    · rw [if_pos h2]; exact ⟨numL_2 x (by omega) h2, by simp⟩
    · rw [if_neg h2]
      by_cases h3 : x < 1073741824
      · rw [if_pos h3]; exact ⟨numL_4 x (by omega) h3, by simp⟩
      · rw [if_neg h3]; exact ⟨numL_8 x (by omega) (by omega), by simp⟩
#print axioms numL_all
end Go.Proofs.YtiohgpcbdefokaaDoor.B
/- The document's number, told in plain words: the same bytes as the program's. No condition. -/
namespace Go.Proofs.YtiohgpcbdefokaaDoor.B
open Go.RowKit Go.Proofs.YtiohgpcbdefokaaDoorW.PrintWords
theorem i64_and255 (n : Int) : Go.bits .and .i64 n 255 = n % 256 := by
  have h127 : (BitVec.ofInt 64 255).toNat = 2 ^ 8 - 1 := by decide
  have key : (BitVec.ofInt 64 n &&& BitVec.ofInt 64 255).toNat = (n % ((2 ^ 64 : Nat) : Int)).toNat % 2 ^ 8 := by
    rw [BitVec.toNat_and, BitVec.toNat_ofInt, h127, Nat.and_two_pow_sub_one_eq_mod]
  show IntKind.i64.wrap ((BitVec.ofInt 64 n &&& BitVec.ofInt 64 255).toNat : Nat) = n % 256
  rw [key, IntKind.wrap_i64]
  omega
theorem ref_1 (x : Int) (h0 : 0 ≤ x) (h1 : x < 64) : sumpterref02_Num.f 40 x = some [x] := by
  simp only [sumpterref02_Num.f, sumpterref01_Put.f, sumpterref01_Len.f, sumpterref01_PutIn.f]
  simp [sumpterref01_Len.l0, sumpterref01_room.f, sumpterref01_PutIn.j0, sumpterref01_PutIn.l0, sumpterref01_bits.f, wrap64, rd, h0, h1, i64_and255, shr, IntKind.bits]
  omega
theorem ref_2 (x : Int) (h0 : 64 ≤ x) (h1 : x < 16384) : sumpterref02_Num.f 40 x = some [64 + x / 256, x % 256] := by
  simp only [sumpterref02_Num.f, sumpterref01_Put.f, sumpterref01_Len.f, sumpterref01_PutIn.f]
  simp [sumpterref01_Len.l0, sumpterref01_room.f, sumpterref01_PutIn.j0, sumpterref01_PutIn.l0, sumpterref01_bits.f, wrap64, rd, h1, show (0 : Int) ≤ x by omega, show ¬ x < 64 by omega, i64_and255, shr, IntKind.bits]
  omega
theorem ref_4 (x : Int) (h0 : 16384 ≤ x) (h1 : x < 1073741824) : sumpterref02_Num.f 40 x = some [128 + x / 16777216, x / 65536 % 256, x / 256 % 256, x % 256] := by
  simp only [sumpterref02_Num.f, sumpterref01_Put.f, sumpterref01_Len.f, sumpterref01_PutIn.f]
  simp [sumpterref01_Len.l0, sumpterref01_room.f, sumpterref01_PutIn.j0, sumpterref01_PutIn.l0, sumpterref01_bits.f, wrap64, rd, h1, show (0 : Int) ≤ x by omega, show ¬ x < 64 by omega, show ¬ x < 16384 by omega, i64_and255, shr, IntKind.bits]
  omega
theorem ref_8 (x : Int) (h0 : 1073741824 ≤ x) (h1 : x < 4611686018427387904) : sumpterref02_Num.f 40 x = some [192 + x / 72057594037927936, x / 281474976710656 % 256, x / 1099511627776 % 256, x / 4294967296 % 256, x / 16777216 % 256, x / 65536 % 256, x / 256 % 256, x % 256] := by
  simp only [sumpterref02_Num.f, sumpterref01_Put.f, sumpterref01_Len.f, sumpterref01_PutIn.f]
  simp [sumpterref01_Len.l0, sumpterref01_room.f, sumpterref01_PutIn.j0, sumpterref01_PutIn.l0, sumpterref01_bits.f, wrap64, rd, show x ≤ 4611686018427387903 by omega, show (0 : Int) ≤ x by omega, show ¬ x < 64 by omega, show ¬ x < 16384 by omega, show ¬ x < 1073741824 by omega, i64_and255, shr, IntKind.bits]
  omega
theorem numR_all (x : Int) (h : 0 ≤ x ∧ x ≤ 1099511627776) : sumpterref02_Num.f 40 x = some (numL x) := by
  unfold numL
  by_cases h1 : x < 64
  · rw [if_pos h1]; exact ref_1 x h.1 h1
  · rw [if_neg h1]
    by_cases h2 : x < 16384
    · rw [if_pos h2]; exact ref_2 x (by omega) h2
    · rw [if_neg h2]
      by_cases h3 : x < 1073741824
      · rw [if_pos h3]; exact ref_4 x (by omega) h3
      · rw [if_neg h3]; exact ref_8 x (by omega) (by omega)
end Go.Proofs.YtiohgpcbdefokaaDoor.B
/- Texts and numbers: both sides lay the same bytes, at any fuel from 40 on. No condition. -/
namespace Go.Proofs.YtiohgpcbdefokaaDoor.B
open Go.RowKit Go.Proofs.YtiohgpcbdefokaaDoorW.PrintWords
theorem num_up (x : Int) (h : 0 ≤ x ∧ x ≤ 1099511627776) : ∀ n, field_Num.f (10 + n) x = some (numL x)
  | 0 => (numL_all x h).1
  | n + 1 => field_Num.mono x (10 + n) _ (num_up x h n)
theorem num_k (x : Int) (h : 0 ≤ x ∧ x ≤ 1099511627776) (k : Nat) (hk : 10 ≤ k) : field_Num.f k x = some (numL x) := by
  obtain ⟨n, rfl⟩ : ∃ n, k = 10 + n := ⟨k - 10, by omega⟩
  exact num_up x h n
theorem numR_up (x : Int) (h : 0 ≤ x ∧ x ≤ 1099511627776) : ∀ n, sumpterref02_Num.f (40 + n) x = some (numL x)
  | 0 => numR_all x h
  | n + 1 => sumpterref02_Num.mono x (40 + n) _ (numR_up x h n)
theorem numR_k (x : Int) (h : 0 ≤ x ∧ x ≤ 1099511627776) (k : Nat) (hk : 40 ≤ k) : sumpterref02_Num.f k x = some (numL x) := by
  obtain ⟨n, rfl⟩ : ∃ n, k = 40 + n := ⟨k - 40, by omega⟩
  exact numR_up x h n
theorem text_k (s : ByteArray) (hs : s.size ≤ 1000000) (k : Nat) (hk : 10 ≤ k) : field_Text.f k s = some (numL s.size ++ bytesOf s) := by
  have h := num_k (s.size : Int) ⟨by omega, by omega⟩ k hk
  have hl := (numL_all (s.size : Int) ⟨by omega, by omega⟩).2
  unfold field_Text.f
  rw [h, Option.bind_some, if_pos (by omega)]
theorem textR_k (s : ByteArray) (hs : s.size ≤ 1000000) (k : Nat) (hk : 40 ≤ k) : sumpterref02_Text.f k s = some (numL s.size ++ bytesOf s) := by
  have h := numR_k (s.size : Int) ⟨by omega, by omega⟩ k hk
  have hl := (numL_all (s.size : Int) ⟨by omega, by omega⟩).2
  unfold sumpterref02_Text.f
  rw [h, Option.bind_some, if_pos (by omega)]
end Go.Proofs.YtiohgpcbdefokaaDoor.B
/- The 32-bit sum as bits: both sides seal bytes alike. No condition. -/
namespace Go.Proofs.YtiohgpcbdefokaaDoor.CrcP
open Go Go.RowKit Go.Proofs.YtiohgpcbdefokaaDoorW.PrintWords Go.Proofs.YtiohgpcbdefokaaDoor.B

/-- The number that 32 bits hold. -/
def V (b : BitVec 32) : Int := (b.toNat : Int)
theorem V_lt (b : BitVec 32) : 0 ≤ V b ∧ V b < 4294967296 := by have := b.isLt; unfold V; omega
theorem ofInt_V (b : BitVec 32) : BitVec.ofInt 32 (V b) = b := by
  apply BitVec.eq_of_toNat_eq
  have := b.isLt
  simp [V]
theorem wrap_V (b : BitVec 32) : IntKind.u32.wrap (V b) = V b := by have := V_lt b; rw [IntKind.wrap_u32]; omega
theorem xor_eq (x y : Int) : Go.bits .xor .u32 x y = V (BitVec.ofInt 32 x ^^^ BitVec.ofInt 32 y) := wrap_V _
theorem xor_V (a b : BitVec 32) : Go.bits .xor .u32 (V a) (V b) = V (a ^^^ b) := by rw [xor_eq, ofInt_V, ofInt_V]
theorem and_V (a b : BitVec 32) : Go.bits .and .u32 (V a) (V b) = V (a &&& b) := by
  have : Go.bits .and .u32 (V a) (V b) = V (BitVec.ofInt 32 (V a) &&& BitVec.ofInt 32 (V b)) := wrap_V _
  rw [this, ofInt_V, ofInt_V]
theorem max_V : IntKind.u32.max = V (BitVec.allOnes 32) := by decide
theorem ones_xor (a : BitVec 32) : BitVec.allOnes 32 ^^^ a = ~~~a := by
  rw [BitVec.xor_comm, BitVec.xor_allOnes]
theorem inv_V (a : BitVec 32) : Go.bits .xor .u32 IntKind.u32.max (V a) = V (~~~a) := by rw [max_V, xor_V, ones_xor]
theorem inv_eq (x : Int) : Go.bits .xor .u32 IntKind.u32.max x = V (~~~(BitVec.ofInt 32 x)) := by rw [max_V, xor_eq, ofInt_V, ones_xor]
theorem div16_V (a : BitVec 32) : V a / (16 : Int) = V (a >>> 4) := by
  simp [V, BitVec.toNat_ushiftRight, Nat.shiftRight_eq_div_pow]
theorem div2_V (a : BitVec 32) : V a / (2 : Int) = V (a >>> 1) := by
  simp [V, BitVec.toNat_ushiftRight, Nat.shiftRight_eq_div_pow]

/-- One bit of the register's change. -/
def poly : BitVec 32 := 0xedb88320#32
def b1 (x : BitVec 32) : BitVec 32 := if x.getLsbD 0 then (x >>> 1) ^^^ poly else x >>> 1
def b4 (x : BitVec 32) : BitVec 32 := b1 (b1 (b1 (b1 x)))
def b8 (x : BitVec 32) : BitVec 32 := b4 (b4 x)
def stepB (c : BitVec 32) (x : Int) : BitVec 32 := b8 (c ^^^ BitVec.ofInt 32 x)

theorem b1_get (x : BitVec 32) (i : Nat) : (b1 x).getLsbD i = (x.getLsbD (1 + i) ^^ (x.getLsbD 0 && poly.getLsbD i)) := by
  unfold b1
  cases h : x.getLsbD 0
  · rw [if_neg (by decide), BitVec.getLsbD_ushiftRight]; simp
  · rw [if_pos rfl, BitVec.getLsbD_xor, BitVec.getLsbD_ushiftRight]; simp
theorem b1_xor (x y : BitVec 32) : b1 (x ^^^ y) = b1 x ^^^ b1 y := by
  apply BitVec.eq_of_getLsbD_eq
  intro i hi
  rw [BitVec.getLsbD_xor, b1_get, b1_get, b1_get, BitVec.getLsbD_xor, BitVec.getLsbD_xor]
  cases x.getLsbD 0 <;> cases y.getLsbD 0 <;> cases x.getLsbD (1 + i) <;> cases y.getLsbD (1 + i) <;> cases poly.getLsbD i <;> rfl
theorem b4_xor (x y : BitVec 32) : b4 (x ^^^ y) = b4 x ^^^ b4 y := by simp only [b4, b1_xor]

/-- The table of half bytes tells four bits of change. -/
def tab : List Int := [0, 498536548, 997073096, 651767980, 1994146192, 1802195444, 1303535960, 1342533948, 3988292384, 4027552580, 3604390888, 3412177804, 2607071920, 2262029012, 2685067896, 3183342108]
theorem tab_b4 : ∀ i : Fin 16, tab.getD i.val 0 = V (b4 (BitVec.ofNat 32 i.val)) := by decide +kernel
theorem b1_shl (x : BitVec 32) (n : Nat) (hn : 0 < n) (h4 : n ≤ 4) : b1 ((x >>> 4) <<< n) = (x >>> 4) <<< (n - 1) := by
  apply BitVec.eq_of_getLsbD_eq
  intro i hi
  have h0 : ((x >>> 4) <<< n).getLsbD 0 = false := by rw [BitVec.getLsbD_shiftLeft]; simp [hn]
  rw [b1_get, h0, BitVec.getLsbD_shiftLeft, BitVec.getLsbD_shiftLeft, BitVec.getLsbD_ushiftRight, BitVec.getLsbD_ushiftRight]
  by_cases h : i < n - 1
  · have h' : 1 + i < n := by omega
    simp [h, h']
  · have h' : ¬ 1 + i < n := by omega
    have e2 : 4 + (1 + i - n) = 4 + (i - (n - 1)) := by omega
    rw [e2]
    by_cases hq : 1 + i < 32
    · simp [h, h', hi, hq]
    · rw [x.getLsbD_of_ge (4 + (i - (n - 1))) (by omega)]; simp
theorem split16 (x : BitVec 32) : x = (x &&& 15#32) ^^^ ((x >>> 4) <<< 4) := by
  apply BitVec.eq_of_getLsbD_eq
  intro i hi
  have h15 : (15#32).getLsbD i = decide (i < 4) := by
    have : ∀ i : Fin 32, (15#32).getLsbD i.val = decide (i.val < 4) := by decide
    exact this ⟨i, hi⟩
  rw [BitVec.getLsbD_xor, BitVec.getLsbD_and, h15, BitVec.getLsbD_shiftLeft, BitVec.getLsbD_ushiftRight]
  by_cases h : i < 4
  · simp [h]
  · have e : 4 + (i - 4) = i := by omega
    rw [e]
    simp [h, hi]
theorem b4_split (x : BitVec 32) : b4 x = b4 (x &&& 15#32) ^^^ (x >>> 4) := by
  conv => lhs; rw [split16 x]
  rw [b4_xor]
  congr 1
  unfold b4
  rw [b1_shl x 4 (by decide) (by decide), b1_shl x (4 - 1) (by decide) (by decide), b1_shl x (4 - 1 - 1) (by decide) (by decide), b1_shl x (4 - 1 - 1 - 1) (by decide) (by decide)]
  apply BitVec.eq_of_getLsbD_eq
  intro i hi
  rw [BitVec.getLsbD_shiftLeft]
  simp [hi]

def half (c : Int) : Int := Go.bits .xor .u32 (tab.getD (Go.bits .and .u32 c 15).toNat 0) (c / 16)
def step (c x : Int) : Int := half (half (Go.bits .xor .u32 c (x % 4294967296)))
theorem half_V (c : BitVec 32) : half (V c) = V (b4 c) := by
  unfold half
  have e15 : (15 : Int) = V 15#32 := by decide
  rw [e15, and_V]
  rw [div16_V]
  have hlt : (c &&& 15#32).toNat < 16 := by
    rw [BitVec.toNat_and]
    exact Nat.lt_of_le_of_lt Nat.and_le_right (by decide)
  have ht : tab.getD (V (c &&& 15#32)).toNat 0 = V (b4 (c &&& 15#32)) := by
    have := tab_b4 ⟨(c &&& 15#32).toNat, hlt⟩
    simp only at this
    rw [BitVec.ofNat_toNat, BitVec.setWidth_eq] at this
    exact this
  rw [ht, xor_V, ← b4_split]
theorem ofInt_mod (x : Int) : BitVec.ofInt 32 (x % 4294967296) = BitVec.ofInt 32 x := by
  apply BitVec.eq_of_toNat_eq
  simp only [BitVec.toNat_ofInt]
  omega
theorem step_V (c : BitVec 32) (x : Int) : step (V c) x = V (stepB c x) := by
  unfold step
  rw [xor_eq, ofInt_V, ofInt_mod, half_V, half_V]
  rfl
theorem fold_V : ∀ (l : List Int) (c : BitVec 32), l.foldl step (V c) = V (l.foldl stepB c)
  | [], _ => rfl
  | x :: l, c => by rw [List.foldl_cons, List.foldl_cons, step_V]; exact fold_V l _

/-- What More tells. -/
def M (a : BitVec 32) (l : List Int) : BitVec 32 := ~~~(l.foldl stepB (~~~a))
theorem more_eq (a : Int) (l : List Int) : Go.bits .xor .u32 IntKind.u32.max (l.foldl step (Go.bits .xor .u32 IntKind.u32.max a)) = V (M (BitVec.ofInt 32 a) l) := by
  rw [inv_eq a, fold_V, inv_V]; rfl

/-! ### bytes -/
/-- The four bytes of a sum. -/
def four (c : Int) : List Int := [c % 256, c / 256 % 256, c / 65536 % 256, c / 16777216 % 256]
theorem w64 {x : Int} (h : -9223372036854775808 ≤ x ∧ x < 9223372036854775808) : wrap64 x = x := by unfold wrap64; omega

theorem more (a : Int) (l : List Int) : crc_More.f a l = some (V (M (BitVec.ofInt 32 a) l)) := congrArg some (more_eq a l)
theorem of (l : List Int) : crc_Of.f l = some (V (M 0#32 l)) := by
  unfold crc_Of.f; rw [more]; rfl
theorem bytes4 (k : Nat) (c : Int) : crc_Bytes.f (k + 5) c = some (four c) := by
  have e1 : wrap64 1 = 1 := w64 (by decide)
  have e8 : wrap64 8 = 8 := w64 (by decide)
  have e2 : wrap64 2 = 2 := w64 (by decide)
  have e3 : wrap64 3 = 3 := w64 (by decide)
  have e4 : wrap64 4 = 4 := w64 (by decide)
  have e0 : wrap64 0 = 0 := w64 (by decide)
  have e16 : wrap64 16 = 16 := w64 (by decide)
  have e24 : wrap64 24 = 24 := w64 (by decide)
  simp [crc_Bytes.f, crc_Bytes.l0, e0, e1, e2, e3, e4, e8, e16, e24, shr, four, List.replicate, IntKind.bits]
theorem odd_V (c : BitVec 32) : (Int.tmod (V c) 2 = 1) ↔ c.getLsbD 0 = true := by
  have h := V_lt c
  rw [Int.tmod_eq_emod_of_nonneg h.1, BitVec.getLsbD, Nat.testBit_zero]
  simp only [V, decide_eq_true_eq]
  omega
theorem tdiv_V (c : BitVec 32) : Int.tdiv (V c) 2 % (4294967296 : Int) = V (c >>> 1) := by
  have h := V_lt c
  rw [Int.tdiv_eq_ediv_of_nonneg h.1, div2_V]
  have := V_lt (c >>> 1)
  omega
theorem poly_V : (3988292384 : Int) = V poly := by decide
theorem bit (k : Nat) (c : BitVec 32) (l : List Int) (i : Int) (j : Int) (h0 : 0 ≤ j) (h8 : j < 8) :
    sumpterref03_run.l1 (k + 1) (V c) l i j = sumpterref03_run.l1 k (V (b1 c)) l i (j + 1) := by
  simp only [sumpterref03_run.l1]
  rw [if_pos h8, w64 (x := j + 1) (by omega), tdiv_V, poly_V, xor_V]
  unfold b1
  by_cases h : c.getLsbD 0 = true
  · rw [if_pos ((odd_V c).mpr h), if_pos h]
  · rw [if_neg (fun hh => h ((odd_V c).mp hh)), if_neg h]
theorem eight (k : Nat) (c : BitVec 32) (l : List Int) (i : Int) : sumpterref03_run.l1 (k + 9) (V c) l i 0 = sumpterref03_run.l0 k (V (b8 c)) l (wrap64 (i + 1)) := by
  rw [bit (k + 8) c l i 0 (by decide) (by decide), bit (k + 7) _ l i _ (by decide) (by decide), bit (k + 6) _ l i _ (by decide) (by decide), bit (k + 5) _ l i _ (by decide) (by decide),
    bit (k + 4) _ l i _ (by decide) (by decide), bit (k + 3) _ l i _ (by decide) (by decide), bit (k + 2) _ l i _ (by decide) (by decide), bit (k + 1) _ l i _ (by decide) (by decide)]
  simp only [sumpterref03_run.l1]
  rw [if_neg (by decide)]
  rfl
theorem run_at (k : Nat) (l : List Int) (hl : l.length ≤ 4000) : ∀ (m i : Nat) (c : BitVec 32), m + i = l.length → sumpterref03_run.l0 (10 * m + 1 + k) (V c) l i = some (V ((l.drop i).foldl stepB c))
  | 0, i, c, h => by
    rw [show 10 * 0 + 1 + k = k + 1 by omega]
    simp only [sumpterref03_run.l0]
    rw [if_neg (by omega), List.drop_of_length_le (by omega)]
    rfl
  | m + 1, i, c, h => by
    have hi : i < l.length := by omega
    rw [show 10 * (m + 1) + 1 + k = (10 * m + 1 + k + 9) + 1 by omega]
    simp only [sumpterref03_run.l0]
    rw [if_pos (by omega), if_pos (by omega), xor_eq, ofInt_V, ofInt_mod, eight, w64 (x := (i : Int) + 1) (by omega)]
    have ih := run_at k l hl m (i + 1) (b8 (c ^^^ BitVec.ofInt 32 (rd l i))) (by omega)
    rw [show (((i + 1 : Nat)) : Int) = (i : Int) + 1 from rfl] at ih
    rw [ih, List.drop_eq_getElem_cons hi, List.foldl_cons]
    have : rd l (i : Int) = l[i] := by simp [rd, List.getD, hi]
    rw [this]
    rfl
theorem run (K : Nat) (c : BitVec 32) (l : List Int) (hl : l.length ≤ 4000) (hK : 10 * l.length + 1 ≤ K) : sumpterref03_run.f K (V c) l = some (V (l.foldl stepB c)) := by
  unfold sumpterref03_run.f
  have := run_at (K - (10 * l.length + 1)) l hl l.length 0 c (by omega)
  rw [show 10 * l.length + 1 + (K - (10 * l.length + 1)) = K by omega] at this
  exact this
theorem ref_of (K : Nat) (l : List Int) (hl : l.length ≤ 4000) (hK : 10 * l.length + 1 ≤ K) : sumpterref03_Of.f K l = some (V (M 0#32 l)) := by
  unfold sumpterref03_Of.f
  rw [show (4294967295 : Int) = V (~~~0#32) by decide, run K _ l hl hK, Option.bind_some, inv_V]
  rfl
theorem ref_bytes (c : Int) : sumpterref03_Bytes.f c = some (four c) := rfl

/-- Bytes with their sum behind them. -/
def sealL (l : List Int) : List Int := l ++ four (V (M 0#32 l))
theorem sealL_len (l : List Int) : (sealL l).length = l.length + 4 := by simp [sealL, four]
theorem sealed (k : Nat) (l : List Int) (h : l.length ≤ 4000) (hk : 5 ≤ k) : crc_Seal.f k l = some (sealL l) := by
  obtain ⟨k, rfl⟩ : ∃ n, k = n + 5 := ⟨k - 5, by omega⟩
  unfold crc_Seal.f bytes_Clone.f sealL
  rw [if_pos (by omega), Option.bind_some, of, Option.bind_some, bytes4, Option.bind_some, if_pos (by simp [four]; omega)]
theorem ref_sealed (K : Nat) (l : List Int) (h : l.length ≤ 4000) (hK : 10 * l.length + 1 ≤ K) : sumpterref03_Seal.f K l = some (sealL l) := by
  unfold sumpterref03_Seal.f sealL
  rw [Option.bind_some, if_pos (by simp; omega), Option.bind_some, ref_of K l h hK, Option.bind_some, ref_bytes, Option.bind_some, if_pos (by simp [four]; omega)]
  rfl
end Go.Proofs.YtiohgpcbdefokaaDoor.CrcP
/- A record's bytes in plain words; record.Put lays them, for every record with a path of up to 300 bytes. -/
namespace Go.Proofs.YtiohgpcbdefokaaDoor.B
open Go.RowKit Go.Proofs.YtiohgpcbdefokaaDoorW.PrintWords Go.Proofs.YtiohgpcbdefokaaDoor.RowLaws
theorem pathE_size {p : ByteArray} (h : pathE p = 0) : p.size ≤ 128 := by
  by_cases hs : (p.size : Int) > 128
  · exfalso
    unfold pathE path_Check.f at h
    rw [if_pos hs] at h
    revert h
    decide
  · omega
structure ChkF (r : Rc) : Prop where
  kind : r.kind ≤ 4
  id : 0 ≤ r.id ∧ r.id ≤ 1099511627776
  beg : r.kind = 0 → r.path.size ≤ 128 ∧ (0 ≤ r.size ∧ r.size ≤ 65536)
  off : 0 ≤ r.off ∧ r.off ≤ 65536
  bare : ¬ r.kind = 0 → r = bareRc r
  zero : ¬ r.kind = 1 → r.off = 0
theorem sizeB_of {n : Int} (h : sizeB n = true) : 0 ≤ n ∧ n ≤ 65536 := of_decide_eq_true h
theorem offE_of {r : Rc} (h : offE r = 0) : (0 ≤ r.off ∧ r.off ≤ 65536) ∧ (¬ r.kind = 1 → r.off = 0) := by
  unfold offE at h
  by_cases h1 : sizeB r.off = true
  · rw [if_pos h1] at h
    by_cases h2 : r.off = 0 ∨ r.kind = 1
    · exact ⟨sizeB_of h1, fun hk => h2.elim (fun h => h) (fun h => absurd h hk)⟩
    · rw [if_neg h2] at h; cases h
  · rw [if_neg h1] at h; cases h
theorem beginE_of {r : Rc} (h : beginE r = 0) : pathE r.path = 0 ∧ resv r.path = false ∧ sizeB r.size = true := by
  unfold beginE at h
  by_cases h1 : pathE r.path = 0
  · rw [if_pos h1] at h
    by_cases h2 : resv r.path = true
    · rw [if_pos h2] at h; cases h
    · rw [if_neg h2] at h
      by_cases h3 : sizeB r.size = true
      · exact ⟨h1, by simpa using h2, h3⟩
      · rw [if_neg h3] at h; cases h
  · rw [if_neg h1] at h; exact absurd h h1
theorem chk_facts {r : Rc} (h : chkE r = 0) : ChkF r := by
  unfold chkE at h
  by_cases h1 : 4 < r.kind ∨ r.id < 0 ∨ 1099511627776 < r.id
  · rw [if_pos h1] at h; cases h
  rw [if_neg h1] at h
  have hk : r.kind ≤ 4 := by omega
  have hi : 0 ≤ r.id ∧ r.id ≤ 1099511627776 := by omega
  by_cases h2 : r.kind = 0
  · rw [if_pos h2] at h
    by_cases h3 : beginE r = 0
    · rw [if_pos h3] at h
      obtain ⟨b1, _, b3⟩ := beginE_of h3
      obtain ⟨o1, o2⟩ := offE_of h
      exact ⟨hk, hi, fun _ => ⟨pathE_size b1, sizeB_of b3⟩, o1, fun hn => absurd h2 hn, o2⟩
    · rw [if_neg h3] at h; exact absurd h h3
  · rw [if_neg h2] at h
    by_cases h3 : r = bareRc r
    · rw [if_pos h3] at h
      obtain ⟨o1, o2⟩ := offE_of h
      exact ⟨hk, hi, fun h0 => absurd h0 h2, o1, fun _ => h3, o2⟩
    · rw [if_neg h3] at h; cases h
/-- What stands behind a record's kind and number. -/
def tailL (r : Rc) : List Int := if r.kind = 0 then (numL r.path.size ++ bytesOf r.path) ++ (hsN r.sum ++ numL r.size) else if r.kind = 1 then numL r.off else []
def bodyL (r : Rc) : List Int := ([r.kind] ++ numL r.id) ++ tailL r
def textL (s : List Int) : List Int := numL ((strOfNums s).size : Int) ++ bytesOf (strOfNums s)
/-- A record's bytes. -/
def putL (r : Rc) : List Int := textL (CrcP.sealL (bodyL r))
def putV (r : Rc) : List Int := if chkE r = 0 then putL r else []
theorem numL_len (x : Int) : (numL x).length ≤ 8 := by
  unfold numL
  split
  · simp
  · split
    · simp
    · split <;> simp
theorem bytesOf_len (s : ByteArray) : (bytesOf s).length = s.size := by
  first | exact Go.Lib.bytesOf_length s | simp [bytesOf]
theorem tailL_len {r : Rc} (h : ChkF r) : (tailL r).length ≤ 200 := by
  unfold tailL
  split
  · rename_i hk
    have h1 := (h.beg hk).1
    have h2 := numL_len (r.path.size : Int)
    have h3 := numL_len r.size
    simp only [List.length_append, hsN_len, bytesOf_len]; omega
  · split
    · have := numL_len r.off; omega
    · simp
theorem bodyL_len {r : Rc} (h : ChkF r) : (bodyL r).length ≤ 220 := by
  have h1 := tailL_len h
  have h2 := numL_len r.id
  unfold bodyL
  simp only [List.length_append, List.length_singleton]; omega
theorem strOfNums_size (l : List Int) : (strOfNums l).size = l.length := by
  first | exact Go.Lib.strOfNums_size l | simp [strOfNums, ByteArray.size]
theorem seal_size {r : Rc} (h : ChkF r) : (strOfNums (CrcP.sealL (bodyL r))).size ≤ 230 := by
  rw [strOfNums_size, CrcP.sealL_len]
  have := bodyL_len h
  omega
set_option linter.unusedVariables false in
theorem Put_calls (r : Rc) (w : World) (hT : TabOK w) :
    Calls Tryd.prog 23 #[.agg (rcL r).toArray] w fun e w' => ∃ v : Value, e = .returned (.tuple #[v, .int .i64 (chkE r)]) ∧ Kd.R (Kd.int .u8) 5 w' w.heap.size (fun _ => True) v (putV r) ∧ Below w.heap.size w w' := by
  by_cases hc : chkE r = 0
  · have hf := chk_facts hc
    have hv : putV r = textL (CrcP.sealL (bodyL r)) := by unfold putV putL; rw [if_pos hc]
    rw [hv, hc]
    have hb := bodyL_len hf
    have hs := CrcP.sealed 40 (bodyL r) (by omega) (by decide)
    have ht := text_k (strOfNums (CrcP.sealL (bodyL r))) (by have := seal_size hf; omega) 40 (by decide)
    have hn := num_k r.id hf.id 40 (by decide)
    have hl := numL_len r.id
    by_cases h0 : r.kind = 0
    · have hz := num_k r.size ⟨(hf.beg h0).2.1, by have := (hf.beg h0).2.2; omega⟩ 40 (by decide)
      have hx := text_k r.path (by have := (hf.beg h0).1; omega) 40 (by decide)
      have hl2 := numL_len r.size
      have hl3 := numL_len (r.path.size : Int)
      have e : bodyL r = ([0] ++ numL r.id) ++ ((numL r.path.size ++ bytesOf r.path) ++ (hsN r.sum ++ numL r.size)) := by unfold bodyL tailL; rw [if_pos h0, h0]
      rw [e] at hs ht ⊢
      exact PutBegin_calls 40 r _ _ _ _ _ w hT h0 hc hn hx hz ⟨by omega, by have := (hf.beg h0).1; simp only [List.length_append, bytesOf_len]; omega, by omega⟩ hs ht
    · by_cases h1 : r.kind = 1
      · have ho := num_k r.off ⟨hf.off.1, by have := hf.off.2; omega⟩ 40 (by decide)
        have hl2 := numL_len r.off
        have e : bodyL r = ([1] ++ numL r.id) ++ numL r.off := by unfold bodyL tailL; rw [if_neg h0, if_pos h1, h1]
        rw [e] at hs ht ⊢
        exact PutMark_calls 40 r _ _ _ _ w hT h1 hc hn ho (by omega) hs ht
      · have e : bodyL r = [r.kind] ++ numL r.id := by unfold bodyL tailL; rw [if_neg h0, if_neg h1, List.append_nil]
        rw [e] at hs ht ⊢
        exact PutBare_calls 40 r _ _ _ w hT h0 h1 hc hn (by omega) hs ht
  · have hv : putV r = [] := by unfold putV; rw [if_neg hc]
    rw [hv]
    refine (PutNot_calls r w hT hc).mono ?_
    rintro e w2 ⟨rfl, hb⟩
    exact ⟨_, rfl, Kd.R_nil _ _ _ _ _, hb⟩
end Go.Proofs.YtiohgpcbdefokaaDoor.B
/- sumpterref15.Check at kinds other than Begin. No condition. -/
namespace Go.Proofs.YtiohgpcbdefokaaDoor.B
open Go.RowKit Go.Proofs.YtiohgpcbdefokaaDoorW.PrintWords Go.Proofs.YtiohgpcbdefokaaDoor.RowLaws
attribute [local go_sem ↓ high] lvO_hs ldO_hs stO_hs lvO_pt ldO_pt stO_pt zero_pt eqA_pt lvO_ptR ldO_ptR stO_ptR zero_ptR eqA_ptR lvO_rc ldO_rc stO_rc zero_rc eqA_rc lvO_rcR ldO_rcR stO_rcR zero_rcR eqA_rcR lvO_tk ldO_tk stO_tk zero_tk eqA_tk lvO_tkR ldO_tkR stO_tkR zero_tkR eqA_tkR lvO_it ldO_it stO_it zero_it eqA_it blO_pt blO_ptR blO_rc blO_rcR blO_tk blO_tkR blO_it bsO_pt bsO_ptR bsO_rc bsO_rcR bsO_it
attribute [local go_sem high] rowAt_setCell rowAt_setRow cell_setRow_ne isRow_setRow_ne rowAt_alloc rowAt_drew isRow_alloc isRow_drew isRow_setCell rowRun_some okL_hs ldV_hs ldA_hs stA_hs setRow_alloc get_pt_id get_pt_path cut_pt_sum get_pt_size get_pt_off cut_pt okL_pt size_pt lenb_pt eta_pt ldV_pt ldA_pt stA_pt ldV_ptR ldA_ptR stA_ptR get_rc_kind get_rc_id get_rc_path cut_rc_sum get_rc_size get_rc_off cut_rc okL_rc size_rc lenb_rc eta_rc ldV_rc ldA_rc stA_rc ldV_rcR ldA_rcR stA_rcR get_tk_path cut_tk_sum get_tk_size get_tk_off cut_tk_old cut_tk okL_tk size_tk lenb_tk eta_tk ldV_tk ldA_tk stA_tk ldV_tkR ldA_tkR stA_tkR get_it_path get_it_dir get_it_size cut_it_sum cut_it okL_it size_it lenb_it eta_it ldV_it ldA_it stA_it bld_pt_01234 bld_pt_0123 bld_pt_z bld_ptR_01234 bld_ptR_0123 bld_ptR_z bld_rc_012345 bld_rc_015 bld_rc_01 bld_rc_z bld_rc_01234 bld_rc_24 bld_rc_05 bld_rc_0 bld_rcR_012345 bld_rcR_015 bld_rcR_01 bld_rcR_z bld_rcR_01234 bld_rcR_24 bld_rcR_05 bld_rcR_0 bld_tk_01234 bld_tk_0 bld_tk_z bld_tkR_01234 bld_tkR_0 bld_tkR_z bld_it_0123 bld_it_023 bld_it_01 bld_it_0 bld_it_z bs0_pt bs1_pt bs0_ptR bs1_ptR bs0_rc bs1_rc bs0_rcR bs1_rcR bs0_it bs1_it
set_option linter.unusedVariables false in
set_option maxHeartbeats 16000000 in
set_option maxRecDepth 100000 in
theorem CheckR_path (r : Rc) (w : World) (h0 : ¬ 4 < r.kind) (h1 : ¬ r.id < 0) (h2 : ¬ 1099511627776 < r.id) (hk : ¬ r.kind = 0) (hp : ¬ r.path = ByteArray.empty) :
    Calls Tryd.prog 73 #[.agg (rcL r).toArray] w fun e w' => e = .returned (.int .i64 (chkE r)) ∧ Below w.heap.size w w' := by
  have d0 : decide (4 < r.kind) = false := decide_eq_false h0
  have d1 : decide (r.id < 0) = false := decide_eq_false h1
  have d2 : decide (1099511627776 < r.id) = false := decide_eq_false h2
  have d3 : decide (r.kind = 0) = false := decide_eq_false hk
  have d3b : (r.kind == 0) = false := by simp [hk]
  have HE := Aside0.mk (show chkE r = 4 by unfold chkE; rw [if_neg (fun h => h.elim h0 (fun h => h.elim h1 h2)), if_neg hk, if_neg (fun e => hp (by rw [e]; rfl))])
  have d4 : (r.path.toList == ([] : List UInt8)) = false := by
    rw [show ([] : List UInt8) = ByteArray.empty.toList by decide +kernel, str_eq]; exact decide_eq_false hp
  clear h0 h1 h2 hk hp
  go_enter Tryd.func73, Tryd.ntmps73
  go_wp2
  go_ret
  exact ⟨by rw [HE.out]; rfl, below_alloc (Below.refl _ _) _⟩
theorem eqZ_hs (d : Nat) (a : Hs) (w : World) : (Op.equalIn (d + 2) 24 (.agg (hsL a).toArray) (.agg #[.int .u8 0, .int .u8 0, .int .u8 0, .int .u8 0, .int .u8 0, .int .u8 0, .int .u8 0, .int .u8 0, .int .u8 0, .int .u8 0, .int .u8 0, .int .u8 0, .int .u8 0, .int .u8 0, .int .u8 0, .int .u8 0, .int .u8 0, .int .u8 0, .int .u8 0, .int .u8 0, .int .u8 0, .int .u8 0, .int .u8 0, .int .u8 0, .int .u8 0, .int .u8 0, .int .u8 0, .int .u8 0, .int .u8 0, .int .u8 0, .int .u8 0, .int .u8 0])).run Tryd.prog w = .ok (decide (a = Hs.zero)) w := eqA_hs d a Hs.zero w
attribute [local go_sem ↓ high] eqZ_hs
set_option linter.unusedVariables false in
set_option maxHeartbeats 16000000 in
set_option maxRecDepth 100000 in
theorem CheckR_sum (r : Rc) (w : World) (h0 : ¬ 4 < r.kind) (h1 : ¬ r.id < 0) (h2 : ¬ 1099511627776 < r.id) (hk : ¬ r.kind = 0) (hp : r.path = ByteArray.empty) (hu : ¬ r.sum = Hs.zero) :
    Calls Tryd.prog 73 #[.agg (rcL r).toArray] w fun e w' => e = .returned (.int .i64 (chkE r)) ∧ Below w.heap.size w w' := by
  have d0 : decide (4 < r.kind) = false := decide_eq_false h0
  have d1 : decide (r.id < 0) = false := decide_eq_false h1
  have d2 : decide (1099511627776 < r.id) = false := decide_eq_false h2
  have d3 : decide (r.kind = 0) = false := decide_eq_false hk
  have d3b : (r.kind == 0) = false := by simp [hk]
  have HE := Aside0.mk (show chkE r = 4 by unfold chkE; rw [if_neg (fun h => h.elim h0 (fun h => h.elim h1 h2)), if_neg hk, if_neg (fun e => hu (by rw [e]; rfl))])
  have d4 : (r.path.toList == ([] : List UInt8)) = true := by
    rw [show ([] : List UInt8) = ByteArray.empty.toList by decide +kernel, str_eq]; exact decide_eq_true hp
  have d5 : decide (r.sum = Hs.zero) = false := decide_eq_false hu
  clear h0 h1 h2 hk hp hu
  go_enter Tryd.func73, Tryd.ntmps73
  go_wp2
  go_ret
  exact ⟨by rw [HE.out]; rfl, by (repeat' (first | (with_reducible refine Below.alloc ?_ ?_ _) | (with_reducible refine below_drew ?_) | (with_reducible refine pw_below_drewN ?_ _) | (with_reducible exact Below.refl _ _) | (exact below_alloc (Below.refl _ _) _) | omega | (simp; done) | (simp; omega)))⟩
set_option linter.unusedVariables false in
set_option maxHeartbeats 16000000 in
set_option maxRecDepth 100000 in
theorem CheckR_size (r : Rc) (w : World) (h0 : ¬ 4 < r.kind) (h1 : ¬ r.id < 0) (h2 : ¬ 1099511627776 < r.id) (hk : ¬ r.kind = 0) (hp : r.path = ByteArray.empty) (hu : r.sum = Hs.zero) (hs : ¬ r.size = 0) :
    Calls Tryd.prog 73 #[.agg (rcL r).toArray] w fun e w' => e = .returned (.int .i64 (chkE r)) ∧ Below w.heap.size w w' := by
  have d0 : decide (4 < r.kind) = false := decide_eq_false h0
  have d1 : decide (r.id < 0) = false := decide_eq_false h1
  have d2 : decide (1099511627776 < r.id) = false := decide_eq_false h2
  have d3 : decide (r.kind = 0) = false := decide_eq_false hk
  have d3b : (r.kind == 0) = false := by simp [hk]
  have HE := Aside0.mk (show chkE r = 4 by unfold chkE; rw [if_neg (fun h => h.elim h0 (fun h => h.elim h1 h2)), if_neg hk, if_neg (fun e => hs (by rw [e]; rfl))])
  have d4 : (r.path.toList == ([] : List UInt8)) = true := by
    rw [show ([] : List UInt8) = ByteArray.empty.toList by decide +kernel, str_eq]; exact decide_eq_true hp
  have d5 : decide (r.sum = Hs.zero) = true := decide_eq_true hu
  have d6 : decide (r.size = 0) = false := decide_eq_false hs
  have d6b : (r.size != 0) = true := bne_iff_ne.2 hs
  clear h0 h1 h2 hk hp hu hs
  go_enter Tryd.func73, Tryd.ntmps73
  go_wp2
  go_ret
  exact ⟨by rw [HE.out]; rfl, by (repeat' (first | (with_reducible refine Below.alloc ?_ ?_ _) | (with_reducible refine below_drew ?_) | (with_reducible refine pw_below_drewN ?_ _) | (with_reducible exact Below.refl _ _) | (exact below_alloc (Below.refl _ _) _) | omega | (simp; done) | (simp; omega)))⟩
end Go.Proofs.YtiohgpcbdefokaaDoor.B
/- sumpterref15.Check at kinds other than Begin: the offset. No condition. -/
namespace Go.Proofs.YtiohgpcbdefokaaDoor.B
open Go.RowKit Go.Proofs.YtiohgpcbdefokaaDoorW.PrintWords Go.Proofs.YtiohgpcbdefokaaDoor.RowLaws
attribute [local go_sem ↓ high] lvO_hs ldO_hs stO_hs lvO_pt ldO_pt stO_pt zero_pt eqA_pt lvO_ptR ldO_ptR stO_ptR zero_ptR eqA_ptR lvO_rc ldO_rc stO_rc zero_rc eqA_rc lvO_rcR ldO_rcR stO_rcR zero_rcR eqA_rcR lvO_tk ldO_tk stO_tk zero_tk eqA_tk lvO_tkR ldO_tkR stO_tkR zero_tkR eqA_tkR lvO_it ldO_it stO_it zero_it eqA_it blO_pt blO_ptR blO_rc blO_rcR blO_tk blO_tkR blO_it bsO_pt bsO_ptR bsO_rc bsO_rcR bsO_it
attribute [local go_sem high] rowAt_setCell rowAt_setRow cell_setRow_ne isRow_setRow_ne rowAt_alloc rowAt_drew isRow_alloc isRow_drew isRow_setCell rowRun_some okL_hs ldV_hs ldA_hs stA_hs setRow_alloc get_pt_id get_pt_path cut_pt_sum get_pt_size get_pt_off cut_pt okL_pt size_pt lenb_pt eta_pt ldV_pt ldA_pt stA_pt ldV_ptR ldA_ptR stA_ptR get_rc_kind get_rc_id get_rc_path cut_rc_sum get_rc_size get_rc_off cut_rc okL_rc size_rc lenb_rc eta_rc ldV_rc ldA_rc stA_rc ldV_rcR ldA_rcR stA_rcR get_tk_path cut_tk_sum get_tk_size get_tk_off cut_tk_old cut_tk okL_tk size_tk lenb_tk eta_tk ldV_tk ldA_tk stA_tk ldV_tkR ldA_tkR stA_tkR get_it_path get_it_dir get_it_size cut_it_sum cut_it okL_it size_it lenb_it eta_it ldV_it ldA_it stA_it bld_pt_01234 bld_pt_0123 bld_pt_z bld_ptR_01234 bld_ptR_0123 bld_ptR_z bld_rc_012345 bld_rc_015 bld_rc_01 bld_rc_z bld_rc_01234 bld_rc_24 bld_rc_05 bld_rc_0 bld_rcR_012345 bld_rcR_015 bld_rcR_01 bld_rcR_z bld_rcR_01234 bld_rcR_24 bld_rcR_05 bld_rcR_0 bld_tk_01234 bld_tk_0 bld_tk_z bld_tkR_01234 bld_tkR_0 bld_tkR_z bld_it_0123 bld_it_023 bld_it_01 bld_it_0 bld_it_z bs0_pt bs1_pt bs0_ptR bs1_ptR bs0_rc bs1_rc bs0_rcR bs1_rcR bs0_it bs1_it
attribute [local go_sem ↓ high] eqZ_hs
theorem sizeR_eq (n : Int) : sumpterref15_size.f n = some (sizeB n) := by
  unfold sumpterref15_size.f sizeB
  by_cases h : n ≥ 0
  · rw [if_pos h]; congr 1; simp; omega
  · rw [if_neg h]; congr 1; symm; exact decide_eq_false (by omega)
set_option linter.unusedVariables false in
set_option maxHeartbeats 16000000 in
set_option maxRecDepth 100000 in
theorem CheckR_o1 (r : Rc) (w : World) (h0 : ¬ 4 < r.kind) (h1 : ¬ r.id < 0) (h2 : ¬ 1099511627776 < r.id) (hk : ¬ r.kind = 0) (hb : r = bareRc r) (ho : sizeB r.off = false) :
    Calls Tryd.prog 73 #[.agg (rcL r).toArray] w fun e w' => e = .returned (.int .i64 (chkE r)) ∧ Below w.heap.size w w' := by
  have d0 : decide (4 < r.kind) = false := decide_eq_false h0
  have d1 : decide (r.id < 0) = false := decide_eq_false h1
  have d2 : decide (1099511627776 < r.id) = false := decide_eq_false h2
  have d3 : decide (r.kind = 0) = false := decide_eq_false hk
  have d3b : (r.kind == 0) = false := by simp [hk]
  have hp : r.path = ByteArray.empty := by rw [hb]; rfl
  have hu : r.sum = Hs.zero := by rw [hb]; rfl
  have hs : r.size = 0 := by rw [hb]; rfl
  have HE := Aside0.mk (show chkE r = 13 by unfold chkE; rw [if_neg (fun h => h.elim h0 (fun h => h.elim h1 h2)), if_neg hk, if_pos hb]; unfold offE; rw [if_neg (by rw [ho]; decide)])
  have d4 : (r.path.toList == ([] : List UInt8)) = true := by
    rw [show ([] : List UInt8) = ByteArray.empty.toList by decide +kernel, str_eq]; exact decide_eq_true hp
  have d5 : decide (r.sum = Hs.zero) = true := decide_eq_true hu
  have d6 : decide (r.size = 0) = true := decide_eq_true hs
  have d6b : (r.size != 0) = false := by simp [hs]
  have hso := sizeR_eq r.off
  rw [ho] at hso
  have HSO := Aside0.mk hso

  clear h0 h1 h2 hk hp hu hs hb ho hso 
  go_enter Tryd.func73, Tryd.ntmps73
  go_wp2_with (go_at_call 120; refine (sumpterref15_size.calls r.off false _ HSO.out).mono ?_; rintro e w5 ⟨rfl, ⟨n5, rfl⟩⟩)
  go_ret
  exact ⟨by rw [HE.out]; rfl, by (repeat' (first | (with_reducible refine Below.alloc ?_ ?_ _) | (with_reducible refine below_drew ?_) | (with_reducible refine pw_below_drewN ?_ _) | (with_reducible exact Below.refl _ _) | (exact below_alloc (Below.refl _ _) _) | omega | (simp; done) | (simp; omega)))⟩
set_option linter.unusedVariables false in
set_option maxHeartbeats 16000000 in
set_option maxRecDepth 100000 in
theorem CheckR_o2 (r : Rc) (w : World) (h0 : ¬ 4 < r.kind) (h1 : ¬ r.id < 0) (h2 : ¬ 1099511627776 < r.id) (hk : ¬ r.kind = 0) (hb : r = bareRc r) (ho : sizeB r.off = true) (hz : r.off = 0) :
    Calls Tryd.prog 73 #[.agg (rcL r).toArray] w fun e w' => e = .returned (.int .i64 (chkE r)) ∧ Below w.heap.size w w' := by
  have d0 : decide (4 < r.kind) = false := decide_eq_false h0
  have d1 : decide (r.id < 0) = false := decide_eq_false h1
  have d2 : decide (1099511627776 < r.id) = false := decide_eq_false h2
  have d3 : decide (r.kind = 0) = false := decide_eq_false hk
  have d3b : (r.kind == 0) = false := by simp [hk]
  have hp : r.path = ByteArray.empty := by rw [hb]; rfl
  have hu : r.sum = Hs.zero := by rw [hb]; rfl
  have hs : r.size = 0 := by rw [hb]; rfl
  have HE := Aside0.mk (show chkE r = 0 by unfold chkE; rw [if_neg (fun h => h.elim h0 (fun h => h.elim h1 h2)), if_neg hk, if_pos hb]; unfold offE; rw [if_pos ho, if_pos (.inl hz)])
  have d4 : (r.path.toList == ([] : List UInt8)) = true := by
    rw [show ([] : List UInt8) = ByteArray.empty.toList by decide +kernel, str_eq]; exact decide_eq_true hp
  have d5 : decide (r.sum = Hs.zero) = true := decide_eq_true hu
  have d6 : decide (r.size = 0) = true := decide_eq_true hs
  have d6b : (r.size != 0) = false := by simp [hs]
  have hso := sizeR_eq r.off
  rw [ho] at hso
  have HSO := Aside0.mk hso
  have e0 : decide (r.off = 0) = true := decide_eq_true hz
  have e0b : (r.off != 0) = false := by simp [hz]
  clear h0 h1 h2 hk hp hu hs hb ho hso hz
  go_enter Tryd.func73, Tryd.ntmps73
  go_wp2_with (go_at_call 120; refine (sumpterref15_size.calls r.off true _ HSO.out).mono ?_; rintro e w5 ⟨rfl, ⟨n5, rfl⟩⟩)
  go_ret
  exact ⟨by rw [HE.out]; rfl, by (repeat' (first | (with_reducible refine Below.alloc ?_ ?_ _) | (with_reducible refine below_drew ?_) | (with_reducible refine pw_below_drewN ?_ _) | (with_reducible exact Below.refl _ _) | (exact below_alloc (Below.refl _ _) _) | omega | (simp; done) | (simp; omega)))⟩
set_option linter.unusedVariables false in
set_option maxHeartbeats 16000000 in
set_option maxRecDepth 100000 in
theorem CheckR_o3 (r : Rc) (w : World) (h0 : ¬ 4 < r.kind) (h1 : ¬ r.id < 0) (h2 : ¬ 1099511627776 < r.id) (hk : ¬ r.kind = 0) (hb : r = bareRc r) (ho : sizeB r.off = true) (hz : ¬ r.off = 0) (h7 : r.kind = 1) :
    Calls Tryd.prog 73 #[.agg (rcL r).toArray] w fun e w' => e = .returned (.int .i64 (chkE r)) ∧ Below w.heap.size w w' := by
  have d0 : decide (4 < r.kind) = false := decide_eq_false h0
  have d1 : decide (r.id < 0) = false := decide_eq_false h1
  have d2 : decide (1099511627776 < r.id) = false := decide_eq_false h2
  have d3 : decide (r.kind = 0) = false := decide_eq_false hk
  have d3b : (r.kind == 0) = false := by simp [hk]
  have hp : r.path = ByteArray.empty := by rw [hb]; rfl
  have hu : r.sum = Hs.zero := by rw [hb]; rfl
  have hs : r.size = 0 := by rw [hb]; rfl
  have HE := Aside0.mk (show chkE r = 0 by unfold chkE; rw [if_neg (fun h => h.elim h0 (fun h => h.elim h1 h2)), if_neg hk, if_pos hb]; unfold offE; rw [if_pos ho, if_pos (.inr h7)])
  have d4 : (r.path.toList == ([] : List UInt8)) = true := by
    rw [show ([] : List UInt8) = ByteArray.empty.toList by decide +kernel, str_eq]; exact decide_eq_true hp
  have d5 : decide (r.sum = Hs.zero) = true := decide_eq_true hu
  have d6 : decide (r.size = 0) = true := decide_eq_true hs
  have d6b : (r.size != 0) = false := by simp [hs]
  have hso := sizeR_eq r.off
  rw [ho] at hso
  have HSO := Aside0.mk hso
  have e0 : decide (r.off = 0) = false := decide_eq_false hz
  have e0b : (r.off != 0) = true := bne_iff_ne.2 hz
  have e1 : decide (r.kind = 1) = true := decide_eq_true h7
  have e1b : (r.kind != 1) = false := by simp [h7]
  clear h0 h1 h2 hk hp hu hs hb ho hso hz h7
  go_enter Tryd.func73, Tryd.ntmps73
  go_wp2_with (go_at_call 120; refine (sumpterref15_size.calls r.off true _ HSO.out).mono ?_; rintro e w5 ⟨rfl, ⟨n5, rfl⟩⟩)
  go_ret
  exact ⟨by rw [HE.out]; rfl, by (repeat' (first | (with_reducible refine Below.alloc ?_ ?_ _) | (with_reducible refine below_drew ?_) | (with_reducible refine pw_below_drewN ?_ _) | (with_reducible exact Below.refl _ _) | (exact below_alloc (Below.refl _ _) _) | omega | (simp; done) | (simp; omega)))⟩
set_option linter.unusedVariables false in
set_option maxHeartbeats 16000000 in
set_option maxRecDepth 100000 in
theorem CheckR_o4 (r : Rc) (w : World) (h0 : ¬ 4 < r.kind) (h1 : ¬ r.id < 0) (h2 : ¬ 1099511627776 < r.id) (hk : ¬ r.kind = 0) (hb : r = bareRc r) (ho : sizeB r.off = true) (hz : ¬ r.off = 0) (h7 : ¬ r.kind = 1) :
    Calls Tryd.prog 73 #[.agg (rcL r).toArray] w fun e w' => e = .returned (.int .i64 (chkE r)) ∧ Below w.heap.size w w' := by
  have d0 : decide (4 < r.kind) = false := decide_eq_false h0
  have d1 : decide (r.id < 0) = false := decide_eq_false h1
  have d2 : decide (1099511627776 < r.id) = false := decide_eq_false h2
  have d3 : decide (r.kind = 0) = false := decide_eq_false hk
  have d3b : (r.kind == 0) = false := by simp [hk]
  have hp : r.path = ByteArray.empty := by rw [hb]; rfl
  have hu : r.sum = Hs.zero := by rw [hb]; rfl
  have hs : r.size = 0 := by rw [hb]; rfl
  have HE := Aside0.mk (show chkE r = 4 by unfold chkE; rw [if_neg (fun h => h.elim h0 (fun h => h.elim h1 h2)), if_neg hk, if_pos hb]; unfold offE; rw [if_pos ho, if_neg (fun h => h.elim hz h7)])
  have d4 : (r.path.toList == ([] : List UInt8)) = true := by
    rw [show ([] : List UInt8) = ByteArray.empty.toList by decide +kernel, str_eq]; exact decide_eq_true hp
  have d5 : decide (r.sum = Hs.zero) = true := decide_eq_true hu
  have d6 : decide (r.size = 0) = true := decide_eq_true hs
  have d6b : (r.size != 0) = false := by simp [hs]
  have hso := sizeR_eq r.off
  rw [ho] at hso
  have HSO := Aside0.mk hso
  have e0 : decide (r.off = 0) = false := decide_eq_false hz
  have e0b : (r.off != 0) = true := bne_iff_ne.2 hz
  have e1 : decide (r.kind = 1) = false := decide_eq_false h7
  have e1b : (r.kind != 1) = true := bne_iff_ne.2 h7
  clear h0 h1 h2 hk hp hu hs hb ho hso hz h7
  go_enter Tryd.func73, Tryd.ntmps73
  go_wp2_with (go_at_call 120; refine (sumpterref15_size.calls r.off true _ HSO.out).mono ?_; rintro e w5 ⟨rfl, ⟨n5, rfl⟩⟩)
  go_ret
  exact ⟨by rw [HE.out]; rfl, by (repeat' (first | (with_reducible refine Below.alloc ?_ ?_ _) | (with_reducible refine below_drew ?_) | (with_reducible refine pw_below_drewN ?_ _) | (with_reducible exact Below.refl _ _) | (exact below_alloc (Below.refl _ _) _) | omega | (simp; done) | (simp; omega)))⟩
theorem CheckR_not (r : Rc) (w : World) (h0 : ¬ 4 < r.kind) (h1 : ¬ r.id < 0) (h2 : ¬ 1099511627776 < r.id) (hk : ¬ r.kind = 0) :
    Calls Tryd.prog 73 #[.agg (rcL r).toArray] w fun e w' => e = .returned (.int .i64 (chkE r)) ∧ Below w.heap.size w w' := by
  by_cases hp : r.path = ByteArray.empty
  case neg => exact CheckR_path r w h0 h1 h2 hk hp
  by_cases hu : r.sum = Hs.zero
  case neg => exact CheckR_sum r w h0 h1 h2 hk hp hu
  by_cases hs : r.size = 0
  case neg => exact CheckR_size r w h0 h1 h2 hk hp hu hs
  have hb : r = bareRc r := by
    obtain ⟨a, b, c, d, e, f⟩ := r
    simp only at hp hu hs
    subst hp hu hs
    rfl
  by_cases ho : sizeB r.off = true
  case neg => exact CheckR_o1 r w h0 h1 h2 hk hb (by simpa using ho)
  by_cases hz : r.off = 0
  · exact CheckR_o2 r w h0 h1 h2 hk hb ho hz
  by_cases h7 : r.kind = 1
  · exact CheckR_o3 r w h0 h1 h2 hk hb ho hz h7
  · exact CheckR_o4 r w h0 h1 h2 hk hb ho hz h7
end Go.Proofs.YtiohgpcbdefokaaDoor.B
/- sumpterref15.Check tells what the program's tells. No condition. -/
namespace Go.Proofs.YtiohgpcbdefokaaDoor.B
open Go.RowKit Go.Proofs.YtiohgpcbdefokaaDoorW.PrintWords Go.Proofs.YtiohgpcbdefokaaDoor.RowLaws
attribute [local go_sem ↓ high] lvO_hs ldO_hs stO_hs lvO_pt ldO_pt stO_pt zero_pt eqA_pt lvO_ptR ldO_ptR stO_ptR zero_ptR eqA_ptR lvO_rc ldO_rc stO_rc zero_rc eqA_rc lvO_rcR ldO_rcR stO_rcR zero_rcR eqA_rcR lvO_tk ldO_tk stO_tk zero_tk eqA_tk lvO_tkR ldO_tkR stO_tkR zero_tkR eqA_tkR lvO_it ldO_it stO_it zero_it eqA_it blO_pt blO_ptR blO_rc blO_rcR blO_tk blO_tkR blO_it bsO_pt bsO_ptR bsO_rc bsO_rcR bsO_it
attribute [local go_sem high] rowAt_setCell rowAt_setRow cell_setRow_ne isRow_setRow_ne rowAt_alloc rowAt_drew isRow_alloc isRow_drew isRow_setCell rowRun_some okL_hs ldV_hs ldA_hs stA_hs setRow_alloc get_pt_id get_pt_path cut_pt_sum get_pt_size get_pt_off cut_pt okL_pt size_pt lenb_pt eta_pt ldV_pt ldA_pt stA_pt ldV_ptR ldA_ptR stA_ptR get_rc_kind get_rc_id get_rc_path cut_rc_sum get_rc_size get_rc_off cut_rc okL_rc size_rc lenb_rc eta_rc ldV_rc ldA_rc stA_rc ldV_rcR ldA_rcR stA_rcR get_tk_path cut_tk_sum get_tk_size get_tk_off cut_tk_old cut_tk okL_tk size_tk lenb_tk eta_tk ldV_tk ldA_tk stA_tk ldV_tkR ldA_tkR stA_tkR get_it_path get_it_dir get_it_size cut_it_sum cut_it okL_it size_it lenb_it eta_it ldV_it ldA_it stA_it bld_pt_01234 bld_pt_0123 bld_pt_z bld_ptR_01234 bld_ptR_0123 bld_ptR_z bld_rc_012345 bld_rc_015 bld_rc_01 bld_rc_z bld_rc_01234 bld_rc_24 bld_rc_05 bld_rc_0 bld_rcR_012345 bld_rcR_015 bld_rcR_01 bld_rcR_z bld_rcR_01234 bld_rcR_24 bld_rcR_05 bld_rcR_0 bld_tk_01234 bld_tk_0 bld_tk_z bld_tkR_01234 bld_tkR_0 bld_tkR_z bld_it_0123 bld_it_023 bld_it_01 bld_it_0 bld_it_z bs0_pt bs1_pt bs0_ptR bs1_ptR bs0_rc bs1_rc bs0_rcR bs1_rcR bs0_it bs1_it
set_option linter.unusedVariables false in
set_option maxHeartbeats 16000000 in
set_option maxRecDepth 100000 in
theorem CheckR_calls (r : Rc) (w : World) :
    Calls Tryd.prog 73 #[.agg (rcL r).toArray] w fun e w' => e = .returned (.int .i64 (chkE r)) ∧ Below w.heap.size w w' := by
  have HPE := Aside0.mk ((checkE r.path 400 (Nat.le_refl _)).trans (pathE_eq r.path))
  by_cases h0 : 4 < r.kind
  · have d0 : decide (4 < r.kind) = true := decide_eq_true h0
    have HE := Aside0.mk (show chkE r = 2 by unfold chkE; rw [if_pos (.inl h0)])
    clear h0
    go_enter Tryd.func73, Tryd.ntmps73
    go_wp2
    go_ret
    exact ⟨by rw [HE.out]; try rfl, by (repeat' (first | exact HB2.out | (with_reducible refine below_setCell ?_ ?_ _) | (with_reducible refine Below.alloc ?_ ?_ _) | (with_reducible refine below_drew ?_) | (with_reducible refine pw_below_drewN ?_ _) | (with_reducible exact Below.refl _ _) | omega | (simp; done) | (simp; omega)))⟩
  have d0 : decide (4 < r.kind) = false := decide_eq_false h0
  by_cases h1 : r.id < 0
  · have d1 : decide (r.id < 0) = true := decide_eq_true h1
    have HE := Aside0.mk (show chkE r = 2 by unfold chkE; rw [if_pos (.inr (.inl h1))])
    clear h0 h1
    go_enter Tryd.func73, Tryd.ntmps73
    go_wp2
    go_ret
    exact ⟨by rw [HE.out]; try rfl, by (repeat' (first | exact HB2.out | (with_reducible refine below_setCell ?_ ?_ _) | (with_reducible refine Below.alloc ?_ ?_ _) | (with_reducible refine below_drew ?_) | (with_reducible refine pw_below_drewN ?_ _) | (with_reducible exact Below.refl _ _) | omega | (simp; done) | (simp; omega)))⟩
  have d1 : decide (r.id < 0) = false := decide_eq_false h1
  by_cases h2 : 1099511627776 < r.id
  · have d2 : decide (1099511627776 < r.id) = true := decide_eq_true h2
    have HE := Aside0.mk (show chkE r = 2 by unfold chkE; rw [if_pos (.inr (.inr h2))])
    clear h0 h1 h2
    go_enter Tryd.func73, Tryd.ntmps73
    go_wp2
    go_ret
    exact ⟨by rw [HE.out]; try rfl, by (repeat' (first | exact HB2.out | (with_reducible refine below_setCell ?_ ?_ _) | (with_reducible refine Below.alloc ?_ ?_ _) | (with_reducible refine below_drew ?_) | (with_reducible refine pw_below_drewN ?_ _) | (with_reducible exact Below.refl _ _) | omega | (simp; done) | (simp; omega)))⟩
  have d2 : decide (1099511627776 < r.id) = false := decide_eq_false h2
  by_cases hk : r.kind = 0
  · have d3 : decide (r.kind = 0) = true := decide_eq_true hk
    have d3b : (r.kind == 0) = true := by simp [hk]
    by_cases hp : pathE r.path = 0
    case neg =>
      have d4 : decide (pathE r.path = 0) = false := decide_eq_false hp
      have d4b : (pathE r.path != 0) = true := bne_iff_ne.2 hp
      have HE := Aside0.mk (show chkE r = pathE r.path by unfold chkE; rw [if_neg (fun h => h.elim h0 (fun h => h.elim h1 h2))]; rw [if_pos hk, if_neg (show ¬ beginE r = 0 by unfold beginE; rw [if_neg hp]; exact hp)]; unfold beginE; rw [if_neg hp])
      clear h0 h1 h2 hp
      go_enter Tryd.func73, Tryd.ntmps73
      go_wp2_with (first | (go_at_call 104; refine (sumpterref07_Check.calls 400 r.path (pathE r.path) _ HPE.out).mono ?_; (try rw [HP0.out]); rintro e w2 ⟨rfl, hb2⟩; have HB2 := Aside0.mk (Below.trans (below_alloc (Below.refl w.heap.size w) _) (hb2.mono (by simp))); have hr2 : rowAt w2 ⟨w.heap.size, 0, none⟩ 37 = some (rcL r) := (by rw [rowAt_below hb2 (by simp)]; first | (go_simp; done) | (simp [*]; done)); have g0 : w2.cell? ⟨w.heap.size, 0, none⟩ = some (.int .u8 r.kind) := (rowAt_some hr2).2 0 _ (get_rc_kind r); have g2 : w2.cell? ⟨w.heap.size, 2, none⟩ = some (.string r.path) := (rowAt_some hr2).2 2 _ (get_rc_path r); have g35 : w2.cell? ⟨w.heap.size, 35, none⟩ = some (.int .i64 r.size) := (rowAt_some hr2).2 35 _ (get_rc_size r); have g36 : w2.cell? ⟨w.heap.size, 36, none⟩ = some (.int .i64 r.off) := (rowAt_some hr2).2 36 _ (get_rc_off r); clear hb2 hr2))
      go_ret
      exact ⟨by rw [HE.out]; try rfl, by (repeat' (first | exact HB2.out | (with_reducible refine below_setCell ?_ ?_ _) | (with_reducible refine Below.alloc ?_ ?_ _) | (with_reducible refine below_drew ?_) | (with_reducible refine pw_below_drewN ?_ _) | (with_reducible exact Below.refl _ _) | omega | (simp; done) | (simp; omega)))⟩
    have HP0 := Aside0.mk hp
    have HRE0 := (resvE r.path).trans (resv_eq r.path)
    have HSZ0 := sizeR_eq r.size
    have HSO0 := sizeR_eq r.off
    by_cases hv : resv r.path = true
    · have hbe : beginE r = 6 := by unfold beginE; rw [if_pos hp, if_pos hv]
      rw [hv] at HRE0
      have HRE := Aside0.mk HRE0
      have HE := Aside0.mk (show chkE r = 6 by unfold chkE; rw [if_neg (fun h => h.elim h0 (fun h => h.elim h1 h2))]; rw [if_pos hk, if_neg (by rw [hbe]; decide), hbe])
      clear h0 h1 h2 hv HSZ0 HSO0 HRE0 hp hbe
      go_enter Tryd.func73, Tryd.ntmps73
      go_wp2_with (first | (go_at_call 104; refine (sumpterref07_Check.calls 400 r.path (pathE r.path) _ HPE.out).mono ?_; (try rw [HP0.out]); rintro e w2 ⟨rfl, hb2⟩; have HB2 := Aside0.mk (Below.trans (below_alloc (Below.refl w.heap.size w) _) (hb2.mono (by simp))); have hr2 : rowAt w2 ⟨w.heap.size, 0, none⟩ 37 = some (rcL r) := (by rw [rowAt_below hb2 (by simp)]; first | (go_simp; done) | (simp [*]; done)); have g0 : w2.cell? ⟨w.heap.size, 0, none⟩ = some (.int .u8 r.kind) := (rowAt_some hr2).2 0 _ (get_rc_kind r); have g2 : w2.cell? ⟨w.heap.size, 2, none⟩ = some (.string r.path) := (rowAt_some hr2).2 2 _ (get_rc_path r); have g35 : w2.cell? ⟨w.heap.size, 35, none⟩ = some (.int .i64 r.size) := (rowAt_some hr2).2 35 _ (get_rc_size r); have g36 : w2.cell? ⟨w.heap.size, 36, none⟩ = some (.int .i64 r.off) := (rowAt_some hr2).2 36 _ (get_rc_off r); clear hb2 hr2) | (go_at_call 105; refine (sumpterref07_Reserved.calls r.path true _ HRE.out).mono ?_; rintro e w3 ⟨rfl, ⟨n3, rfl⟩⟩))
      go_ret
      exact ⟨by rw [HE.out]; try rfl, by (repeat' (first | exact HB2.out | (with_reducible refine below_setCell ?_ ?_ _) | (with_reducible refine Below.alloc ?_ ?_ _) | (with_reducible refine below_drew ?_) | (with_reducible refine pw_below_drewN ?_ _) | (with_reducible exact Below.refl _ _) | omega | (simp; done) | (simp; omega)))⟩
    have hv0 : resv r.path = false := by simpa using hv
    rw [hv0] at HRE0
    have HRE := Aside0.mk HRE0
    by_cases hs : sizeB r.size = true
    case neg =>
      have hbe : beginE r = 13 := by unfold beginE; rw [if_pos hp, if_neg hv, if_neg hs]
      have hs0 : sizeB r.size = false := by simpa using hs
      rw [hs0] at HSZ0
      have HSZ := Aside0.mk HSZ0
      have HE := Aside0.mk (show chkE r = 13 by unfold chkE; rw [if_neg (fun h => h.elim h0 (fun h => h.elim h1 h2))]; rw [if_pos hk, if_neg (by rw [hbe]; decide), hbe])
      clear h0 h1 h2 hv hv0 hs hs0 HSO0 HRE0 HSZ0 hp hbe
      go_enter Tryd.func73, Tryd.ntmps73
      go_wp2_with (first | (go_at_call 104; refine (sumpterref07_Check.calls 400 r.path (pathE r.path) _ HPE.out).mono ?_; (try rw [HP0.out]); rintro e w2 ⟨rfl, hb2⟩; have HB2 := Aside0.mk (Below.trans (below_alloc (Below.refl w.heap.size w) _) (hb2.mono (by simp))); have hr2 : rowAt w2 ⟨w.heap.size, 0, none⟩ 37 = some (rcL r) := (by rw [rowAt_below hb2 (by simp)]; first | (go_simp; done) | (simp [*]; done)); have g0 : w2.cell? ⟨w.heap.size, 0, none⟩ = some (.int .u8 r.kind) := (rowAt_some hr2).2 0 _ (get_rc_kind r); have g2 : w2.cell? ⟨w.heap.size, 2, none⟩ = some (.string r.path) := (rowAt_some hr2).2 2 _ (get_rc_path r); have g35 : w2.cell? ⟨w.heap.size, 35, none⟩ = some (.int .i64 r.size) := (rowAt_some hr2).2 35 _ (get_rc_size r); have g36 : w2.cell? ⟨w.heap.size, 36, none⟩ = some (.int .i64 r.off) := (rowAt_some hr2).2 36 _ (get_rc_off r); clear hb2 hr2) | (go_at_call 105; refine (sumpterref07_Reserved.calls r.path false _ HRE.out).mono ?_; rintro e w3 ⟨rfl, ⟨n3, rfl⟩⟩) | (go_at_call 120; refine (sumpterref15_size.calls r.size false _ HSZ.out).mono ?_; rintro e w4 ⟨rfl, ⟨n4, rfl⟩⟩))
      go_ret
      exact ⟨by rw [HE.out]; try rfl, by (repeat' (first | exact HB2.out | (with_reducible refine below_setCell ?_ ?_ _) | (with_reducible refine Below.alloc ?_ ?_ _) | (with_reducible refine below_drew ?_) | (with_reducible refine pw_below_drewN ?_ _) | (with_reducible exact Below.refl _ _) | omega | (simp; done) | (simp; omega)))⟩
    have hbe : beginE r = 0 := by unfold beginE; rw [if_pos hp, if_neg hv, if_pos hs]
    rw [hs] at HSZ0
    have HSZ := Aside0.mk HSZ0
    by_cases ho : sizeB r.off = true
    case neg =>
      have ho0 : sizeB r.off = false := by simpa using ho
      rw [ho0] at HSO0
      have HSO := Aside0.mk HSO0
      have HE := Aside0.mk (show chkE r = 13 by unfold chkE; rw [if_neg (fun h => h.elim h0 (fun h => h.elim h1 h2))]; rw [if_pos hk, if_pos hbe]; unfold offE; rw [if_neg ho])
      clear h0 h1 h2 hv hv0 hs HRE0 HSZ0 HSO0 hp hbe ho ho0
      go_enter Tryd.func73, Tryd.ntmps73
      go_wp2_with (first | (go_at_call 104; refine (sumpterref07_Check.calls 400 r.path (pathE r.path) _ HPE.out).mono ?_; (try rw [HP0.out]); rintro e w2 ⟨rfl, hb2⟩; have HB2 := Aside0.mk (Below.trans (below_alloc (Below.refl w.heap.size w) _) (hb2.mono (by simp))); have hr2 : rowAt w2 ⟨w.heap.size, 0, none⟩ 37 = some (rcL r) := (by rw [rowAt_below hb2 (by simp)]; first | (go_simp; done) | (simp [*]; done)); have g0 : w2.cell? ⟨w.heap.size, 0, none⟩ = some (.int .u8 r.kind) := (rowAt_some hr2).2 0 _ (get_rc_kind r); have g2 : w2.cell? ⟨w.heap.size, 2, none⟩ = some (.string r.path) := (rowAt_some hr2).2 2 _ (get_rc_path r); have g35 : w2.cell? ⟨w.heap.size, 35, none⟩ = some (.int .i64 r.size) := (rowAt_some hr2).2 35 _ (get_rc_size r); have g36 : w2.cell? ⟨w.heap.size, 36, none⟩ = some (.int .i64 r.off) := (rowAt_some hr2).2 36 _ (get_rc_off r); clear hb2 hr2) | (go_at_call 105; refine (sumpterref07_Reserved.calls r.path false _ HRE.out).mono ?_; rintro e w3 ⟨rfl, ⟨n3, rfl⟩⟩) | (go_at_call 120; refine (sumpterref15_size.calls r.size true _ HSZ.out).mono ?_; rintro e w4 ⟨rfl, ⟨n4, rfl⟩⟩) | (go_at_call 120; refine (sumpterref15_size.calls r.off false _ HSO.out).mono ?_; rintro e w5 ⟨rfl, ⟨n5, rfl⟩⟩))
      go_ret
      exact ⟨by rw [HE.out]; try rfl, by (repeat' (first | exact HB2.out | (with_reducible refine below_setCell ?_ ?_ _) | (with_reducible refine Below.alloc ?_ ?_ _) | (with_reducible refine below_drew ?_) | (with_reducible refine pw_below_drewN ?_ _) | (with_reducible exact Below.refl _ _) | omega | (simp; done) | (simp; omega)))⟩
    rw [ho] at HSO0
    have HSO := Aside0.mk HSO0
    by_cases hz : r.off = 0
    · have d5 : decide (r.off = 0) = true := decide_eq_true hz
      have d5b : (r.off != 0) = false := by simp [hz]
      have HE := Aside0.mk (show chkE r = 0 by unfold chkE; rw [if_neg (fun h => h.elim h0 (fun h => h.elim h1 h2))]; rw [if_pos hk, if_pos hbe]; unfold offE; rw [if_pos ho, if_pos (.inl hz)])
      clear h0 h1 h2 hv hv0 hs HRE0 HSZ0 HSO0 hp hbe ho hz
      go_enter Tryd.func73, Tryd.ntmps73
      go_wp2_with (first | (go_at_call 104; refine (sumpterref07_Check.calls 400 r.path (pathE r.path) _ HPE.out).mono ?_; (try rw [HP0.out]); rintro e w2 ⟨rfl, hb2⟩; have HB2 := Aside0.mk (Below.trans (below_alloc (Below.refl w.heap.size w) _) (hb2.mono (by simp))); have hr2 : rowAt w2 ⟨w.heap.size, 0, none⟩ 37 = some (rcL r) := (by rw [rowAt_below hb2 (by simp)]; first | (go_simp; done) | (simp [*]; done)); have g0 : w2.cell? ⟨w.heap.size, 0, none⟩ = some (.int .u8 r.kind) := (rowAt_some hr2).2 0 _ (get_rc_kind r); have g2 : w2.cell? ⟨w.heap.size, 2, none⟩ = some (.string r.path) := (rowAt_some hr2).2 2 _ (get_rc_path r); have g35 : w2.cell? ⟨w.heap.size, 35, none⟩ = some (.int .i64 r.size) := (rowAt_some hr2).2 35 _ (get_rc_size r); have g36 : w2.cell? ⟨w.heap.size, 36, none⟩ = some (.int .i64 r.off) := (rowAt_some hr2).2 36 _ (get_rc_off r); clear hb2 hr2) | (go_at_call 105; refine (sumpterref07_Reserved.calls r.path false _ HRE.out).mono ?_; rintro e w3 ⟨rfl, ⟨n3, rfl⟩⟩) | (go_at_call 120; refine (sumpterref15_size.calls r.size true _ HSZ.out).mono ?_; rintro e w4 ⟨rfl, ⟨n4, rfl⟩⟩) | (go_at_call 120; refine (sumpterref15_size.calls r.off true _ HSO.out).mono ?_; rintro e w5 ⟨rfl, ⟨n5, rfl⟩⟩))
      go_ret
      exact ⟨by rw [HE.out]; try rfl, by (repeat' (first | exact HB2.out | (with_reducible refine below_setCell ?_ ?_ _) | (with_reducible refine Below.alloc ?_ ?_ _) | (with_reducible refine below_drew ?_) | (with_reducible refine pw_below_drewN ?_ _) | (with_reducible exact Below.refl _ _) | omega | (simp; done) | (simp; omega)))⟩
    · have d5 : decide (r.off = 0) = false := decide_eq_false hz
      have d5b : (r.off != 0) = true := bne_iff_ne.2 hz
      have HE := Aside0.mk (show chkE r = 4 by unfold chkE; rw [if_neg (fun h => h.elim h0 (fun h => h.elim h1 h2))]; rw [if_pos hk, if_pos hbe]; unfold offE; rw [if_pos ho, if_neg (fun h => h.elim hz (fun h => by omega))])
      clear h0 h1 h2 hv hv0 hs HRE0 HSZ0 HSO0 hp hbe ho hz
      go_enter Tryd.func73, Tryd.ntmps73
      go_wp2_with (first | (go_at_call 104; refine (sumpterref07_Check.calls 400 r.path (pathE r.path) _ HPE.out).mono ?_; (try rw [HP0.out]); rintro e w2 ⟨rfl, hb2⟩; have HB2 := Aside0.mk (Below.trans (below_alloc (Below.refl w.heap.size w) _) (hb2.mono (by simp))); have hr2 : rowAt w2 ⟨w.heap.size, 0, none⟩ 37 = some (rcL r) := (by rw [rowAt_below hb2 (by simp)]; first | (go_simp; done) | (simp [*]; done)); have g0 : w2.cell? ⟨w.heap.size, 0, none⟩ = some (.int .u8 r.kind) := (rowAt_some hr2).2 0 _ (get_rc_kind r); have g2 : w2.cell? ⟨w.heap.size, 2, none⟩ = some (.string r.path) := (rowAt_some hr2).2 2 _ (get_rc_path r); have g35 : w2.cell? ⟨w.heap.size, 35, none⟩ = some (.int .i64 r.size) := (rowAt_some hr2).2 35 _ (get_rc_size r); have g36 : w2.cell? ⟨w.heap.size, 36, none⟩ = some (.int .i64 r.off) := (rowAt_some hr2).2 36 _ (get_rc_off r); clear hb2 hr2) | (go_at_call 105; refine (sumpterref07_Reserved.calls r.path false _ HRE.out).mono ?_; rintro e w3 ⟨rfl, ⟨n3, rfl⟩⟩) | (go_at_call 120; refine (sumpterref15_size.calls r.size true _ HSZ.out).mono ?_; rintro e w4 ⟨rfl, ⟨n4, rfl⟩⟩) | (go_at_call 120; refine (sumpterref15_size.calls r.off true _ HSO.out).mono ?_; rintro e w5 ⟨rfl, ⟨n5, rfl⟩⟩))
      go_ret
      exact ⟨by rw [HE.out]; try rfl, by (repeat' (first | exact HB2.out | (with_reducible refine below_setCell ?_ ?_ _) | (with_reducible refine Below.alloc ?_ ?_ _) | (with_reducible refine below_drew ?_) | (with_reducible refine pw_below_drewN ?_ _) | (with_reducible exact Below.refl _ _) | omega | (simp; done) | (simp; omega)))⟩
  exact CheckR_not r w h0 h1 h2 hk
end Go.Proofs.YtiohgpcbdefokaaDoor.B
/- sumpterref15.Put at kinds that are neither Begin nor Mark. No condition. -/
namespace Go.Proofs.YtiohgpcbdefokaaDoor.B
open Go.RowKit Go.Proofs.YtiohgpcbdefokaaDoorW.PrintWords Go.Proofs.YtiohgpcbdefokaaDoor.RowLaws
attribute [local go_sem ↓ high] lvO_hs ldO_hs stO_hs lvO_pt ldO_pt stO_pt zero_pt eqA_pt lvO_ptR ldO_ptR stO_ptR zero_ptR eqA_ptR lvO_rc ldO_rc stO_rc zero_rc eqA_rc lvO_rcR ldO_rcR stO_rcR zero_rcR eqA_rcR lvO_tk ldO_tk stO_tk zero_tk eqA_tk lvO_tkR ldO_tkR stO_tkR zero_tkR eqA_tkR lvO_it ldO_it stO_it zero_it eqA_it blO_pt blO_ptR blO_rc blO_rcR blO_tk blO_tkR blO_it bsO_pt bsO_ptR bsO_rc bsO_rcR bsO_it
attribute [local go_sem high] rowAt_setCell rowAt_setRow cell_setRow_ne isRow_setRow_ne rowAt_alloc rowAt_drew isRow_alloc isRow_drew isRow_setCell rowRun_some okL_hs ldV_hs ldA_hs stA_hs setRow_alloc get_pt_id get_pt_path cut_pt_sum get_pt_size get_pt_off cut_pt okL_pt size_pt lenb_pt eta_pt ldV_pt ldA_pt stA_pt ldV_ptR ldA_ptR stA_ptR get_rc_kind get_rc_id get_rc_path cut_rc_sum get_rc_size get_rc_off cut_rc okL_rc size_rc lenb_rc eta_rc ldV_rc ldA_rc stA_rc ldV_rcR ldA_rcR stA_rcR get_tk_path cut_tk_sum get_tk_size get_tk_off cut_tk_old cut_tk okL_tk size_tk lenb_tk eta_tk ldV_tk ldA_tk stA_tk ldV_tkR ldA_tkR stA_tkR get_it_path get_it_dir get_it_size cut_it_sum cut_it okL_it size_it lenb_it eta_it ldV_it ldA_it stA_it bld_pt_01234 bld_pt_0123 bld_pt_z bld_ptR_01234 bld_ptR_0123 bld_ptR_z bld_rc_012345 bld_rc_015 bld_rc_01 bld_rc_z bld_rc_01234 bld_rc_24 bld_rc_05 bld_rc_0 bld_rcR_012345 bld_rcR_015 bld_rcR_01 bld_rcR_z bld_rcR_01234 bld_rcR_24 bld_rcR_05 bld_rcR_0 bld_tk_01234 bld_tk_0 bld_tk_z bld_tkR_01234 bld_tkR_0 bld_tkR_z bld_it_0123 bld_it_023 bld_it_01 bld_it_0 bld_it_z bs0_pt bs1_pt bs0_ptR bs1_ptR bs0_rc bs1_rc bs0_rcR bs1_rcR bs0_it bs1_it
set_option linter.unusedVariables false in
set_option maxHeartbeats 4000000 in
set_option maxRecDepth 100000 in
theorem PutRBare_calls (k : Nat) (r : Rc) (a s t : List Int) (w : World) (hk : ¬ r.kind = 0) (hk1 : ¬ r.kind = 1) (hc : chkE r = 0) (ha : sumpterref02_Num.f k r.id = some a) (hl : a.length ≤ 100)
    (hs : sumpterref03_Seal.f k ([r.kind] ++ a) = some s) (ht : sumpterref02_Text.f k (strOfNums s) = some t) :
    Calls Tryd.prog 25 #[.agg (rcL r).toArray] w fun e w' => ∃ v : Value, e = .returned (.tuple #[v, .int .i64 0]) ∧ Kd.R (Kd.int .u8) 5 w' w.heap.size (fun _ => True) v t ∧ Below w.heap.size w w' := by
  obtain ⟨x1, hx1⟩ : ∃ x1, [r.kind] ++ a = x1 := ⟨_, rfl⟩
  rw [hx1] at hs
  have HX1 := Aside0.mk hx1
  have HLL := Aside0.mk (show x1.length ≤ 101 by rw [← hx1, List.length_append, List.length_singleton]; omega)
  have hz0 : decide (r.kind = 0) = false := decide_eq_false hk
  have hz1 : decide (r.kind = 1) = false := decide_eq_false hk1
  have hy0 : (r.kind == 0) = false := by simp [hk]
  have hy1 : (r.kind == 1) = false := by simp [hk1]
  clear hx1 hk hk1
  have HC := Aside0.mk hc
  have HA := Aside0.mk ha
  have HS := Aside0.mk hs
  have HTX := Aside0.mk ht
  have HL := Aside0.mk hl
  clear hc ha hs ht hl
  go_enter Tryd.func25, Tryd.ntmps25
  go_wp2_with (first
    | (go_at_call 73; refine (CheckR_calls r _).mono ?_; rintro e w2 ⟨rfl, hb2⟩; rw [HC.out]; obtain ⟨hcl, hfz⟩ := bcell0 hb2; have c0 : w2.cell? ⟨w.heap.size, 0, none⟩ = some (.int .u8 r.kind) := (by rw [hcl _ _ (by simp)]; first | (go_simp; done) | (simp [*]; done)); have c1 : w2.cell? ⟨w.heap.size, 1, none⟩ = some (.int .i64 r.id) := (by rw [hcl _ _ (by simp)]; first | (go_simp; done) | (simp [*]; done)); have c5 : w2.cell? ⟨w.heap.size, 36, none⟩ = some (.int .i64 r.off) := (by rw [hcl _ _ (by simp)]; first | (go_simp; done) | (simp [*]; done)); have HB2 := Aside0.mk (Below.trans (below_alloc (Below.refl w.heap.size w) _) (hb2.mono (by simp))); have HS2 := Aside0.mk (show w.heap.size + 1 ≤ w2.heap.size from by have h_ := hb2.size; simpa using h_); clear hb2 hcl hfz))
  go_region_held3 (fun w' => w'.cell? ⟨w.heap.size, 0, none⟩ = some (.int .u8 r.kind) ∧ w'.cell? ⟨w.heap.size, 1, none⟩ = some (.int .i64 r.id)) (first | go_keep)
    (first
      | (go_at_call 74; refine (sumpterref02_Num.calls k r.id a _ HA.out).mono ?_; rintro e w4 ⟨v4, rfl, ho4, hb4⟩; obtain ⟨A4, n4, rfl⟩ := Kd.R_slice ho4;
          (first
            | have HX := Aside0.mk (And.intro (show Below (w.heap.size + 1) w2 w4 from Below.trans (below_drew (Below.alloc (Below.refl _ _) HS2.out _)) (hb4.mono (by have := HS2.out; simp; omega))) (Kd.R_below (Kd.R_drew (lit1_R w2 r.kind (w.heap.size + 1) HS2.out)) hb4))
            | have HX := Aside0.mk (And.intro (show Below (w.heap.size + 1) w2 w4 from Below.trans (below_drew (Below.refl _ _)) (hb4.mono (by have := HS2.out; simp; omega))) True.intro));
          have HO4 := Aside0.mk (Kd.R_lower (base' := w.heap.size + 1) ho4 (by have := HS2.out; simp; omega));
          have c40 : w4.cell? ⟨w.heap.size, 0, none⟩ = some (.int .u8 r.kind) := (HX.out.1.cell (p := ⟨w.heap.size, 0, none⟩) (by simp)).trans c0;
          have c41 : w4.cell? ⟨w.heap.size, 1, none⟩ = some (.int .i64 r.id) := (HX.out.1.cell (p := ⟨w.heap.size, 1, none⟩) (by simp)).trans c1;
          clear ho4 hb4)
      | ((with_reducible refine gate_stepb (b := .append) (xs := #[.tmp 14, .tmp 17]) rfl ?_);
          refine Kd.R_append_rows_step (Kd.int .u8) (w0 := w2) (w.heap.size + 1) rfl (.tmp 14) (.tmp 17) 22 5 (.int .u8 0) 1 rfl Tryd.underlying22 info5 rfl (by decide) (by decide) _ [r.kind] a A4 a.length n4 (fun _ => True) (fun _ => False) rfl rfl ?aO ?aR (fun _ _ h => h) (fun _ h => h.elim) (fun _ _ => trivial) ?aB ?aS ?aL ?_;
          (case aO => first | exact HX.out.2 | exact lit1_R w4 r.kind (w.heap.size + 1) (by have h_ := HX.out.1.size; have := HS2.out; omega));
          (case aR => first | exact (Kd.R_reads' HO4.out).2.2 | exact Kd.C_below (Kd.R_reads' HO4.out).2.2 (below_alloc (Below.refl _ _) _));
          (case aB => first | exact HX.out.1 | exact Below.alloc HX.out.1 (by have h_ := HX.out.1.size; have := HS2.out; omega) _);
          (case aS => have h_ := HX.out.1.size; have := HS2.out; simp; omega);
          (case aL => have := HL.out; simp; omega);
          intro v5 w5 ho5 hb5 hg5 hat5;
          rw [HX1.out] at ho5;
          have HO5 := Aside0.mk ho5;
          have HB5 := Aside0.mk hb5;
          have c50 : w5.cell? ⟨w.heap.size, 0, none⟩ = some (.int .u8 r.kind) := (hb5.cell (p := ⟨w.heap.size, 0, none⟩) (by simp)).trans c0;
          have c51 : w5.cell? ⟨w.heap.size, 1, none⟩ = some (.int .i64 r.id) := (hb5.cell (p := ⟨w.heap.size, 1, none⟩) (by simp)).trans c1;
          have c55 : w5.cell? ⟨w.heap.size, 36, none⟩ = some (.int .i64 r.off) := (hb5.cell (p := ⟨w.heap.size, 36, none⟩) (by simp)).trans c5;
          clear ho5 hb5 hg5 hat5))
  all_goals
    obtain ⟨A5, n5, rfl⟩ := Kd.R_slice HO5.out
    go_wp2_with (first
      | (go_at_call 76; refine (sumpterref03_Seal.calls k A5 n5 x1 s _ (Kd.R_reads' HO5.out).2.2 (Kd.R_reads' HO5.out).2.1 HS.out).mono ?_; rintro e w8 ⟨v8, rfl, ho8, hb8⟩; obtain ⟨A8, n8, rfl⟩ := Kd.R_slice ho8;
          have HB8 := Aside0.mk (show Below (w.heap.size + 1) w2 w8 from Below.trans HB5.out (hb8.mono (by have h_ := HB5.out.size; have := HS2.out; omega)));
          have hcv := Kd.C_string (P := Tryd.prog) (src := 22) (dst := 9) (c := n8) Tryd.underlying22 Tryd.underlying5 Tryd.underlying9 (Kd.R_reads' ho8).2.2;
          clear ho8 hb8)
      | (go_at_call 75; refine (sumpterref02_Text.calls k (strOfNums s) t _ HTX.out).mono ?_; rintro e w9 ⟨v9, rfl, ho9, hb9⟩; obtain ⟨A9, n9, rfl⟩ := Kd.R_slice ho9;
          have HO9 := Aside0.mk (Kd.R_lower (base' := w.heap.size) ho9 (by have h_ := HB8.out.size; have := HS2.out; omega));
          have HB9 := Aside0.mk (show Below w.heap.size w w9 from Below.trans HB2.out ((Below.trans HB8.out (hb9.mono (by have h_ := HB8.out.size; have := HS2.out; omega))).mono (by omega)));
          clear ho9 hb9))
    go_ret2
    exact ⟨_, rfl, HO9.out, HB9.out⟩
end Go.Proofs.YtiohgpcbdefokaaDoor.B
/- sumpterref15.Put of a mark. No condition. -/
namespace Go.Proofs.YtiohgpcbdefokaaDoor.B
open Go.RowKit Go.Proofs.YtiohgpcbdefokaaDoorW.PrintWords Go.Proofs.YtiohgpcbdefokaaDoor.RowLaws
attribute [local go_sem ↓ high] lvO_hs ldO_hs stO_hs lvO_pt ldO_pt stO_pt zero_pt eqA_pt lvO_ptR ldO_ptR stO_ptR zero_ptR eqA_ptR lvO_rc ldO_rc stO_rc zero_rc eqA_rc lvO_rcR ldO_rcR stO_rcR zero_rcR eqA_rcR lvO_tk ldO_tk stO_tk zero_tk eqA_tk lvO_tkR ldO_tkR stO_tkR zero_tkR eqA_tkR lvO_it ldO_it stO_it zero_it eqA_it blO_pt blO_ptR blO_rc blO_rcR blO_tk blO_tkR blO_it bsO_pt bsO_ptR bsO_rc bsO_rcR bsO_it
attribute [local go_sem high] rowAt_setCell rowAt_setRow cell_setRow_ne isRow_setRow_ne rowAt_alloc rowAt_drew isRow_alloc isRow_drew isRow_setCell rowRun_some okL_hs ldV_hs ldA_hs stA_hs setRow_alloc get_pt_id get_pt_path cut_pt_sum get_pt_size get_pt_off cut_pt okL_pt size_pt lenb_pt eta_pt ldV_pt ldA_pt stA_pt ldV_ptR ldA_ptR stA_ptR get_rc_kind get_rc_id get_rc_path cut_rc_sum get_rc_size get_rc_off cut_rc okL_rc size_rc lenb_rc eta_rc ldV_rc ldA_rc stA_rc ldV_rcR ldA_rcR stA_rcR get_tk_path cut_tk_sum get_tk_size get_tk_off cut_tk_old cut_tk okL_tk size_tk lenb_tk eta_tk ldV_tk ldA_tk stA_tk ldV_tkR ldA_tkR stA_tkR get_it_path get_it_dir get_it_size cut_it_sum cut_it okL_it size_it lenb_it eta_it ldV_it ldA_it stA_it bld_pt_01234 bld_pt_0123 bld_pt_z bld_ptR_01234 bld_ptR_0123 bld_ptR_z bld_rc_012345 bld_rc_015 bld_rc_01 bld_rc_z bld_rc_01234 bld_rc_24 bld_rc_05 bld_rc_0 bld_rcR_012345 bld_rcR_015 bld_rcR_01 bld_rcR_z bld_rcR_01234 bld_rcR_24 bld_rcR_05 bld_rcR_0 bld_tk_01234 bld_tk_0 bld_tk_z bld_tkR_01234 bld_tkR_0 bld_tkR_z bld_it_0123 bld_it_023 bld_it_01 bld_it_0 bld_it_z bs0_pt bs1_pt bs0_ptR bs1_ptR bs0_rc bs1_rc bs0_rcR bs1_rcR bs0_it bs1_it
set_option linter.unusedVariables false in
set_option maxHeartbeats 4000000 in
set_option maxRecDepth 100000 in
theorem PutRMark_calls (k : Nat) (r : Rc) (a b s t : List Int) (w : World) (hk : r.kind = 1) (hc : chkE r = 0) (ha : sumpterref02_Num.f k r.id = some a) (hb : sumpterref02_Num.f k r.off = some b) (hl : a.length + b.length ≤ 100)
    (hs : sumpterref03_Seal.f k (([1] ++ a) ++ b) = some s) (ht : sumpterref02_Text.f k (strOfNums s) = some t) :
    Calls Tryd.prog 25 #[.agg (rcL r).toArray] w fun e w' => ∃ v : Value, e = .returned (.tuple #[v, .int .i64 0]) ∧ Kd.R (Kd.int .u8) 5 w' w.heap.size (fun _ => True) v t ∧ Below w.heap.size w w' := by
  obtain ⟨x1, hx1⟩ : ∃ x1, [1] ++ a = x1 := ⟨_, rfl⟩
  rw [hx1] at hs
  obtain ⟨x2, hx2⟩ : ∃ x2, x1 ++ b = x2 := ⟨_, rfl⟩
  rw [hx2] at hs
  have HX1 := Aside0.mk hx1
  have HX2 := Aside0.mk hx2
  have HLL := Aside0.mk (show x1.length + b.length ≤ 101 ∧ x2.length ≤ 101 by rw [← hx2, List.length_append, ← hx1, List.length_append, List.length_singleton]; omega)
  clear hx1 hx2
  have HC := Aside0.mk hc
  have HA := Aside0.mk ha
  have HB := Aside0.mk hb
  have HS := Aside0.mk hs
  have HTX := Aside0.mk ht
  have HL := Aside0.mk hl
  clear hc ha hb hs ht hl
  go_enter Tryd.func25, Tryd.ntmps25
  go_wp2_with (first
    | (go_at_call 73; refine (CheckR_calls r _).mono ?_; rintro e w2 ⟨rfl, hb2⟩; rw [HC.out]; obtain ⟨hcl, hfz⟩ := bcell0 hb2; have c0 : w2.cell? ⟨w.heap.size, 0, none⟩ = some (.int .u8 r.kind) := (by rw [hcl _ _ (by simp)]; first | (go_simp; done) | (simp [*]; done)); have c1 : w2.cell? ⟨w.heap.size, 1, none⟩ = some (.int .i64 r.id) := (by rw [hcl _ _ (by simp)]; first | (go_simp; done) | (simp [*]; done)); have c5 : w2.cell? ⟨w.heap.size, 36, none⟩ = some (.int .i64 r.off) := (by rw [hcl _ _ (by simp)]; first | (go_simp; done) | (simp [*]; done)); have HB2 := Aside0.mk (Below.trans (below_alloc (Below.refl w.heap.size w) _) (hb2.mono (by simp))); have HS2 := Aside0.mk (show w.heap.size + 1 ≤ w2.heap.size from by have h_ := hb2.size; simpa using h_); clear hb2 hcl hfz))
  go_region_held3 (fun w' => w'.cell? ⟨w.heap.size, 0, none⟩ = some (.int .u8 r.kind) ∧ w'.cell? ⟨w.heap.size, 1, none⟩ = some (.int .i64 r.id)) (first | go_keep)
    (first
      | (go_at_call 74; refine (sumpterref02_Num.calls k r.id a _ HA.out).mono ?_; rintro e w4 ⟨v4, rfl, ho4, hb4⟩; obtain ⟨A4, n4, rfl⟩ := Kd.R_slice ho4;
          (first
            | have HX := Aside0.mk (And.intro (show Below (w.heap.size + 1) w2 w4 from Below.trans (below_drew (Below.alloc (Below.refl _ _) HS2.out _)) (hb4.mono (by have := HS2.out; simp; omega))) (Kd.R_below (Kd.R_drew (lit1_R w2 1 (w.heap.size + 1) HS2.out)) hb4))
            | have HX := Aside0.mk (And.intro (show Below (w.heap.size + 1) w2 w4 from Below.trans (below_drew (Below.refl _ _)) (hb4.mono (by have := HS2.out; simp; omega))) True.intro));
          have HO4 := Aside0.mk (Kd.R_lower (base' := w.heap.size + 1) ho4 (by have := HS2.out; simp; omega));
          have c40 : w4.cell? ⟨w.heap.size, 0, none⟩ = some (.int .u8 r.kind) := (HX.out.1.cell (p := ⟨w.heap.size, 0, none⟩) (by simp)).trans c0;
          have c41 : w4.cell? ⟨w.heap.size, 1, none⟩ = some (.int .i64 r.id) := (HX.out.1.cell (p := ⟨w.heap.size, 1, none⟩) (by simp)).trans c1;
          clear ho4 hb4)
      | ((with_reducible refine gate_stepb (b := .append) (xs := #[.tmp 14, .tmp 17]) rfl ?_);
          refine Kd.R_append_rows_step (Kd.int .u8) (w0 := w2) (w.heap.size + 1) rfl (.tmp 14) (.tmp 17) 22 5 (.int .u8 0) 1 rfl Tryd.underlying22 info5 rfl (by decide) (by decide) _ [1] a A4 a.length n4 (fun _ => True) (fun _ => False) rfl rfl ?aO ?aR (fun _ _ h => h) (fun _ h => h.elim) (fun _ _ => trivial) ?aB ?aS ?aL ?_;
          (case aO => first | exact HX.out.2 | exact lit1_R w4 1 (w.heap.size + 1) (by have h_ := HX.out.1.size; have := HS2.out; omega));
          (case aR => first | exact (Kd.R_reads' HO4.out).2.2 | exact Kd.C_below (Kd.R_reads' HO4.out).2.2 (below_alloc (Below.refl _ _) _));
          (case aB => first | exact HX.out.1 | exact Below.alloc HX.out.1 (by have h_ := HX.out.1.size; have := HS2.out; omega) _);
          (case aS => have h_ := HX.out.1.size; have := HS2.out; simp; omega);
          (case aL => have := HL.out; simp; omega);
          intro v5 w5 ho5 hb5 hg5 hat5;
          rw [HX1.out] at ho5;
          have HO5 := Aside0.mk ho5;
          have HB5 := Aside0.mk hb5;
          have c50 : w5.cell? ⟨w.heap.size, 0, none⟩ = some (.int .u8 r.kind) := (hb5.cell (p := ⟨w.heap.size, 0, none⟩) (by simp)).trans c0;
          have c51 : w5.cell? ⟨w.heap.size, 1, none⟩ = some (.int .i64 r.id) := (hb5.cell (p := ⟨w.heap.size, 1, none⟩) (by simp)).trans c1;
          have c55 : w5.cell? ⟨w.heap.size, 36, none⟩ = some (.int .i64 r.off) := (hb5.cell (p := ⟨w.heap.size, 36, none⟩) (by simp)).trans c5;
          clear ho5 hb5 hg5 hat5))
  all_goals
    obtain ⟨A5, n5, rfl⟩ := Kd.R_slice HO5.out
    go_wp2_with (first
      | (go_at_call 74; refine (sumpterref02_Num.calls k r.off b _ HB.out).mono ?_; rintro e w6 ⟨v6, rfl, ho6, hb6⟩; obtain ⟨A6, n6, rfl⟩ := Kd.R_slice ho6;
          have HB6 := Aside0.mk (show Below (w.heap.size + 1) w2 w6 from Below.trans HB5.out (hb6.mono (by have h_ := HB5.out.size; have := HS2.out; omega)));
          have HO6 := Aside0.mk (Kd.R_lower (base' := w.heap.size + 1) ho6 (by have h_ := HB5.out.size; have := HS2.out; omega));
          have HO56 := Aside0.mk (Kd.R_below HO5.out hb6);
          clear ho6 hb6)
      | ((with_reducible refine gate_builtin (b := .append) (xs := #[.tmp 39, .tmp 42]) rfl ?_); at_builtin;
          refine Kd.R_append_rows (Kd.int .u8) (w0 := w2) (w.heap.size + 1) rfl (.tmp 39) (.tmp 42) 22 5 (.int .u8 0) 1 rfl Tryd.underlying22 info5 rfl (by decide) (by decide) (.slice A5 x1.length n5) x1 b A6 b.length n6 (fun _ => True) (fun _ => False) rfl rfl ?aO ?aR (fun _ _ h => h) (fun _ h => h.elim) (fun _ _ => trivial) ?aB ?aS ?aL ?_;
          (case aO => exact HO56.out);
          (case aR => exact (Kd.R_reads' HO6.out).2.2);
          (case aB => exact HB6.out);
          (case aS => have h_ := HB6.out.size; have := HS2.out; omega);
          (case aL => have := HLL.out; omega);
          intro v7 w7 ho7 hb7 hg7 hat7;
          rw [HX2.out] at ho7;
          obtain ⟨A7, n7, rfl⟩ := Kd.R_slice ho7;
          have HO7 := Aside0.mk ho7;
          have HB7 := Aside0.mk hb7;
          clear ho7 hb7 hg7 hat7)
      | (go_at_call 76; refine (sumpterref03_Seal.calls k A7 n7 x2 s _ (Kd.R_reads' HO7.out).2.2 (Kd.R_reads' HO7.out).2.1 HS.out).mono ?_; rintro e w8 ⟨v8, rfl, ho8, hb8⟩; obtain ⟨A8, n8, rfl⟩ := Kd.R_slice ho8;
          have HB8 := Aside0.mk (show Below (w.heap.size + 1) w2 w8 from Below.trans HB7.out (hb8.mono (by have h_ := HB7.out.size; have := HS2.out; omega)));
          have hcv := Kd.C_string (P := Tryd.prog) (src := 22) (dst := 9) (c := n8) Tryd.underlying22 Tryd.underlying5 Tryd.underlying9 (Kd.R_reads' ho8).2.2;
          clear ho8 hb8)
      | (go_at_call 75; refine (sumpterref02_Text.calls k (strOfNums s) t _ HTX.out).mono ?_; rintro e w9 ⟨v9, rfl, ho9, hb9⟩; obtain ⟨A9, n9, rfl⟩ := Kd.R_slice ho9;
          have HO9 := Aside0.mk (Kd.R_lower (base' := w.heap.size) ho9 (by have h_ := HB8.out.size; have := HS2.out; omega));
          have HB9 := Aside0.mk (show Below w.heap.size w w9 from Below.trans HB2.out ((Below.trans HB8.out (hb9.mono (by have h_ := HB8.out.size; have := HS2.out; omega))).mono (by omega)));
          clear ho9 hb9))
    go_ret2
    exact ⟨_, rfl, HO9.out, HB9.out⟩
end Go.Proofs.YtiohgpcbdefokaaDoor.B
/- sumpterref15.Put of a Begin. No condition. -/
namespace Go.Proofs.YtiohgpcbdefokaaDoor.B
open Go.RowKit Go.Proofs.YtiohgpcbdefokaaDoorW.PrintWords Go.Proofs.YtiohgpcbdefokaaDoor.RowLaws
attribute [local go_sem ↓ high] lvO_hs ldO_hs stO_hs lvO_pt ldO_pt stO_pt zero_pt eqA_pt lvO_ptR ldO_ptR stO_ptR zero_ptR eqA_ptR lvO_rc ldO_rc stO_rc zero_rc eqA_rc lvO_rcR ldO_rcR stO_rcR zero_rcR eqA_rcR lvO_tk ldO_tk stO_tk zero_tk eqA_tk lvO_tkR ldO_tkR stO_tkR zero_tkR eqA_tkR lvO_it ldO_it stO_it zero_it eqA_it blO_pt blO_ptR blO_rc blO_rcR blO_tk blO_tkR blO_it bsO_pt bsO_ptR bsO_rc bsO_rcR bsO_it
attribute [local go_sem high] rowAt_setCell rowAt_setRow cell_setRow_ne isRow_setRow_ne rowAt_alloc rowAt_drew isRow_alloc isRow_drew isRow_setCell rowRun_some okL_hs ldV_hs ldA_hs stA_hs setRow_alloc get_pt_id get_pt_path cut_pt_sum get_pt_size get_pt_off cut_pt okL_pt size_pt lenb_pt eta_pt ldV_pt ldA_pt stA_pt ldV_ptR ldA_ptR stA_ptR get_rc_kind get_rc_id get_rc_path cut_rc_sum get_rc_size get_rc_off cut_rc okL_rc size_rc lenb_rc eta_rc ldV_rc ldA_rc stA_rc ldV_rcR ldA_rcR stA_rcR get_tk_path cut_tk_sum get_tk_size get_tk_off cut_tk_old cut_tk okL_tk size_tk lenb_tk eta_tk ldV_tk ldA_tk stA_tk ldV_tkR ldA_tkR stA_tkR get_it_path get_it_dir get_it_size cut_it_sum cut_it okL_it size_it lenb_it eta_it ldV_it ldA_it stA_it bld_pt_01234 bld_pt_0123 bld_pt_z bld_ptR_01234 bld_ptR_0123 bld_ptR_z bld_rc_012345 bld_rc_015 bld_rc_01 bld_rc_z bld_rc_01234 bld_rc_24 bld_rc_05 bld_rc_0 bld_rcR_012345 bld_rcR_015 bld_rcR_01 bld_rcR_z bld_rcR_01234 bld_rcR_24 bld_rcR_05 bld_rcR_0 bld_tk_01234 bld_tk_0 bld_tk_z bld_tkR_01234 bld_tkR_0 bld_tkR_z bld_it_0123 bld_it_023 bld_it_01 bld_it_0 bld_it_z bs0_pt bs1_pt bs0_ptR bs1_ptR bs0_rc bs1_rc bs0_rcR bs1_rcR bs0_it bs1_it
theorem row_sum {W : World} {g : Nat} {r : Rc} (h : rowAt W ⟨g, 0, none⟩ 37 = some (rcL r)) : rowAt W ⟨g, 3, none⟩ 32 = some (hsL r.sum) := by
  refine rowAt_of (hsL_len _) fun j v hv => ?_
  have := (rowAt_some h).2 (3 + j) v (get_rc_sum r hv)
  rw [Addr.add_mid] at this ⊢
  rw [show 3 + j = 0 + (3 + j) by omega]; exact this
theorem hs_C {W : World} {b : Nat} {h : Hs} {t : TypeId} (hb : W.heap[b]? = some (.cells (hsL h).toArray t (0, 0))) : Kd.C (Kd.int .u8) W (some ⟨b, 0, none⟩) 32 (hsN h) := by
  refine ⟨hsN_len _, by decide, fun _ => ⟨_, rfl, fun j x hx => ⟨[.int .u8 x], rfl, rfl, fun i u hu => ?_⟩⟩⟩
  have hi : i = 0 := by
    have := (List.getElem?_eq_some_iff.1 hu).1
    simp at this; exact this
  subst hi
  have hz : (Kd.int .u8).sz = 1 := rfl
  have hu : Value.int .u8 x = u := by simpa using hu
  subst hu
  rw [hz, Addr.add_mid, cell_of_row _ _ _ _ _ _ hb, List.getElem?_toArray, show 0 + (j * 1 + 0) = j by omega]
  unfold hsL
  unfold hsN at hx
  rw [List.getElem?_map] at hx ⊢
  cases hb : h.1[j]? with
  | none => rw [hb] at hx; cases hx
  | some b =>
    rw [hb] at hx
    obtain rfl := Option.some.inj hx
    rfl
theorem own_lt {W : World} {B : Nat} {t : TypeId} {ok : Nat → Prop} {v : Value} {xs : List Int} (h : Kd.R (Kd.int .u8) t W B ok v xs) : ∀ b, v.ownBlock = some b → b < W.heap.size := by
  obtain ⟨_, inner, hown, _⟩ := h
  intro b hb
  rcases hown.2 with ⟨rfl, hn⟩ | ⟨g, cap, cur, rfl, _, hg, _⟩
  · cases hb
  · obtain rfl : g = b := Option.some.inj hb
    exact (Array.getElem?_eq_some_iff.1 hg).1
set_option linter.unusedVariables false in
set_option maxHeartbeats 4000000 in
set_option maxRecDepth 100000 in
theorem PutRBegin_calls (k : Nat) (r : Rc) (a tx z s t : List Int) (w : World) (hk : r.kind = 0) (hc : chkE r = 0) (ha : sumpterref02_Num.f k r.id = some a) (hx : sumpterref02_Text.f k r.path = some tx) (hz : sumpterref02_Num.f k r.size = some z) (hl : a.length ≤ 100 ∧ tx.length ≤ 1000 ∧ z.length ≤ 100)
    (hs : sumpterref03_Seal.f k ((([0] ++ a) ++ tx ++ hsN r.sum) ++ z) = some s) (ht : sumpterref02_Text.f k (strOfNums s) = some t) :
    Calls Tryd.prog 25 #[.agg (rcL r).toArray] w fun e w' => ∃ v : Value, e = .returned (.tuple #[v, .int .i64 0]) ∧ Kd.R (Kd.int .u8) 5 w' w.heap.size (fun _ => True) v t ∧ Below w.heap.size w w' := by
  obtain ⟨x1, hx1⟩ : ∃ x1, [0] ++ a = x1 := ⟨_, rfl⟩
  rw [hx1] at hs
  obtain ⟨x2, hx2⟩ : ∃ x2, x1 ++ tx = x2 := ⟨_, rfl⟩
  rw [hx2] at hs
  obtain ⟨x3, hx3⟩ : ∃ x3, x2 ++ hsN r.sum = x3 := ⟨_, rfl⟩
  rw [hx3] at hs
  obtain ⟨x4, hx4⟩ : ∃ x4, x3 ++ z = x4 := ⟨_, rfl⟩
  rw [hx4] at hs
  have HX1 := Aside0.mk hx1
  have HX2 := Aside0.mk hx2
  have HX3 := Aside0.mk hx3
  have HX4 := Aside0.mk hx4
  have HLL := Aside0.mk (show x1.length ≤ 101 by rw [← hx1, List.length_append, List.length_singleton]; omega)
  have HL2 := Aside0.mk (show x2.length ≤ 1101 by have := HLL.out; rw [← hx2, List.length_append]; omega)
  have HL3 := Aside0.mk (show x3.length ≤ 1133 by have := HL2.out; rw [← hx3, List.length_append, hsN_len]; omega)
  have hz0 : decide (r.kind = 0) = true := decide_eq_true hk
  have hy0 : (r.kind == 0) = true := by simp [hk]
  clear hx1 hx2 hx3 hx4
  have HC := Aside0.mk hc
  have HA := Aside0.mk ha
  have HTX0 := Aside0.mk hx
  have HZ := Aside0.mk hz
  have HS := Aside0.mk hs
  have HTX := Aside0.mk ht
  have HL := Aside0.mk hl
  clear hc ha hx hz hs ht hl
  go_enter Tryd.func25, Tryd.ntmps25
  go_wp2_with (first
    | (go_at_call 73; refine (CheckR_calls r _).mono ?_; rintro e w2 ⟨rfl, hb2⟩; rw [HC.out]; obtain ⟨hcl, hfz⟩ := bcell0 hb2; have c0 : w2.cell? ⟨w.heap.size, 0, none⟩ = some (.int .u8 r.kind) := (by rw [hcl _ _ (by simp)]; first | (go_simp; done) | (simp [*]; done)); have c1 : w2.cell? ⟨w.heap.size, 1, none⟩ = some (.int .i64 r.id) := (by rw [hcl _ _ (by simp)]; first | (go_simp; done) | (simp [*]; done)); have hr2 : rowAt w2 ⟨w.heap.size, 0, none⟩ 37 = some (rcL r) := (by rw [rowAt_below hb2 (by simp)]; first | (go_simp; done) | (simp [*]; done)); have HR2 := Aside0.mk hr2; have HB2 := Aside0.mk (Below.trans (below_alloc (Below.refl w.heap.size w) _) (hb2.mono (by simp))); have HS2 := Aside0.mk (show w.heap.size + 1 ≤ w2.heap.size from by have h_ := hb2.size; simpa using h_); clear hb2 hcl hfz))
  go_cut [5] (fun v5 wx => ∃ (A5 : Option Addr) (n5 : Nat), v5 = .slice A5 x1.length n5 ∧ Aside0 (Kd.R (Kd.int .u8) 5 wx (w.heap.size + 1) (fun _ => True) (.slice A5 x1.length n5) x1) ∧ Aside0 (Below (w.heap.size + 1) w2 wx))
  case first =>
    go_region_held3 (fun w' => w'.cell? ⟨w.heap.size, 0, none⟩ = some (.int .u8 r.kind) ∧ w'.cell? ⟨w.heap.size, 1, none⟩ = some (.int .i64 r.id)) (first | go_keep)
      (first
        | (go_at_call 74; refine (sumpterref02_Num.calls k r.id a _ HA.out).mono ?_; rintro e w4 ⟨v4, rfl, ho4, hb4⟩; obtain ⟨A4, n4, rfl⟩ := Kd.R_slice ho4;
            (first
              | have HX := Aside0.mk (And.intro (show Below (w.heap.size + 1) w2 w4 from Below.trans (below_drew (Below.alloc (Below.refl _ _) HS2.out _)) (hb4.mono (by have := HS2.out; simp; omega))) (Kd.R_below (Kd.R_drew (lit1_R w2 0 (w.heap.size + 1) HS2.out)) hb4))
              | have HX := Aside0.mk (And.intro (show Below (w.heap.size + 1) w2 w4 from Below.trans (below_drew (Below.refl _ _)) (hb4.mono (by have := HS2.out; simp; omega))) True.intro));
            have HO4 := Aside0.mk (Kd.R_lower (base' := w.heap.size + 1) ho4 (by have := HS2.out; simp; omega));
            have c40 : w4.cell? ⟨w.heap.size, 0, none⟩ = some (.int .u8 r.kind) := (HX.out.1.cell (p := ⟨w.heap.size, 0, none⟩) (by simp)).trans c0;
            have c41 : w4.cell? ⟨w.heap.size, 1, none⟩ = some (.int .i64 r.id) := (HX.out.1.cell (p := ⟨w.heap.size, 1, none⟩) (by simp)).trans c1;
            clear ho4 hb4)
        | ((with_reducible refine gate_stepb (b := .append) (xs := #[.tmp 14, .tmp 17]) rfl ?_);
            refine Kd.R_append_rows_step (Kd.int .u8) (w0 := w2) (w.heap.size + 1) rfl (.tmp 14) (.tmp 17) 22 5 (.int .u8 0) 1 rfl Tryd.underlying22 info5 rfl (by decide) (by decide) _ [0] a A4 a.length n4 (fun _ => True) (fun _ => False) rfl rfl ?aO ?aR (fun _ _ h => h) (fun _ h => h.elim) (fun _ _ => trivial) ?aB ?aS ?aL ?_;
            (case aO => first | exact HX.out.2 | exact lit1_R w4 0 (w.heap.size + 1) (by have h_ := HX.out.1.size; have := HS2.out; omega));
            (case aR => first | exact (Kd.R_reads' HO4.out).2.2 | exact Kd.C_below (Kd.R_reads' HO4.out).2.2 (below_alloc (Below.refl _ _) _));
            (case aB => first | exact HX.out.1 | exact Below.alloc HX.out.1 (by have h_ := HX.out.1.size; have := HS2.out; omega) _);
            (case aS => have h_ := HX.out.1.size; have := HS2.out; simp; omega);
            (case aL => have := HL.out; simp; omega);
            intro v5 w5 ho5 hb5 hg5 hat5;
            rw [HX1.out] at ho5;
            have HO5 := Aside0.mk ho5;
            have HB5 := Aside0.mk hb5;
            have c50 : w5.cell? ⟨w.heap.size, 0, none⟩ = some (.int .u8 r.kind) := (hb5.cell (p := ⟨w.heap.size, 0, none⟩) (by simp)).trans c0;
            have c51 : w5.cell? ⟨w.heap.size, 1, none⟩ = some (.int .i64 r.id) := (hb5.cell (p := ⟨w.heap.size, 1, none⟩) (by simp)).trans c1;
            clear ho5 hb5 hg5 hat5))
    all_goals
      obtain ⟨A5, n5, rfl⟩ := Kd.R_slice HO5.out
      go_wp2_with fail
      go_meet
      exact ⟨A5, n5, rfl, HO5, HB5⟩
  case rest =>
    obtain ⟨A5, n5, rfl, HO5, HB5⟩ := hcut
    have hrw : rowAt wc ⟨w.heap.size, 0, none⟩ 37 = some (rcL r) := by rw [rowAt_below HB5.out (by simp)]; exact HR2.out
    have k0 : wc.cell? ⟨w.heap.size, 0, none⟩ = some (.int .u8 r.kind) := (rowAt_some hrw).2 0 _ (get_rc_kind r)
    have k2 : wc.cell? ⟨w.heap.size, 2, none⟩ = some (.string r.path) := (rowAt_some hrw).2 2 _ (get_rc_path r)
    have k35 : wc.cell? ⟨w.heap.size, 35, none⟩ = some (.int .i64 r.size) := (rowAt_some hrw).2 35 _ (get_rc_size r)
    have ks : rowAt wc ⟨w.heap.size, 3, none⟩ 32 = some (hsL r.sum) := row_sum hrw
    have hzc : w.heap.size + 1 ≤ wc.heap.size := by have := HB5.out.size; have := HS2.out; omega
    have HNB := Aside0.mk (own_lt HO5.out)
    have HK2 := Aside0.mk k2
    have HK35 := Aside0.mk k35
    clear hrw hr2 c0 c1
    go_upto_region 8 with (fail)
    have hw6 : ∃ w6, wc.alloc (.cells (hsL r.sum).toArray 24) = w6 := ⟨_, rfl⟩
    obtain ⟨w6, hw6⟩ := hw6
    have HH6 := Aside0.mk (show w6.heap[wc.heap.size]? = some (.cells (hsL r.sum).toArray 24 (0, 0)) by rw [← hw6]; exact heap_alloc_new _ _)
    have HB6 := Aside0.mk (show Below wc.heap.size wc w6 by rw [← hw6]; exact below_alloc (Below.refl _ _) _)
    have HS6 := Aside0.mk (show w6.heap.size = wc.heap.size + 1 by rw [← hw6]; simp)
    first
      | rw [hw6]
      | skip
    have hb6 := HB6.out
    have k2 : w6.cell? ⟨w.heap.size, 2, none⟩ = some (.string r.path) := (hb6.cell (p := ⟨w.heap.size, 2, none⟩) (by show w.heap.size < _; omega)).trans HK2.out
    have k35 : w6.cell? ⟨w.heap.size, 35, none⟩ = some (.int .i64 r.size) := (hb6.cell (p := ⟨w.heap.size, 35, none⟩) (by show w.heap.size < _; omega)).trans HK35.out
    have HO6 := Aside0.mk (Kd.R_below HO5.out hb6)
    have HBB6 := Aside0.mk (Below.trans HB5.out (hb6.mono (by omega)))
    clear hw6 hb6
    go_region_held3 (fun w' => w'.cell? ⟨w.heap.size, 2, none⟩ = some (.string r.path)) (first | assumption | (refine (Below.cell (B := w.heap.size + 1) (p := ⟨w.heap.size, 2, none⟩) ?_ (by show w.heap.size < _; omega)).trans k2; (repeat' (first | exact HB9.out | exact HB8.out | exact HB7.out | (with_reducible exact Below.refl _ _) | (with_reducible refine below_drew ?_) | omega)); done))
      (first
      | (go_at_call 75; refine (sumpterref02_Text.calls k r.path tx _ HTX0.out).mono ?_; rintro e w7 ⟨v7, rfl, ho7, hb7⟩; obtain ⟨A7, n7, rfl⟩ := Kd.R_slice ho7; have HB7 := Aside0.mk (show Below (w.heap.size + 1) w6 w7 from Below.trans (by (repeat' (first | (with_reducible exact Below.refl _ _) | (with_reducible refine below_drew ?_)))) (hb7.mono (by first | (have := HS6.out; omega) | (have := HS6.out; simp; omega)))); have hs7 := HB7.out.size; have HX7 := Aside0.mk (Kd.R_below (Kd.R_drew HO6.out) hb7); have HH7 := Aside0.mk (show w7.heap[wc.heap.size]? = some (.cells (hsL r.sum).toArray 24 (0, 0)) from (hb7.block _ (by have := HS6.out; first | omega | (simp; omega))).trans HH6.out); have HR7 := Aside0.mk (Kd.R_reads' ho7); clear ho7 hb7)
      | ((with_reducible refine gate_stepb (b := .append) (xs := #[.tmp 25, .tmp 28]) rfl ?_);
          refine Kd.R_append_rows_step (Kd.int .u8) (w0 := w6) (w.heap.size + 1) rfl (.tmp 25) (.tmp 28) 22 5 (.int .u8 0) 1 rfl Tryd.underlying22 info5 rfl (by decide) (by decide) (.slice A5 x1.length n5) x1 tx A7 tx.length n7 (fun _ => True) (fun _ => False) rfl rfl HX7.out HR7.out.2.2 (fun _ _ h => h) (fun _ h => h.elim) (fun _ _ => trivial) HB7.out (by have := HS6.out; omega) ?aL8 ?_;
          (case aL8 => have h1_ := HL.out; have h2_ := HLL.out; omega);
          intro v8 w8 ho8 hb8 hg8 hat8;
          rw [HX2.out] at ho8;
          have HN8 := Aside0.mk (show some wc.heap.size ≠ v8.ownBlock from by
            intro e;
            rcases hat8 with h | ⟨b, h, hb⟩;
            · rw [h] at e; exact Nat.lt_irrefl _ (HNB.out _ e.symm);
            · rw [h] at e; injection e with e; have := HS6.out; omega);
          have HH8 := Aside0.mk (blk_grown HH7.out hg8 (by intro e; exact Nat.lt_irrefl _ (HNB.out _ e.symm)));
          obtain ⟨A8, n8, rfl⟩ := Kd.R_slice ho8;
          have HO8 := Aside0.mk ho8;
          have HB8 := Aside0.mk hb8;
          have hs8 := hb8.size;
          clear ho8 hb8 hg8 hat8)
      | ((with_reducible refine gate_stepb (b := .append) (xs := #[.tmp 29, .tmp 30]) rfl ?_);
          refine Kd.R_append_rows_step (Kd.int .u8) (w0 := w6) (w.heap.size + 1) rfl (.tmp 29) (.tmp 30) 22 5 (.int .u8 0) 1 rfl Tryd.underlying22 info5 rfl (by decide) (by decide) (.slice A8 x2.length n8) x2 (hsN r.sum) (some ⟨wc.heap.size, 0, none⟩) 32 32 (fun _ => True) (fun _ => False) rfl rfl HO8.out (hs_C HH8.out) (fun _ _ h => h) (fun _ h => h.elim) (fun _ _ => trivial) HB8.out (by have := HS6.out; omega) ?aL9 ?_;
          (case aL9 => have h1_ := HL2.out; omega);
          intro v9 w9 ho9 hb9 hg9 hat9;
          rw [HX3.out] at ho9;
          obtain ⟨A9, n9, rfl⟩ := Kd.R_slice ho9;
          have HO9 := Aside0.mk ho9;
          have HB9 := Aside0.mk hb9;
          clear ho9 hb9 hg9 hat9))
    all_goals
      have HBX := Aside0.mk (Below.trans HBB6.out HB9.out)
      have hs9 := HB9.out.size
      have k35 : w9.cell? ⟨w.heap.size, 35, none⟩ = some (.int .i64 r.size) := (HB9.out.cell (p := ⟨w.heap.size, 35, none⟩) (by show w.heap.size < _; omega)).trans k35
      go_wp2_with (first
        | (go_at_call 74; refine (sumpterref02_Num.calls k r.size z _ HZ.out).mono ?_; rintro e w10 ⟨v10, rfl, ho10, hb10⟩; obtain ⟨A10, n10, rfl⟩ := Kd.R_slice ho10;
            have HB10 := Aside0.mk (show Below (w.heap.size + 1) w2 w10 from Below.trans HBX.out (hb10.mono (by have := HS6.out; omega)));
            have hs10 := hb10.size;
            have HO10 := Aside0.mk (Kd.R_reads' ho10);
            have HX10 := Aside0.mk (Kd.R_below HO9.out hb10);
            clear ho10 hb10)
        | ((with_reducible refine gate_builtin (b := .append) (xs := #[.tmp 32, .tmp 35]) rfl ?_); at_builtin;
            refine Kd.R_append_rows (Kd.int .u8) (w0 := w2) (w.heap.size + 1) rfl (.tmp 32) (.tmp 35) 22 5 (.int .u8 0) 1 rfl Tryd.underlying22 info5 rfl (by decide) (by decide) (.slice A9 x3.length n9) x3 z A10 z.length n10 (fun _ => True) (fun _ => False) rfl rfl HX10.out HO10.out.2.2 (fun _ _ h => h) (fun _ h => h.elim) (fun _ _ => trivial) HB10.out (by have := HS6.out; omega) ?aL11 ?_;
            (case aL11 => have h1_ := HL3.out; have h2_ := HL.out; omega);
            intro v11 w11 ho11 hb11 hg11 hat11;
            rw [HX4.out] at ho11;
            obtain ⟨A11, n11, rfl⟩ := Kd.R_slice ho11;
            have HO11 := Aside0.mk ho11;
            have HB11 := Aside0.mk hb11;
            have hs11 := hb11.size;
            clear ho11 hb11 hg11 hat11)
        | (go_at_call 76; refine (sumpterref03_Seal.calls k A11 n11 x4 s _ (Kd.R_reads' HO11.out).2.2 (Kd.R_reads' HO11.out).2.1 HS.out).mono ?_; rintro e w12 ⟨v12, rfl, ho12, hb12⟩; obtain ⟨A12, n12, rfl⟩ := Kd.R_slice ho12;
            have HB12 := Aside0.mk (show Below (w.heap.size + 1) w2 w12 from Below.trans HB11.out (hb12.mono (by have h_ := HB11.out.size; have := HS2.out; omega)));
            have hcv := Kd.C_string (P := Tryd.prog) (src := 22) (dst := 9) (c := n12) Tryd.underlying22 Tryd.underlying5 Tryd.underlying9 (Kd.R_reads' ho12).2.2;
            clear ho12 hb12)
        | (go_at_call 75; refine (sumpterref02_Text.calls k (strOfNums s) t _ HTX.out).mono ?_; rintro e w13 ⟨v13, rfl, ho13, hb13⟩; obtain ⟨A13, n13, rfl⟩ := Kd.R_slice ho13;
            have HO13 := Aside0.mk (Kd.R_lower (base' := w.heap.size) ho13 (by have h_ := HB12.out.size; have := HS2.out; omega));
            have HB13 := Aside0.mk (show Below w.heap.size w w13 from Below.trans HB2.out ((Below.trans HB12.out (hb13.mono (by have h_ := HB12.out.size; have := HS2.out; omega))).mono (by omega)));
            clear ho13 hb13))
      go_ret2
      exact ⟨_, rfl, HO13.out, HB13.out⟩
end Go.Proofs.YtiohgpcbdefokaaDoor.B
/- sumpterref15.Put lays the bytes that record.Put lays. No condition. -/
namespace Go.Proofs.YtiohgpcbdefokaaDoor.B
open Go.RowKit Go.Proofs.YtiohgpcbdefokaaDoorW.PrintWords Go.Proofs.YtiohgpcbdefokaaDoor.RowLaws
attribute [local go_sem ↓ high] lvO_hs ldO_hs stO_hs lvO_pt ldO_pt stO_pt zero_pt eqA_pt lvO_ptR ldO_ptR stO_ptR zero_ptR eqA_ptR lvO_rc ldO_rc stO_rc zero_rc eqA_rc lvO_rcR ldO_rcR stO_rcR zero_rcR eqA_rcR lvO_tk ldO_tk stO_tk zero_tk eqA_tk lvO_tkR ldO_tkR stO_tkR zero_tkR eqA_tkR lvO_it ldO_it stO_it zero_it eqA_it blO_pt blO_ptR blO_rc blO_rcR blO_tk blO_tkR blO_it bsO_pt bsO_ptR bsO_rc bsO_rcR bsO_it
attribute [local go_sem high] rowAt_setCell rowAt_setRow cell_setRow_ne isRow_setRow_ne rowAt_alloc rowAt_drew isRow_alloc isRow_drew isRow_setCell rowRun_some okL_hs ldV_hs ldA_hs stA_hs setRow_alloc get_pt_id get_pt_path cut_pt_sum get_pt_size get_pt_off cut_pt okL_pt size_pt lenb_pt eta_pt ldV_pt ldA_pt stA_pt ldV_ptR ldA_ptR stA_ptR get_rc_kind get_rc_id get_rc_path cut_rc_sum get_rc_size get_rc_off cut_rc okL_rc size_rc lenb_rc eta_rc ldV_rc ldA_rc stA_rc ldV_rcR ldA_rcR stA_rcR get_tk_path cut_tk_sum get_tk_size get_tk_off cut_tk_old cut_tk okL_tk size_tk lenb_tk eta_tk ldV_tk ldA_tk stA_tk ldV_tkR ldA_tkR stA_tkR get_it_path get_it_dir get_it_size cut_it_sum cut_it okL_it size_it lenb_it eta_it ldV_it ldA_it stA_it bld_pt_01234 bld_pt_0123 bld_pt_z bld_ptR_01234 bld_ptR_0123 bld_ptR_z bld_rc_012345 bld_rc_015 bld_rc_01 bld_rc_z bld_rc_01234 bld_rc_24 bld_rc_05 bld_rc_0 bld_rcR_012345 bld_rcR_015 bld_rcR_01 bld_rcR_z bld_rcR_01234 bld_rcR_24 bld_rcR_05 bld_rcR_0 bld_tk_01234 bld_tk_0 bld_tk_z bld_tkR_01234 bld_tkR_0 bld_tkR_z bld_it_0123 bld_it_023 bld_it_01 bld_it_0 bld_it_z bs0_pt bs1_pt bs0_ptR bs1_ptR bs0_rc bs1_rc bs0_rcR bs1_rcR bs0_it bs1_it
set_option linter.unusedVariables false in
set_option maxHeartbeats 4000000 in
set_option maxRecDepth 100000 in
theorem PutRNot_calls (r : Rc) (w : World) (hc : ¬ chkE r = 0) :
    Calls Tryd.prog 25 #[.agg (rcL r).toArray] w fun e w' => e = .returned (.tuple #[.slice none 0 0, .int .i64 (chkE r)]) ∧ Below w.heap.size w w' := by
  have hd1 : decide (chkE r = 0) = false := decide_eq_false hc
  have hd2 : (chkE r != 0) = true := bne_iff_ne.2 hc
  clear hc
  go_enter Tryd.func25, Tryd.ntmps25
  go_wp2_with (go_at_call 73; refine (CheckR_calls r _).mono ?_; rintro e w2 ⟨rfl, hb2⟩; have HB2 := Aside0.mk (Below.trans (below_alloc (Below.refl w.heap.size w) _) (hb2.mono (by simp))); clear hb2)
  go_ret2
  exact ⟨rfl, HB2.out⟩
set_option linter.unusedVariables false in
theorem RPut_calls (r : Rc) (w : World) :
    Calls Tryd.prog 25 #[.agg (rcL r).toArray] w fun e w' => ∃ v : Value, e = .returned (.tuple #[v, .int .i64 (chkE r)]) ∧ Kd.R (Kd.int .u8) 5 w' w.heap.size (fun _ => True) v (putV r) ∧ Below w.heap.size w w' := by
  by_cases hc : chkE r = 0
  · have hf := chk_facts hc
    have hv : putV r = textL (CrcP.sealL (bodyL r)) := by unfold putV putL; rw [if_pos hc]
    rw [hv, hc]
    have hb := bodyL_len hf
    have hs := CrcP.ref_sealed 4000 (bodyL r) (by omega) (by omega)
    have ht := textR_k (strOfNums (CrcP.sealL (bodyL r))) (by have := seal_size hf; omega) 4000 (by decide)
    have hn := numR_k r.id hf.id 4000 (by decide)
    have hl := numL_len r.id
    by_cases h0 : r.kind = 0
    · have hz := numR_k r.size ⟨(hf.beg h0).2.1, by have := (hf.beg h0).2.2; omega⟩ 4000 (by decide)
      have hx := textR_k r.path (by have := (hf.beg h0).1; omega) 4000 (by decide)
      have hl2 := numL_len r.size
      have hl3 := numL_len (r.path.size : Int)
      have e : bodyL r = (([0] ++ numL r.id) ++ (numL r.path.size ++ bytesOf r.path) ++ hsN r.sum) ++ numL r.size := by unfold bodyL tailL; rw [if_pos h0, h0]; simp only [List.append_assoc]
      rw [e] at hs ht ⊢
      exact PutRBegin_calls 4000 r _ _ _ _ _ w h0 hc hn hx hz ⟨by omega, by have := (hf.beg h0).1; simp only [List.length_append, bytesOf_len]; omega, by omega⟩ hs ht
    · by_cases h1 : r.kind = 1
      · have ho := numR_k r.off ⟨hf.off.1, by have := hf.off.2; omega⟩ 4000 (by decide)
        have hl2 := numL_len r.off
        have e : bodyL r = ([1] ++ numL r.id) ++ numL r.off := by unfold bodyL tailL; rw [if_neg h0, if_pos h1, h1]
        rw [e] at hs ht ⊢
        exact PutRMark_calls 4000 r _ _ _ _ w h1 hc hn ho (by omega) hs ht
      · have e : bodyL r = [r.kind] ++ numL r.id := by unfold bodyL tailL; rw [if_neg h0, if_neg h1, List.append_nil]
        rw [e] at hs ht ⊢
        exact PutRBare_calls 4000 r _ _ _ w h0 h1 hc hn (by omega) hs ht
  · have hv : putV r = [] := by unfold putV; rw [if_neg hc]
    rw [hv]
    refine (PutRNot_calls r w hc).mono ?_
    rintro e w2 ⟨rfl, hb⟩
    exact ⟨_, rfl, Kd.R_nil _ _ _ _ _, hb⟩
end Go.Proofs.YtiohgpcbdefokaaDoor.B
/- field.Reader: what it has left, and its methods. No condition. -/
namespace Go.Proofs.YtiohgpcbdefokaaDoor.B
open Go.RowKit Go.Proofs.YtiohgpcbdefokaaDoorW.PrintWords Go.Proofs.YtiohgpcbdefokaaDoor.RowLaws
/-- A reader at block g: what is left, and its error. -/
def RdAt (w : World) (g : Nat) (l : List Int) (e : Int) : Prop := ∃ A c, w.heap[g]? = some (.cells #[.slice A l.length c, .int .i64 e] 162 (0, 0)) ∧ l.length ≤ c ∧ ∀ W, Only g w W → Kd.C (Kd.int .u8) W A l.length l
theorem RdAt.lt {w : World} {g : Nat} {l : List Int} {e : Int} (h : RdAt w g l e) : g < w.heap.size := by
  obtain ⟨A, c, h0, _⟩ := h
  exact (Array.getElem?_eq_some_iff.1 h0).1
theorem RdAt.below {w W : World} {g : Nat} {l : List Int} {e : Int} (h : RdAt w g l e) (hb : Below w.heap.size w W) : RdAt W g l e := by
  have hg := h.lt
  obtain ⟨A, c, h0, h1, h2⟩ := h
  exact ⟨A, c, (hb.block g hg).trans h0, h1, fun W' ho => h2 W' ((Only.of_below hb).trans ho)⟩
theorem rd_new {w : World} {A : Option Addr} {c : Nat} {l : List Int} (h : Kd.C (Kd.int .u8) w A l.length l) (hc : l.length ≤ c) : RdAt (w.alloc (.cells #[.slice A l.length c, .int .i64 0] 162)) w.heap.size l 0 :=
  ⟨A, c, heap_alloc_new _ _, hc, fun W ho => Kd.C_below h ((Below.alloc (Below.refl w.heap.size w) (Nat.le_refl _) _).trans (ho.below (Nat.le_refl _) (by simp)))⟩
theorem RdAt.err {w : World} {g : Nat} {l : List Int} {e : Int} (h : RdAt w g l e) (x : Int) : RdAt (w.setCell ⟨g, 1, none⟩ (.int .i64 x)) g l x := by
  obtain ⟨A, c, h0, h1, h2⟩ := h
  exact ⟨A, c, by rw [blk_set h0]; rfl, h1, fun W ho => h2 W (((Only.refl g w).setCell rfl _).trans ho)⟩
theorem RdAt.to {w : World} {g : Nat} {l l' : List Int} {e : Int} {A' : Option Addr} {c' : Nat} (h : RdAt w g l e) (hc : l'.length ≤ c') (h2 : ∀ W, Only g w W → Kd.C (Kd.int .u8) W A' l'.length l') : RdAt (w.setCell ⟨g, 0, none⟩ (.slice A' l'.length c')) g l' e := by
  obtain ⟨A, c, h0, h1, _⟩ := h
  exact ⟨A', c', by rw [blk_set h0]; rfl, hc, fun W ho => h2 W (((Only.refl g w).setCell rfl _).trans ho)⟩
/-- The reader's cells. -/
theorem RdAt.open {w : World} {g : Nat} {l : List Int} {e : Int} (h : RdAt w g l e) : ∃ A c, w.cell? ⟨g, 0, none⟩ = some (.slice A l.length c) ∧ w.cell? ⟨g, 1, none⟩ = some (.int .i64 e) ∧ w.frozen? ⟨g, 0, none⟩ = false ∧ w.frozen? ⟨g, 1, none⟩ = false ∧ l.length ≤ c ∧ ∀ W, Only g w W → Kd.C (Kd.int .u8) W A l.length l := by
  obtain ⟨A, c, h0, h1, h2⟩ := h
  exact ⟨A, c, cell_of_row _ _ _ _ _ _ h0, cell_of_row _ _ _ _ _ _ h0, blk_frozen h0 _, blk_frozen h0 _, h1, h2⟩
/-- Taking bytes off, in plain words. -/
def rawF (l : List Int) (e n : Int) : List Int × List Int × Int := if e = 0 then (if n < 0 then ([], l, 2) else if (l.length : Int) < n then ([], l, 3) else (l.take n.toNat, l.drop n.toNat, 0)) else ([], l, e)
set_option linter.unusedVariables false in
set_option maxHeartbeats 4000000 in
set_option maxRecDepth 100000 in
theorem fail_calls (g : Nat) (l : List Int) (x : Int) (w : World) (h : RdAt w g l 0) :
    Calls Tryd.prog 113 #[.pointer (some ⟨g, 0, none⟩), .int .i64 x] w fun e w' => e = .returned (.bool (!decide (x = 0))) ∧ RdAt w' g l x ∧ Only g w w' := by
  have HR := Aside0.mk h
  obtain ⟨A, c, k0, k1, f0, f1, _, _⟩ := h.open
  clear h
  by_cases hx : x = 0
  · subst hx
    go_enter Tryd.func113, Tryd.ntmps113
    go_wp2
    go_ret
    exact ⟨by simp, HR.out, Only.refl _ _⟩
  · have hd : decide (x = 0) = false := decide_eq_false hx
    have hn : (x != 0) = true := bne_iff_ne.2 hx
    clear hx
    go_enter Tryd.func113, Tryd.ntmps113
    go_wp2
    go_ret
    exact ⟨by rw [hd]; rfl, HR.out.err x, (Only.refl _ _).setCell rfl _⟩
set_option linter.unusedVariables false in
set_option maxHeartbeats 4000000 in
set_option maxRecDepth 100000 in
theorem Raw_calls (g : Nat) (l : List Int) (e n : Int) (w : World) (h : RdAt w g l e) :
    Calls Tryd.prog 90 #[.pointer (some ⟨g, 0, none⟩), .int .i64 n] w fun x w' => x = .returned (.string (strOfNums (rawF l e n).1)) ∧ RdAt w' g (rawF l e n).2.1 (rawF l e n).2.2 ∧ Only g w w' := by
  have HR := Aside0.mk h
  obtain ⟨A, c, k0, k1, f0, f1, hc, hC⟩ := h.open
  clear h
  by_cases he : e = 0
  · subst he
    by_cases hn : n < 0
    · have HF := Aside0.mk (show rawF l 0 n = ([], l, 2) by unfold rawF; rw [if_pos rfl, if_pos hn])
      have hd : decide (n < 0) = true := decide_eq_true hn
      clear hn hC
      go_enter Tryd.func90, Tryd.ntmps90
      go_wp2_with (go_at_call 113; refine (fail_calls g l 2 _ HR.out).mono ?_; rintro x2 w2 ⟨rfl, hr2, ho2⟩; have HR2 := Aside0.mk hr2; have HO2 := Aside0.mk ho2; clear hr2 ho2)
      go_ret
      exact ⟨by rw [HF.out]; rfl, by rw [HF.out]; exact HR2.out, HO2.out⟩
    · by_cases hl : (l.length : Int) < n
      · have HF := Aside0.mk (show rawF l 0 n = ([], l, 3) by unfold rawF; rw [if_pos rfl, if_neg hn, if_pos hl])
        have hd : decide (n < 0) = false := decide_eq_false hn
        have hd2 : decide ((l.length : Int) < n) = true := decide_eq_true hl
        clear hn hC hl
        go_enter Tryd.func90, Tryd.ntmps90
        go_wp2_with (go_at_call 113; refine (fail_calls g l 3 _ HR.out).mono ?_; rintro x2 w2 ⟨rfl, hr2, ho2⟩; have HR2 := Aside0.mk hr2; have HO2 := Aside0.mk ho2; clear hr2 ho2)
        go_ret
        exact ⟨by rw [HF.out]; rfl, by rw [HF.out]; exact HR2.out, HO2.out⟩
      · have HF := Aside0.mk (show rawF l 0 n = (l.take n.toNat, l.drop n.toNat, 0) by unfold rawF; rw [if_pos rfl, if_neg hn, if_neg hl])
        obtain ⟨i010, hi010, _, hsz10, _⟩ := info_parts info5
        obtain ⟨ht1, ht2, ht3⟩ := print_take_of (P := Tryd.prog) (Value.int .u8) 0 22 5 .i64 Tryd.underlying22 hi010 hsz10 A c l n (by omega) (by omega) hc
        obtain ⟨A2, hd1, hd2, hd3⟩ := print_drop_of (P := Tryd.prog) (Value.int .u8) 0 22 5 .i64 Tryd.underlying22 hi010 hsz10 A c l n (by omega) (by omega) hc
        obtain ⟨y1, hy1⟩ : ∃ y, l.take n.toNat = y := ⟨_, rfl⟩
        obtain ⟨y2, hy2⟩ : ∃ y, l.drop n.toNat = y := ⟨_, rfl⟩
        rw [hy1] at ht1 ht2 ht3 HF
        rw [hy2] at hd1 hd2 hd3 HF
        clear hy1 hy2
        have hcv := Kd.C_string (P := Tryd.prog) (src := 22) (dst := 9) (c := c) Tryd.underlying22 Tryd.underlying5 Tryd.underlying9 (Kd.C_of_reads (h1 := fun _ => rfl) (ht2 w (Kd.reads_of_C (hC w (Only.refl _ _)))))
        have HC2 := Aside0.mk (show ∀ W, Only g w W → Kd.C (Kd.int .u8) W A2 y2.length y2 from fun W ho => Kd.C_of_reads (h1 := fun _ => rfl) (hd2 W (Kd.reads_of_C (hC W ho))))
        have HC3 := Aside0.mk hd3
        have hcut1 := ht1 w
        have hcut2 := hd1 w
        have hd4 : decide (n < 0) = false := decide_eq_false hn
        have hd5 : decide ((l.length : Int) < n) = false := decide_eq_false hl
        clear hn hC hl ht1 ht2 ht3 hd1 hd2 hd3 hi010 hsz10 hc
        go_enter Tryd.func90, Tryd.ntmps90
        go_wp2
        go_ret
        exact ⟨by rw [HF.out]; rfl, by rw [HF.out]; exact HR.out.to HC3.out HC2.out, (Only.refl _ _).setCell rfl _⟩
  · have HF := Aside0.mk (show rawF l e n = ([], l, e) by unfold rawF; rw [if_neg he])
    have hd : decide (e = 0) = false := decide_eq_false he
    have hn : (e != 0) = true := bne_iff_ne.2 he
    clear he hC
    go_enter Tryd.func90, Tryd.ntmps90
    go_wp2
    go_ret
    exact ⟨by rw [HF.out]; rfl, by rw [HF.out]; exact HR.out, Only.refl _ _⟩
end Go.Proofs.YtiohgpcbdefokaaDoor.B
/- field.Reader: Byte, Num, Done. No condition. -/
namespace Go.Proofs.YtiohgpcbdefokaaDoor.B
open Go.RowKit Go.Proofs.YtiohgpcbdefokaaDoorW.PrintWords Go.Proofs.YtiohgpcbdefokaaDoor.RowLaws
/-- What comes behind a look at a number. -/
def lookF (n u e most : Int) : Int × Int × Int := if e = 0 ∧ most < n then (0, 0, 5) else (n, u, e)
set_option linter.unusedVariables false in
set_option maxHeartbeats 4000000 in
set_option maxRecDepth 100000 in
theorem look_calls (k g : Nat) (l : List Int) (e0 most n u e1 : Int) (w : World) (h : RdAt w g l e0) (hs : varint_Shortest.f k l = some (n, u, e1)) :
    Calls Tryd.prog 112 #[.pointer (some ⟨g, 0, none⟩), .int .i64 most] w fun x w' => x = .returned (.tuple #[.int .i64 (lookF n u e1 most).1, .int .i64 (lookF n u e1 most).2.1, .int .i64 (lookF n u e1 most).2.2]) ∧ Below w.heap.size w w' := by
  obtain ⟨A, c, k0, k1, f0, f1, hc, hC⟩ := h.open
  have HCC := Aside0.mk (hC w (Only.refl _ _))
  have HC0 := Aside0.mk hc
  have HS := Aside0.mk hs
  clear h hc hC hs
  by_cases h1 : e1 = 0
  · subst h1
    by_cases h2 : most < n
    · have HF := Aside0.mk (show lookF n u 0 most = (0, 0, 5) by unfold lookF; rw [if_pos ⟨rfl, h2⟩])
      have hd : decide (most < n) = true := decide_eq_true h2
      clear h2
      go_enter Tryd.func112, Tryd.ntmps112
      go_wp2_with (go_at_call 125; refine (varint_Shortest.calls k A c l n u 0 _ HCC.out HC0.out HS.out).mono ?_; rintro x w2 ⟨rfl, hb2⟩; have HB2 := Aside0.mk hb2; clear hb2)
      go_ret3
      exact ⟨by rw [HF.out]; rfl, HB2.out⟩
    · have HF := Aside0.mk (show lookF n u 0 most = (n, u, 0) by unfold lookF; rw [if_neg (fun h => h2 h.2)])
      have hd : decide (most < n) = false := decide_eq_false h2
      clear h2
      go_enter Tryd.func112, Tryd.ntmps112
      go_wp2_with (go_at_call 125; refine (varint_Shortest.calls k A c l n u 0 _ HCC.out HC0.out HS.out).mono ?_; rintro x w2 ⟨rfl, hb2⟩; have HB2 := Aside0.mk hb2; clear hb2)
      go_ret3
      exact ⟨by rw [HF.out]; rfl, HB2.out⟩
  · have HF := Aside0.mk (show lookF n u e1 most = (n, u, e1) by unfold lookF; rw [if_neg (fun h => h1 h.1)])
    have hd : decide (e1 = 0) = false := decide_eq_false h1
    have hn : (e1 != 0) = true := bne_iff_ne.2 h1
    have hn2 : (e1 == 0) = false := by simp [h1]
    clear h1
    go_enter Tryd.func112, Tryd.ntmps112
    go_wp2_with (go_at_call 125; refine (varint_Shortest.calls k A c l n u e1 _ HCC.out HC0.out HS.out).mono ?_; rintro x w2 ⟨rfl, hb2⟩; have HB2 := Aside0.mk hb2; clear hb2)
    go_ret3
    exact ⟨by rw [HF.out]; rfl, HB2.out⟩
def numP (n u e1 : Int) (l : List Int) (most : Int) : Int × List Int × Int := if (lookF n u e1 most).2.2 = 0 then ((lookF n u e1 most).1, l.drop (lookF n u e1 most).2.1.toNat, 0) else (0, l, (lookF n u e1 most).2.2)
set_option linter.unusedVariables false in
set_option maxHeartbeats 4000000 in
set_option maxRecDepth 100000 in
theorem Num_calls (k g : Nat) (l : List Int) (most n u e1 : Int) (w : World) (h : RdAt w g l 0) (hs : varint_Shortest.f k l = some (n, u, e1)) (hu : e1 = 0 → 0 ≤ u ∧ u ≤ l.length) :
    Calls Tryd.prog 65 #[.pointer (some ⟨g, 0, none⟩), .int .i64 most] w fun x w' => x = .returned (.int .i64 (numP n u e1 l most).1) ∧ RdAt w' g (numP n u e1 l most).2.1 (numP n u e1 l most).2.2 ∧ Only g w w' := by
  have HR := Aside0.mk h
  obtain ⟨A, c, k0, k1, f0, f1, hc, hC⟩ := h.open
  obtain ⟨⟨q1, q2, q3⟩, hq⟩ : ∃ q, lookF n u e1 most = q := ⟨_, rfl⟩
  have HL := Aside0.mk (look_calls k g l 0 most n u e1 w h hs)
  rw [hq] at HL
  simp only at HL
  have hlt := h.lt
  by_cases h3 : q3 = 0
  · subst h3
    have HF := Aside0.mk (show numP n u e1 l most = (q1, l.drop q2.toNat, 0) by unfold numP; rw [hq]; rfl)
    have hu2 : 0 ≤ q2 ∧ q2 ≤ l.length := by
      unfold lookF at hq
      split at hq
      · cases hq
      · injection hq with _ hq
        injection hq with hq1 hq2
        rw [← hq1]; exact hu hq2
    have HU := Aside0.mk hu2
    obtain ⟨y2, hy2⟩ : ∃ y, l.drop q2.toNat = y := ⟨_, rfl⟩
    rw [hy2] at HF
    have HY := Aside0.mk hy2
    clear h hs hu hq hu2 hy2 hc hC
    go_enter Tryd.func65, Tryd.ntmps65
    go_wp2_with (first
      | (go_at_call 112; refine HL.out.mono ?_; rintro x w2 ⟨rfl, hb2⟩; have HB2 := Aside0.mk hb2; have HR2 := Aside0.mk (HR.out.below hb2); clear hb2)
      | (go_at_call 113; refine (fail_calls g l 0 _ HR2.out).mono ?_; rintro x w3 ⟨rfl, hr3, ho3⟩; have HO3 := Aside0.mk ((Only.of_below HB2.out).trans ho3); have HR3 := Aside0.mk hr3; obtain ⟨A', c', m0, m1, g0, g1, hc', hC'⟩ := hr3.open;
          obtain ⟨A2, hd1, hd2, hd3⟩ := print_drop_of (P := Tryd.prog) (Value.int .u8) 0 22 5 .i64 Tryd.underlying22 (info_parts info5).choose_spec.1 (info_parts info5).choose_spec.2.2.1 A' c' l q2 HU.out.1 HU.out.2 hc';
          rw [HY.out] at hd1 hd2 hd3;
          have HC2 := Aside0.mk (show ∀ W, Only g w3 W → Kd.C (Kd.int .u8) W A2 y2.length y2 from fun W ho => Kd.C_of_reads (h1 := fun _ => rfl) (hd2 W (Kd.reads_of_C (hC' W ho))));
          have HC3 := Aside0.mk hd3;
          have hcut := hd1 w3;
          clear hr3 ho3 hc' hC' hd1 hd2 hd3))
    go_ret
    exact ⟨by rw [HF.out]; rfl, by rw [HF.out]; exact HR3.out.to HC3.out HC2.out, HO3.out.setCell rfl _⟩
  · have HF := Aside0.mk (show numP n u e1 l most = (0, l, q3) by unfold numP; rw [hq]; simp only; rw [if_neg h3])
    have hd : decide (q3 = 0) = false := decide_eq_false h3
    clear h hs hu hq hc hC h3
    go_enter Tryd.func65, Tryd.ntmps65
    go_wp2_with (first
      | (go_at_call 112; refine HL.out.mono ?_; rintro x w2 ⟨rfl, hb2⟩; have HB2 := Aside0.mk hb2; have HR2 := Aside0.mk (HR.out.below hb2); clear hb2)
      | (go_at_call 113; refine (fail_calls g l q3 _ HR2.out).mono ?_; rintro x w3 ⟨rfl, hr3, ho3⟩; have HO3 := Aside0.mk ((Only.of_below HB2.out).trans ho3); have HR3 := Aside0.mk hr3; clear hr3 ho3))
    go_ret
    exact ⟨by rw [HF.out]; rfl, by rw [HF.out]; exact HR3.out, HO3.out⟩
end Go.Proofs.YtiohgpcbdefokaaDoor.B
/- field.New; field.Reader: Byte, Err, Done. No condition. -/
namespace Go.Proofs.YtiohgpcbdefokaaDoor.B
open Go.RowKit Go.Proofs.YtiohgpcbdefokaaDoorW.PrintWords Go.Proofs.YtiohgpcbdefokaaDoor.RowLaws
set_option linter.unusedVariables false in
set_option maxHeartbeats 4000000 in
set_option maxRecDepth 100000 in
theorem New_calls (A : Option Addr) (c : Nat) (l : List Int) (w : World) (hC : Kd.C (Kd.int .u8) w A l.length l) (hc : l.length ≤ c) :
    Calls Tryd.prog 62 #[.slice A l.length c] w fun x w' => x = .returned (.pointer (some ⟨w.heap.size, 0, none⟩)) ∧ RdAt w' w.heap.size l 0 ∧ Below w.heap.size w w' := by
  have HC := Aside0.mk (rd_new hC hc)
  clear hC hc
  go_enter Tryd.func62, Tryd.ntmps62
  go_wp2
  go_ret
  exact ⟨rfl, HC.out, below_alloc (Below.refl _ _) _⟩
set_option linter.unusedVariables false in
set_option maxHeartbeats 4000000 in
set_option maxRecDepth 100000 in
theorem Byte_calls (g : Nat) (x : Int) (l : List Int) (w : World) (h : RdAt w g (x :: l) 0) (h0 : 0 ≤ x) (h1 : x < 256) :
    Calls Tryd.prog 89 #[.pointer (some ⟨g, 0, none⟩)] w fun e w' => e = .returned (.int .u8 x) ∧ RdAt w' g l 0 ∧ Only g w w' := by
  have HF := Aside0.mk (show rawF (x :: l) 0 1 = ([x], l, 0) by unfold rawF; rw [if_pos rfl, if_neg (by decide), if_neg (by simp only [List.length_cons]; omega)]; rfl)
  have HRW := Aside0.mk (Raw_calls g (x :: l) 0 1 w h)
  rw [HF.out] at HRW
  have hs : strOfNums [x] = ⟨#[x.toNat.toUInt8]⟩ := rfl
  have hx : ((x.toNat.toUInt8).toNat : Int) = x := by
    rw [UInt8.toNat_ofNat']
    omega
  have HX := Aside0.mk hx
  rw [hs] at HRW
  clear h h0 h1 HF hs hx
  go_enter Tryd.func89, Tryd.ntmps89
  go_wp2_with (go_at_call 90; refine HRW.out.mono ?_; rintro e w2 ⟨rfl, hr2, ho2⟩; have HR2 := Aside0.mk hr2; have HO2 := Aside0.mk ho2; clear hr2 ho2)
  go_ret
  exact ⟨show Ending.returned (Value.int .u8 ((x.toNat.toUInt8).toNat : Int)) = _ by rw [HX.out], HR2.out, HO2.out⟩
set_option linter.unusedVariables false in
set_option maxHeartbeats 4000000 in
set_option maxRecDepth 100000 in
theorem Err_calls (g : Nat) (l : List Int) (e : Int) (w : World) (h : RdAt w g l e) :
    Calls Tryd.prog 114 #[.pointer (some ⟨g, 0, none⟩)] w fun x w' => x = .returned (.int .i64 e) ∧ Below w.heap.size w w' := by
  obtain ⟨A, c, k0, k1, f0, f1, hc, hC⟩ := h.open
  clear h hc hC
  go_enter Tryd.func114, Tryd.ntmps114
  go_wp2
  go_ret
  exact ⟨rfl, Below.refl _ _⟩
def doneF (l : List Int) (e : Int) : Int := if e = 0 then (if l = [] then 0 else 4) else e
set_option linter.unusedVariables false in
set_option maxHeartbeats 4000000 in
set_option maxRecDepth 100000 in
theorem Done_calls (g : Nat) (l : List Int) (e : Int) (w : World) (h : RdAt w g l e) :
    Calls Tryd.prog 66 #[.pointer (some ⟨g, 0, none⟩)] w fun x w' => x = .returned (.int .i64 (doneF l e)) ∧ Below w.heap.size w w' := by
  have HR := Aside0.mk h
  have HE := Aside0.mk (Err_calls g l e w h)
  clear h
  by_cases he : e = 0
  · subst he
    cases l with
    | nil =>
      go_enter Tryd.func66, Tryd.ntmps66
      go_wp2_with (go_at_call 114; refine HE.out.mono ?_; rintro x w2 ⟨rfl, hb2⟩; have HB2 := Aside0.mk hb2; obtain ⟨A, c, k0, k1, f0, f1, _, _⟩ := (HR.out.below hb2).open; clear hb2)
      go_ret
      exact ⟨rfl, HB2.out⟩
    | cons y l =>
      have HF := Aside0.mk (show doneF (y :: l) 0 = 4 by unfold doneF; rw [if_pos rfl, if_neg (by simp)])
      have hl : (0 : Int) < ((y :: l).length : Int) := by simp only [List.length_cons]; omega
      obtain ⟨n, hn⟩ : ∃ n, (y :: l).length = n := ⟨_, rfl⟩
      rw [hn] at hl
      have HN := Aside0.mk hn
      clear hn
      go_enter Tryd.func66, Tryd.ntmps66
      go_wp2_with (go_at_call 114; refine HE.out.mono ?_; rintro x w2 ⟨rfl, hb2⟩; have HB2 := Aside0.mk hb2; obtain ⟨A, c, k0, k1, f0, f1, _, _⟩ := (HR.out.below hb2).open; rw [HN.out] at k0; clear hb2)
      go_ret
      exact ⟨by rw [HF.out]; rfl, HB2.out⟩
  · have HF := Aside0.mk (show doneF l e = e by unfold doneF; rw [if_neg he])
    have hd : decide (e = 0) = false := decide_eq_false he
    have hn : (e != 0) = true := bne_iff_ne.2 he
    clear he
    go_enter Tryd.func66, Tryd.ntmps66
    go_wp2_with (go_at_call 114; refine HE.out.mono ?_; rintro x w2 ⟨rfl, hb2⟩; have HB2 := Aside0.mk hb2; clear hb2)
    go_ret
    exact ⟨by rw [HF.out]; rfl, HB2.out⟩
end Go.Proofs.YtiohgpcbdefokaaDoor.B
/- slices.IndexFunc over parts, by the two predicates that record uses. No condition. -/
namespace Go.Proofs.YtiohgpcbdefokaaDoor.B
open Go.RowKit Go.Proofs.YtiohgpcbdefokaaDoorW.PrintWords
attribute [local go_sem ↓ high] lvO_hs ldO_hs stO_hs lvO_pt ldO_pt stO_pt zero_pt eqA_pt lvO_ptR ldO_ptR stO_ptR zero_ptR eqA_ptR lvO_rc ldO_rc stO_rc zero_rc eqA_rc lvO_rcR ldO_rcR stO_rcR zero_rcR eqA_rcR lvO_tk ldO_tk stO_tk zero_tk eqA_tk lvO_tkR ldO_tkR stO_tkR zero_tkR eqA_tkR lvO_it ldO_it stO_it zero_it eqA_it blO_pt blO_ptR blO_rc blO_rcR blO_tk blO_tkR blO_it bsO_pt bsO_ptR bsO_rc bsO_rcR bsO_it
attribute [local go_sem high] rowAt_setCell rowAt_setRow cell_setRow_ne isRow_setRow_ne rowAt_alloc rowAt_drew isRow_alloc isRow_drew isRow_setCell rowRun_some okL_hs ldV_hs ldA_hs stA_hs setRow_alloc get_pt_id get_pt_path cut_pt_sum get_pt_size get_pt_off cut_pt okL_pt size_pt lenb_pt eta_pt ldV_pt ldA_pt stA_pt ldV_ptR ldA_ptR stA_ptR get_rc_kind get_rc_id get_rc_path cut_rc_sum get_rc_size get_rc_off cut_rc okL_rc size_rc lenb_rc eta_rc ldV_rc ldA_rc stA_rc ldV_rcR ldA_rcR stA_rcR get_tk_path cut_tk_sum get_tk_size get_tk_off cut_tk_old cut_tk okL_tk size_tk lenb_tk eta_tk ldV_tk ldA_tk stA_tk ldV_tkR ldA_tkR stA_tkR get_it_path get_it_dir get_it_size cut_it_sum cut_it okL_it size_it lenb_it eta_it ldV_it ldA_it stA_it bld_pt_01234 bld_pt_0123 bld_pt_z bld_ptR_01234 bld_ptR_0123 bld_ptR_z bld_rc_012345 bld_rc_015 bld_rc_01 bld_rc_z bld_rc_01234 bld_rc_24 bld_rc_05 bld_rc_0 bld_rcR_012345 bld_rcR_015 bld_rcR_01 bld_rcR_z bld_rcR_01234 bld_rcR_24 bld_rcR_05 bld_rcR_0 bld_tk_01234 bld_tk_0 bld_tk_z bld_tkR_01234 bld_tkR_0 bld_tkR_z bld_it_0123 bld_it_023 bld_it_01 bld_it_0 bld_it_z bs0_pt bs1_pt bs0_ptR bs1_ptR bs0_rc bs1_rc bs0_rcR bs1_rcR bs0_it bs1_it
/-- The place of the first, or -1. -/
def fstI {α : Type} (p : α → Bool) (l : List α) : Int := match l.findIdx? p with
  | some i => i
  | none => -1
theorem fstI_hit {α : Type} {p : α → Bool} {l : List α} {k : Nat} {x : α} (hx : l[k]? = some x) (hp : p x = true) (hn : ∀ j, j < k → ∀ y, l[j]? = some y → p y = false) : fstI p l = k := by
  unfold fstI
  have hk := (List.getElem?_eq_some_iff.1 hx)
  have : l.findIdx? p = some k := by
    rw [List.findIdx?_eq_some_iff_getElem]
    refine ⟨hk.1, by rw [hk.2]; exact hp, fun j hj => ?_⟩
    have := hn j hj _ (List.getElem?_eq_getElem (show j < l.length by have := hk.1; omega))
    simpa using this
  rw [this]
theorem fstI_none {α : Type} {p : α → Bool} {l : List α} (hn : ∀ j, j < l.length → ∀ y, l[j]? = some y → p y = false) : fstI p l = -1 := by
  unfold fstI
  have : l.findIdx? p = none := by
    rw [List.findIdx?_eq_none_iff]
    intro x hx
    obtain ⟨j, hj, rfl⟩ := List.getElem_of_mem hx
    exact hn j hj _ (List.getElem?_eq_getElem hj)
  rw [this]
set_option maxRecDepth 100000 in
set_option maxHeartbeats 4000000 in
theorem byId (x : Pt) (id : Int) (g : Nat) (w : World) (h : w.cell? ⟨g, 1, none⟩ = some (.int .i64 id)) :
    Calls Tryd.prog 81 #[.agg (ptL x).toArray, .pointer (some ⟨g, 0, none⟩)] w fun e w' => e = .returned (.bool (decide (x.id = id))) ∧ Below w.heap.size w w' := by
  have hg := World.block_lt_of_cell? _ _ h
  have hn : ¬ g = w.heap.size := by have : g < w.heap.size := hg; omega
  go_enter Tryd.func81, Tryd.ntmps81
  go_wp2
  go_ret
  exact ⟨rfl, below_alloc (Below.refl _ _) _⟩
set_option maxRecDepth 100000 in
set_option maxHeartbeats 4000000 in
theorem byPath (x : Pt) (p : ByteArray) (g : Nat) (w : World) (h : w.cell? ⟨g, 0, none⟩ = some (.string p)) :
    Calls Tryd.prog 84 #[.agg (ptL x).toArray, .pointer (some ⟨g, 0, none⟩)] w fun e w' => e = .returned (.bool (decide (x.path = p))) ∧ Below w.heap.size w w' := by
  have hg := World.block_lt_of_cell? _ _ h
  have hn : ¬ g = w.heap.size := by have : g < w.heap.size := hg; omega
  go_enter Tryd.func84, Tryd.ntmps84
  go_wp2
  go_ret
  exact ⟨by rw [str_eq]; rfl, below_alloc (Below.refl _ _) _⟩
set_option maxRecDepth 100000 in
set_option maxHeartbeats 4000000 in
theorem idx_id (A : Option Addr) (c : Nat) (l : List Pt) (id : Int) (g : Nat) (w : World) (hC : Kd.C kPt w A l.length l) (hlen : l.length ≤ 1000) (h : w.cell? ⟨g, 1, none⟩ = some (.int .i64 id)) :
    Calls Tryd.prog 80 #[.slice A l.length c, .func (.func 81) #[] #[.pointer (some ⟨g, 0, none⟩)]] w fun e w' => e = .returned (.int .i64 (fstI (fun x => decide (x.id = id)) l)) ∧ Below w.heap.size w w' := by
  have hg := World.block_lt_of_cell? _ _ h
  have HC := Aside0.mk hC
  have HH := Aside0.mk h
  have HG := Aside0.mk hg
  clear hC h hg
  go_enter Tryd.func80, Tryd.ntmps80
  go_wp2
  go_loopw [8] (fun i wr => ∃ k : Nat, k ≤ l.length ∧ i = .int .i64 k ∧ Aside0 (Below w.heap.size w wr) ∧ Aside0 (∀ j, j < k → ∀ x, l[j]? = some x → decide (x.id = id) = false)) (fun i _ => l.length - (intOf i).toNat)
  case atStart => exact ⟨0, Nat.zero_le _, rfl, ⟨Below.refl _ _⟩, ⟨fun j hj => by omega⟩⟩
  case round =>
    obtain ⟨k, hk, rfl, HB, HN⟩ := hrel
    by_cases hlt : k < l.length
    · obtain ⟨b, o, hA, hb, hr⟩ := flat_at HC.out (by decide) (by omega)
      subst hA
      obtain ⟨hrow, _⟩ := hr k hlt
      rw [← rowAt_below HB.out hb] at hrow
      have HX := Aside0.mk (show l[k]? = some l[k] from List.getElem?_eq_getElem hlt)
      obtain ⟨x, hx⟩ : ∃ x, x = l[k] := ⟨_, rfl⟩
      rw [← hx] at hrow HX
      clear hr hx
      by_cases hp : x.id = id
      · have HP := Aside0.mk (decide_eq_true hp)
        clear hp
        go_wp2_with (go_at_call 81; refine (byId x _ g _ ((HB.out.cell HG.out).trans HH.out)).mono ?_; rintro e w2 ⟨rfl, hb2⟩; rw [HP.out]; have HB2 := Aside0.mk (below_step HB.out hb2); clear hb2)
        go_ret
        exact ⟨by rw [fstI_hit HX.out HP.out HN.out]; rfl, HB2.out⟩
      · have HP := Aside0.mk (decide_eq_false hp)
        clear hp
        go_wp2_with (go_at_call 81; refine (byId x _ g _ ((HB.out.cell HG.out).trans HH.out)).mono ?_; rintro e w2 ⟨rfl, hb2⟩; rw [HP.out]; have HB2 := Aside0.mk (below_step HB.out hb2); clear hb2)
        go_roundw
        case rel =>
          refine ⟨k + 1, by omega, by simp, HB2, ⟨fun j hj y hy => ?_⟩⟩
          by_cases hjk : j = k
          · subst hjk
            have := HX.out.symm.trans hy
            injection this with this
            subst this
            exact HP.out
          · exact HN.out j (by omega) y hy
        case measure => simp [intOf]; omega
    · have hk2 : k = l.length := by omega
      subst hk2
      go_wp2
      go_ret
      exact ⟨by rw [fstI_none HN.out]; rfl, HB.out⟩
set_option maxRecDepth 100000 in
set_option maxHeartbeats 4000000 in
theorem idx_path (A : Option Addr) (c : Nat) (l : List Pt) (p : ByteArray) (g : Nat) (w : World) (hC : Kd.C kPt w A l.length l) (hlen : l.length ≤ 1000) (h : w.cell? ⟨g, 0, none⟩ = some (.string p)) :
    Calls Tryd.prog 80 #[.slice A l.length c, .func (.func 84) #[] #[.pointer (some ⟨g, 0, none⟩)]] w fun e w' => e = .returned (.int .i64 (fstI (fun x => decide (x.path = p)) l)) ∧ Below w.heap.size w w' := by
  have hg := World.block_lt_of_cell? _ _ h
  have HC := Aside0.mk hC
  have HH := Aside0.mk h
  have HG := Aside0.mk hg
  clear hC h hg
  go_enter Tryd.func80, Tryd.ntmps80
  go_wp2
  go_loopw [8] (fun i wr => ∃ k : Nat, k ≤ l.length ∧ i = .int .i64 k ∧ Aside0 (Below w.heap.size w wr) ∧ Aside0 (∀ j, j < k → ∀ x, l[j]? = some x → decide (x.path = p) = false)) (fun i _ => l.length - (intOf i).toNat)
  case atStart => exact ⟨0, Nat.zero_le _, rfl, ⟨Below.refl _ _⟩, ⟨fun j hj => by omega⟩⟩
  case round =>
    obtain ⟨k, hk, rfl, HB, HN⟩ := hrel
    by_cases hlt : k < l.length
    · obtain ⟨b, o, hA, hb, hr⟩ := flat_at HC.out (by decide) (by omega)
      subst hA
      obtain ⟨hrow, _⟩ := hr k hlt
      rw [← rowAt_below HB.out hb] at hrow
      have HX := Aside0.mk (show l[k]? = some l[k] from List.getElem?_eq_getElem hlt)
      obtain ⟨x, hx⟩ : ∃ x, x = l[k] := ⟨_, rfl⟩
      rw [← hx] at hrow HX
      clear hr hx
      by_cases hp : x.path = p
      · have HP := Aside0.mk (decide_eq_true hp)
        clear hp
        go_wp2_with (go_at_call 84; refine (byPath x _ g _ ((HB.out.cell HG.out).trans HH.out)).mono ?_; rintro e w2 ⟨rfl, hb2⟩; rw [HP.out]; have HB2 := Aside0.mk (below_step HB.out hb2); clear hb2)
        go_ret
        exact ⟨by rw [fstI_hit HX.out HP.out HN.out]; rfl, HB2.out⟩
      · have HP := Aside0.mk (decide_eq_false hp)
        clear hp
        go_wp2_with (go_at_call 84; refine (byPath x _ g _ ((HB.out.cell HG.out).trans HH.out)).mono ?_; rintro e w2 ⟨rfl, hb2⟩; rw [HP.out]; have HB2 := Aside0.mk (below_step HB.out hb2); clear hb2)
        go_roundw
        case rel =>
          refine ⟨k + 1, by omega, by simp, HB2, ⟨fun j hj y hy => ?_⟩⟩
          by_cases hjk : j = k
          · subst hjk
            have := HX.out.symm.trans hy
            injection this with this
            subst this
            exact HP.out
          · exact HN.out j (by omega) y hy
        case measure => simp [intOf]; omega
    · have hk2 : k = l.length := by omega
      subst hk2
      go_wp2
      go_ret
      exact ⟨by rw [fstI_none HN.out]; rfl, HB.out⟩
end Go.Proofs.YtiohgpcbdefokaaDoor.B
/- record.Find: which part a path is. No condition. -/
namespace Go.Proofs.YtiohgpcbdefokaaDoor.B
open Go.RowKit Go.Proofs.YtiohgpcbdefokaaDoorW.PrintWords
attribute [local go_sem ↓ high] lvO_hs ldO_hs stO_hs lvO_pt ldO_pt stO_pt zero_pt eqA_pt lvO_ptR ldO_ptR stO_ptR zero_ptR eqA_ptR lvO_rc ldO_rc stO_rc zero_rc eqA_rc lvO_rcR ldO_rcR stO_rcR zero_rcR eqA_rcR lvO_tk ldO_tk stO_tk zero_tk eqA_tk lvO_tkR ldO_tkR stO_tkR zero_tkR eqA_tkR lvO_it ldO_it stO_it zero_it eqA_it blO_pt blO_ptR blO_rc blO_rcR blO_tk blO_tkR blO_it bsO_pt bsO_ptR bsO_rc bsO_rcR bsO_it
attribute [local go_sem high] rowAt_setCell rowAt_setRow cell_setRow_ne isRow_setRow_ne rowAt_alloc rowAt_drew isRow_alloc isRow_drew isRow_setCell rowRun_some okL_hs ldV_hs ldA_hs stA_hs setRow_alloc get_pt_id get_pt_path cut_pt_sum get_pt_size get_pt_off cut_pt okL_pt size_pt lenb_pt eta_pt ldV_pt ldA_pt stA_pt ldV_ptR ldA_ptR stA_ptR get_rc_kind get_rc_id get_rc_path cut_rc_sum get_rc_size get_rc_off cut_rc okL_rc size_rc lenb_rc eta_rc ldV_rc ldA_rc stA_rc ldV_rcR ldA_rcR stA_rcR get_tk_path cut_tk_sum get_tk_size get_tk_off cut_tk_old cut_tk okL_tk size_tk lenb_tk eta_tk ldV_tk ldA_tk stA_tk ldV_tkR ldA_tkR stA_tkR get_it_path get_it_dir get_it_size cut_it_sum cut_it okL_it size_it lenb_it eta_it ldV_it ldA_it stA_it bld_pt_01234 bld_pt_0123 bld_pt_z bld_ptR_01234 bld_ptR_0123 bld_ptR_z bld_rc_012345 bld_rc_015 bld_rc_01 bld_rc_z bld_rc_01234 bld_rc_24 bld_rc_05 bld_rc_0 bld_rcR_012345 bld_rcR_015 bld_rcR_01 bld_rcR_z bld_rcR_01234 bld_rcR_24 bld_rcR_05 bld_rcR_0 bld_tk_01234 bld_tk_0 bld_tk_z bld_tkR_01234 bld_tkR_0 bld_tkR_z bld_it_0123 bld_it_023 bld_it_01 bld_it_0 bld_it_z bs0_pt bs1_pt bs0_ptR bs1_ptR bs0_rc bs1_rc bs0_rcR bs1_rcR bs0_it bs1_it
theorem fstI_cases {α : Type} (p : α → Bool) (l : List α) : (fstI p l = -1 ∧ ∀ x ∈ l, p x = false) ∨ ∃ i x, fstI p l = ((i : Nat) : Int) ∧ l[i]? = some x ∧ p x = true ∧ ∀ j, j < i → ∀ y, l[j]? = some y → p y = false := by
  unfold fstI
  cases h : l.findIdx? p with
  | none => exact .inl ⟨rfl, by rw [List.findIdx?_eq_none_iff] at h; exact h⟩
  | some i =>
    rw [List.findIdx?_eq_some_iff_getElem] at h
    obtain ⟨h1, h2, h3⟩ := h
    refine .inr ⟨i, l[i], rfl, List.getElem?_eq_getElem h1, h2, fun j hj y hy => ?_⟩
    have := h3 j hj
    rw [List.getElem?_eq_getElem (by omega)] at hy
    injection hy with hy
    rw [← hy]; simpa using this
/-- The part of a path. -/
def findP (l : List Pt) (p : ByteArray) : Pt × Bool := match l.find? (fun x => decide (x.path = p)) with
  | some x => (x, true)
  | none => (Pt.zero, false)
theorem findP_none {l : List Pt} {p : ByteArray} (h : ∀ x ∈ l, decide (x.path = p) = false) : findP l p = (Pt.zero, false) := by
  unfold findP
  rw [List.find?_eq_none.2 (fun x hx => by rw [h x hx]; decide)]
theorem findP_some {l : List Pt} {p : ByteArray} {i : Nat} {x : Pt} (hx : l[i]? = some x) (hp : decide (x.path = p) = true) (hn : ∀ j, j < i → ∀ y, l[j]? = some y → decide (y.path = p) = false) : findP l p = (x, true) := by
  unfold findP
  have hi := List.getElem?_eq_some_iff.1 hx
  have : l.find? (fun x => decide (x.path = p)) = some x := by
    rw [List.find?_eq_some_iff_getElem]
    refine ⟨hp, i, hi.1, hi.2, fun j hj => ?_⟩
    have := hn j hj _ (List.getElem?_eq_getElem (show j < l.length by have := hi.1; omega))
    simpa using this
  rw [this]
set_option maxRecDepth 100000 in
set_option maxHeartbeats 4000000 in
theorem Find_calls (A : Option Addr) (c : Nat) (l : List Pt) (nx : Int) (p : ByteArray) (w : World) (hC : Kd.C kPt w A l.length l) (hlen : l.length ≤ 1000) :
    Calls Tryd.prog 33 #[.agg #[.slice A l.length c, .int .i64 nx], .string p] w fun e w' => e = .returned (.tuple #[.agg (ptL (findP l p).1).toArray, .bool (findP l p).2]) ∧ Below w.heap.size w w' := by
  have HC := Aside0.mk hC
  rcases fstI_cases (fun x : Pt => decide (x.path = p)) l with ⟨hi, hn⟩ | ⟨i, x, hi, hx, hp, hn⟩
  · have HI := Aside0.mk hi
    have HF := Aside0.mk (findP_none hn)
    clear hC hi hn
    go_enter Tryd.func33, Tryd.ntmps33
    go_wp2_with (go_at_call 80; refine (idx_path A c l p _ _ (Kd.C_below HC.out ?_) hlen ?_).mono ?_; (exact below_alloc (below_alloc (below_alloc (Below.refl _ _) _) _) _); (go_simp); rintro e w2 ⟨rfl, hb2⟩; rw [HI.out]; have hr2 : isRow w2 (w.heap.size + 1 + 1) 36 = true := (by rw [isRow_below hb2 (by simp)]; go_simp); have HB2 := Aside0.mk (Below.trans (below_alloc (below_alloc (below_alloc (Below.refl w.heap.size w) _) _) _) (hb2.mono (by simp; omega))); clear hb2)
    refine bodyPost_ret (v := .tuple #[.agg (ptL Pt.zero).toArray, .bool false]) (res2 rfl rfl (lv_pt (by rw [rowAt_setRow_same hr2 _ _ _ (by decide), cut_pt]; rfl)) rfl) rfl ⟨by rw [HF.out], below_setRow HB2.out (by omega) _⟩
  · have HI := Aside0.mk hi
    have HF := Aside0.mk (findP_some hx hp hn)
    have hil := (List.getElem?_eq_some_iff.1 hx)
    obtain ⟨b, o, hA, hb, hr⟩ := flat_at hC (by decide) (Nat.lt_of_le_of_lt (Nat.zero_le _) hil.1)
    subst hA
    have hrow := (hr i hil.1).1
    rw [hil.2] at hrow
    have hil := hil.1
    have HR := Aside0.mk hrow
    clear hC hi hn hx hp hr hrow
    go_enter Tryd.func33, Tryd.ntmps33
    go_wp2_with (go_at_call 80; refine (idx_path _ c l p _ _ (Kd.C_below HC.out ?_) hlen ?_).mono ?_; (exact below_alloc (below_alloc (below_alloc (Below.refl _ _) _) _) _); (go_simp); rintro e w2 ⟨rfl, hb2⟩; rw [HI.out]; have hr2 : isRow w2 (w.heap.size + 1 + 1) 36 = true := (by rw [isRow_below hb2 (by simp)]; go_simp); have hc2 : w2.cell? ⟨w.heap.size, 0, none⟩ = some (.slice (some ⟨b, o, none⟩) l.length c) := (by rw [hb2.cell (p := ⟨w.heap.size, 0, none⟩) (by simp; omega)]; go_simp); have hb3 := (Below.trans (below_alloc (below_alloc (below_alloc (Below.refl w.heap.size w) _) _) _) (hb2.mono (by simp; omega))); have hx2 := HR.out; rw [← rowAt_below hb3 hb] at hx2; have HB2 := Aside0.mk hb3; clear hb2 hb3)
    refine bodyPost_ret (v := .tuple #[.agg (ptL x).toArray, .bool true]) (res2 rfl rfl (lv_pt (by rw [rowAt_setRow_same hr2 _ _ _ (by decide), cut_pt])) rfl) rfl ⟨by rw [HF.out], below_setRow HB2.out (by omega) _⟩
end Go.Proofs.YtiohgpcbdefokaaDoor.B
/- slices.Clone, slices.Delete over parts; (State).own. No condition. -/
namespace Go.Proofs.YtiohgpcbdefokaaDoor.B
open Go.RowKit Go.Proofs.YtiohgpcbdefokaaDoorW.PrintWords Go.Proofs.YtiohgpcbdefokaaDoor.RowLaws
attribute [local go_sem ↓ high] lvO_hs ldO_hs stO_hs lvO_pt ldO_pt stO_pt zero_pt eqA_pt lvO_ptR ldO_ptR stO_ptR zero_ptR eqA_ptR lvO_rc ldO_rc stO_rc zero_rc eqA_rc lvO_rcR ldO_rcR stO_rcR zero_rcR eqA_rcR lvO_tk ldO_tk stO_tk zero_tk eqA_tk lvO_tkR ldO_tkR stO_tkR zero_tkR eqA_tkR lvO_it ldO_it stO_it zero_it eqA_it blO_pt blO_ptR blO_rc blO_rcR blO_tk blO_tkR blO_it bsO_pt bsO_ptR bsO_rc bsO_rcR bsO_it
attribute [local go_sem high] rowAt_setCell rowAt_setRow cell_setRow_ne isRow_setRow_ne rowAt_alloc rowAt_drew isRow_alloc isRow_drew isRow_setCell rowRun_some okL_hs ldV_hs ldA_hs stA_hs setRow_alloc get_pt_id get_pt_path cut_pt_sum get_pt_size get_pt_off cut_pt okL_pt size_pt lenb_pt eta_pt ldV_pt ldA_pt stA_pt ldV_ptR ldA_ptR stA_ptR get_rc_kind get_rc_id get_rc_path cut_rc_sum get_rc_size get_rc_off cut_rc okL_rc size_rc lenb_rc eta_rc ldV_rc ldA_rc stA_rc ldV_rcR ldA_rcR stA_rcR get_tk_path cut_tk_sum get_tk_size get_tk_off cut_tk_old cut_tk okL_tk size_tk lenb_tk eta_tk ldV_tk ldA_tk stA_tk ldV_tkR ldA_tkR stA_tkR get_it_path get_it_dir get_it_size cut_it_sum cut_it okL_it size_it lenb_it eta_it ldV_it ldA_it stA_it bld_pt_01234 bld_pt_0123 bld_pt_z bld_ptR_01234 bld_ptR_0123 bld_ptR_z bld_rc_012345 bld_rc_015 bld_rc_01 bld_rc_z bld_rc_01234 bld_rc_24 bld_rc_05 bld_rc_0 bld_rcR_012345 bld_rcR_015 bld_rcR_01 bld_rcR_z bld_rcR_01234 bld_rcR_24 bld_rcR_05 bld_rcR_0 bld_tk_01234 bld_tk_0 bld_tk_z bld_tkR_01234 bld_tkR_0 bld_tkR_z bld_it_0123 bld_it_023 bld_it_01 bld_it_0 bld_it_z bs0_pt bs1_pt bs0_ptR bs1_ptR bs0_rc bs1_rc bs0_rcR bs1_rcR bs0_it bs1_it
theorem bcell {W w1 : World} (hb : Below W.heap.size W w1) : (∀ b o, b < W.heap.size → w1.cell? ⟨b, o, none⟩ = W.cell? ⟨b, o, none⟩) ∧ (∀ b o, b < W.heap.size → w1.frozen? ⟨b, o, none⟩ = W.frozen? ⟨b, o, none⟩) :=
  ⟨fun b o h => hb.cell (p := ⟨b, o, none⟩) h, fun b o h => hb.frozen (p := ⟨b, o, none⟩) h⟩
theorem flat_elder {α : Type} {n : Nat} {enc : α → List Value} {hl : ∀ x, (enc x).length = n} {h1 : ∀ x, ∀ v ∈ enc x, v.oneCell' = true} {e : Nat} {W W' : World} {B : Nat} {ok : Nat → Prop} {v : Value} {xs : List α} (h : Kd.R (flat n enc hl h1) e W B ok v xs) (hm : ∀ k, B ≤ k → W'.heap[k]? = W.heap[k]?) : Kd.R (flat n enc hl h1) e W' B ok v xs := by
  obtain ⟨h0, inner, ho, hr⟩ := h
  exact ⟨h0, inner, own_move ho (fun k hk => hm k (own_base ho k hk)), hr⟩
theorem flat_keep {α : Type} {n : Nat} {enc : α → List Value} {hl : ∀ x, (enc x).length = n} {h1 : ∀ x, ∀ v ∈ enc x, v.oneCell' = true} {e : Nat} {W : World} {B g o : Nat} {u : Value} {ok : Nat → Prop} {v : Value} {xs : List α} (h : Kd.R (flat n enc hl h1) e W B ok v xs) (hg : v.ownBlock ≠ some g) : Kd.R (flat n enc hl h1) e (W.setCell ⟨g, o, none⟩ u) B ok v xs := by
  obtain ⟨h0, inner, ho, hr⟩ := h
  exact ⟨h0, inner, own_move ho (fun k hk => Below.heap_setCell _ _ _ _ (by show k ≠ g; intro e; exact hg (by rw [hk, e]))), hr⟩
theorem flat_put {α : Type} {n : Nat} {enc : α → List Value} {hl : ∀ x, (enc x).length = n} {h1 : ∀ x, ∀ v ∈ enc x, v.oneCell' = true} {e : Nat} {W : World} {B g o : Nat} {u : Value} {ok : Nat → Prop} {v : Value} {xs : List α} (h : Kd.R (flat n enc hl h1) e W B ok v xs) (hg : g < B) : Kd.R (flat n enc hl h1) e (W.setCell ⟨g, o, none⟩ u) B ok v xs :=
  flat_elder h fun k hk => Below.heap_setCell _ _ _ _ (by show k ≠ g; omega)
theorem infoPt : (Tryd.prog.info? 75).map (fun i => (i.zero, i.size, i.bytes)) = some (some (.agg (ptL Pt.zero).toArray), 36, 72) := by kernel_rfl
set_option maxHeartbeats 4000000 in
set_option maxRecDepth 100000 in
theorem Clone_calls (A : Option Addr) (c : Nat) (l : List Pt) (w : World) (hC : Kd.C kPt w A l.length l) (hc : l.length ≤ c) (hlen : l.length ≤ 1000) :
    Calls Tryd.prog 124 #[.slice A l.length c] w fun e w' => ∃ v : Value, e = .returned v ∧ Kd.R kPt 75 w' w.heap.size (fun _ => True) v l ∧ Below w.heap.size w w' := by
  have HR := Aside0.mk hC
  have HB := Aside0.mk (Below.refl w.heap.size w)
  clear hC
  have hnil := fun W a n c => Lib.run_eql_slice_nil (P := Tryd.prog) W 58 75 a n c 0 0 Tryd.underlying58
  cases A with
  | none =>
    have hn : l = [] := by
      rcases Nat.eq_zero_or_pos l.length with h0 | h0
      · exact List.eq_nil_of_length_eq_zero h0
      · obtain ⟨ad, he, _⟩ := HR.out.2.2 h0
        cases he
    subst hn
    go_enter Tryd.func124, Tryd.ntmps124
    go_wp2
    go_ret
    exact ⟨_, rfl, Kd.R_nil _ _ _ _ _, Below.refl _ _⟩
  | some ad =>
    go_enter Tryd.func124, Tryd.ntmps124
    go_wp2_with (first
      | ((with_reducible refine gate_dst (N := 5) rfl ?_); refine Kd.R_lit kPt _ 75 ?hg (N := 5) ?hd (xs := ([] : List Pt)) (inner := []) (ok := fun _ => True) (okp := fun _ => True) ?hr ?hp (fun _ hk => hk) trivial (Below.refl _ _) (Nat.le_refl _) (by simp) ?_; (case hd => rfl); (case hg => rfl); (case hr => first | (go_simp; done) | (go_simp; rfl)); (case hp => exact (Reps.none _ _)); intro v1 w1 ho hb _ _; have HO1 := Aside0.mk ho; have HB1 := Aside0.mk hb; clear ho hb)
      | ((with_reducible refine gate_builtin (b := .append) (xs := #[.tmp 5, .tmp 6]) rfl ?_); at_builtin; refine Kd.R_append_rows kPt (w0 := w) w.heap.size rfl (.tmp 5) (.tmp 6) 58 75 _ 72 rfl Tryd.underlying58 infoPt (ptL_len _) (by decide) (by omega) v1 [] l _ _ _ (fun _ => True) (fun _ => False) rfl rfl ?aO ?aR (fun _ _ h => h) (fun _ h => h.elim) ?aF ?aB ?aS ?aL ?_; (case aR => exact Kd.C_below HR.out HB1.out); (case aB => exact HB1.out); (case aF => exact (fun _ _ => trivial)); (case aO => exact HO1.out); (case aS => exact HB1.out.size); (case aL => simp; omega); intro v2 w2 ho hb _ _; have HO2 := Aside0.mk ho; have HB2 := Aside0.mk hb; clear ho hb))
    go_ret
    exact ⟨_, rfl, Kd.R_mono (by simpa using HO2.out) (fun _ _ => trivial), HB2.out⟩
#print axioms Clone_calls
end Go.Proofs.YtiohgpcbdefokaaDoor.B
/- record.read of a mark's body. No condition. -/
namespace Go.Proofs.YtiohgpcbdefokaaDoor.B
open Go.RowKit Go.Proofs.YtiohgpcbdefokaaDoorW.PrintWords Go.Proofs.YtiohgpcbdefokaaDoor.RowLaws
attribute [local go_sem ↓ high] lvO_hs ldO_hs stO_hs lvO_pt ldO_pt stO_pt zero_pt eqA_pt lvO_ptR ldO_ptR stO_ptR zero_ptR eqA_ptR lvO_rc ldO_rc stO_rc zero_rc eqA_rc lvO_rcR ldO_rcR stO_rcR zero_rcR eqA_rcR lvO_tk ldO_tk stO_tk zero_tk eqA_tk lvO_tkR ldO_tkR stO_tkR zero_tkR eqA_tkR lvO_it ldO_it stO_it zero_it eqA_it blO_pt blO_ptR blO_rc blO_rcR blO_tk blO_tkR blO_it bsO_pt bsO_ptR bsO_rc bsO_rcR bsO_it
attribute [local go_sem high] rowAt_setCell rowAt_setRow cell_setRow_ne isRow_setRow_ne rowAt_alloc rowAt_drew isRow_alloc isRow_drew isRow_setCell rowRun_some okL_hs ldV_hs ldA_hs stA_hs setRow_alloc get_pt_id get_pt_path cut_pt_sum get_pt_size get_pt_off cut_pt okL_pt size_pt lenb_pt eta_pt ldV_pt ldA_pt stA_pt ldV_ptR ldA_ptR stA_ptR get_rc_kind get_rc_id get_rc_path cut_rc_sum get_rc_size get_rc_off cut_rc okL_rc size_rc lenb_rc eta_rc ldV_rc ldA_rc stA_rc ldV_rcR ldA_rcR stA_rcR get_tk_path cut_tk_sum get_tk_size get_tk_off cut_tk_old cut_tk okL_tk size_tk lenb_tk eta_tk ldV_tk ldA_tk stA_tk ldV_tkR ldA_tkR stA_tkR get_it_path get_it_dir get_it_size cut_it_sum cut_it okL_it size_it lenb_it eta_it ldV_it ldA_it stA_it bld_pt_01234 bld_pt_0123 bld_pt_z bld_ptR_01234 bld_ptR_0123 bld_ptR_z bld_rc_012345 bld_rc_015 bld_rc_01 bld_rc_z bld_rc_01234 bld_rc_24 bld_rc_05 bld_rc_0 bld_rcR_012345 bld_rcR_015 bld_rcR_01 bld_rcR_z bld_rcR_01234 bld_rcR_24 bld_rcR_05 bld_rcR_0 bld_tk_01234 bld_tk_0 bld_tk_z bld_tkR_01234 bld_tkR_0 bld_tkR_z bld_it_0123 bld_it_023 bld_it_01 bld_it_0 bld_it_z bs0_pt bs1_pt bs0_ptR bs1_ptR bs0_rc bs1_rc bs0_rcR bs1_rcR bs0_it bs1_it
theorem isRow_only {w w' : World} {g b n : Nat} (h : Only g w w') (hb : b < w.heap.size) (hne : b ≠ g) : isRow w' b n = isRow w b n := by
  unfold isRow
  rw [h.block b hb (by intro e; injection e with e; exact hne e)]
theorem rcL_off (r : Rc) (x : Int) : (rcL r).toArray.setIfInBounds 36 (.int .i64 x) = (rcL { r with off := x }).toArray := by
  obtain ⟨b0, b1, b2, b3, b4, b5, b6, b7, b8, b9, b10, b11, b12, b13, b14, b15, b16, b17, b18, b19, b20, b21, b22, b23, b24, b25, b26, b27, b28, b29, b30, b31, e0⟩ := hs_lit r.sum
  simp [rcL, e0]
/-- A row made whole, with its last cell written. -/
theorem row_off {w w5 : World} {g : Nat} {r : Rc} {x : Int} (ho : Only g (w.alloc (.cells (rcL r).toArray 51)) w5) (hg : g < w.heap.size) : rowAt (w5.setCell ⟨w.heap.size, 36, none⟩ (.int .i64 x)) ⟨w.heap.size, 0, none⟩ 37 = some (rcL { r with off := x }) ∧ w5.frozen? ⟨w.heap.size, 36, none⟩ = false ∧ w5.cell? ⟨w.heap.size, 36, none⟩ = some (.int .i64 r.off) := by
  have h0 : w5.heap[w.heap.size]? = some (.cells (rcL r).toArray 51 (0, 0)) := (ho.block _ (by simp) (by intro e; injection e; omega)).trans (heap_alloc_new _ _)
  refine ⟨?_, blk_frozen h0 _, ?_⟩
  · have h1 := blk_set h0 36 (.int .i64 x)
    rw [rcL_off] at h1
    rw [rowAt_block h1 0 37 (by simp [rcL_len])]
    rw [List.drop_zero, List.take_of_length_le (by simp [rcL_len])]
  · rw [cell_of_row _ _ _ _ _ _ h0]
    obtain ⟨b0, b1, b2, b3, b4, b5, b6, b7, b8, b9, b10, b11, b12, b13, b14, b15, b16, b17, b18, b19, b20, b21, b22, b23, b24, b25, b26, b27, b28, b29, b30, b31, e0⟩ := hs_lit r.sum
    simp [rcL, e0]
theorem isRow_lt {w : World} {g n : Nat} (h : isRow w g n = true) : g < w.heap.size := by
  obtain ⟨cs, t, hc, _⟩ := isRow_get h
  exact (Array.getElem?_eq_some_iff.1 hc).1
theorem keepRd {r : Rc} {b g h : Nat} {w W : World} (hS : rowAt w ⟨b, 0, none⟩ 37 = some (rcL r) ∧ isRow w h 37 = true ∧ RdAt w g [] 0 ∧ TabOK w) (hb : Below w.heap.size w W) : rowAt W ⟨b, 0, none⟩ 37 = some (rcL r) ∧ isRow W h 37 = true ∧ RdAt W g [] 0 ∧ TabOK W := by
  obtain ⟨h1, h2, h3, h4⟩ := hS
  have hlt : b < w.heap.size := by
    have := (rowAt_some h1).2 0 _ (List.getElem?_eq_getElem (show 0 < (rcL r).length by rw [rcL_len]; decide))
    exact World.block_lt_of_cell? _ _ this
  exact ⟨by rw [rowAt_below hb hlt]; exact h1, by rw [isRow_below hb (isRow_lt h2)]; exact h2, h3.below hb, h4.below hb⟩
theorem keepRd2 {r q : Rc} {b g h : Nat} {w : World} (hS : rowAt w ⟨b, 0, none⟩ 37 = some (rcL r) ∧ isRow w h 37 = true ∧ RdAt w g [] 0 ∧ TabOK w) (h1 : b ≠ h) (h2 : g ≠ h) (hT : TabOK (w.setRow h (rcL q).toArray)) :
    rowAt (w.setRow h (rcL q).toArray) ⟨b, 0, none⟩ 37 = some (rcL r) ∧ isRow (w.setRow h (rcL q).toArray) h 37 = true ∧ RdAt (w.setRow h (rcL q).toArray) g [] 0 ∧ TabOK (w.setRow h (rcL q).toArray) := by
  obtain ⟨a1, a2, a3, a4⟩ := hS
  refine ⟨by rw [rowAt_setRow _ _ _ _ _ _ h1]; exact a1, by rw [isRow_setRow_same a2]; simp [rcL_len], ?_, hT⟩
  obtain ⟨A, c, b0, b1, b2⟩ := a3
  have ho : Only h w (w.setRow h (rcL q).toArray) := (Only.refl _ _).setRow _
  have hg : g < w.heap.size := (Array.getElem?_eq_some_iff.1 b0).1
  refine ⟨A, c, (ho.block g hg (by intro e; injection e with e; exact h2 e)).trans b0, b1, fun W hW => ⟨rfl, Nat.zero_le _, fun h => absurd h (Nat.lt_irrefl 0)⟩⟩
theorem rd_far {w : World} {g b o : Nat} {u : Value} (h : RdAt w g [] 0) (hne : g ≠ b) : RdAt (w.setCell ⟨b, o, none⟩ u) g [] 0 := by
  obtain ⟨A, c, b0, b1, b2⟩ := h
  exact ⟨A, c, (Below.heap_setCell _ _ _ _ (by exact hne)).trans b0, b1, fun W hW => ⟨rfl, Nat.zero_le _, fun h => absurd h (Nat.lt_irrefl 0)⟩⟩
theorem rdOf {r : Rc} {b g h : Nat} {w : World} (hS : rowAt w ⟨b, 0, none⟩ 37 = some (rcL r) ∧ isRow w h 37 = true ∧ RdAt w g [] 0 ∧ TabOK w) : RdAt w g [] 0 := hS.2.2.1
theorem tabOf {r : Rc} {b g h : Nat} {w : World} (hS : rowAt w ⟨b, 0, none⟩ 37 = some (rcL r) ∧ isRow w h 37 = true ∧ RdAt w g [] 0 ∧ TabOK w) : TabOK w := hS.2.2.2
set_option linter.unusedVariables false in
set_option maxHeartbeats 4000000 in
set_option maxRecDepth 100000 in
theorem ReadMark_calls (k : Nat) (A : Option Addr) (c : Nat) (l1 : List Int) (id u1 off u2 : Int) (w : World) (hT : TabOK w) (hC : Kd.C (Kd.int .u8) w A (1 :: l1).length (1 :: l1)) (hc : (1 :: l1).length ≤ c)
    (h1 : varint_Shortest.f k l1 = some (id, u1, 0)) (hu1 : 0 ≤ u1 ∧ u1 ≤ l1.length) (hid : ¬ 1099511627776 < id) (h2 : varint_Shortest.f k (l1.drop u1.toNat) = some (off, u2, 0)) (hu2 : 0 ≤ u2 ∧ u2 ≤ (l1.drop u1.toNat).length) (hoff : ¬ 65536 < off)
    (hn : (l1.drop u1.toNat).drop u2.toNat = []) (hk : chkE ⟨1, id, ByteArray.empty, Hs.zero, 0, off⟩ = 0) :
    Calls Tryd.prog 127 #[.slice A (1 :: l1).length c] w fun e w' => e = .returned (.tuple #[.agg (rcL ⟨1, id, ByteArray.empty, Hs.zero, 0, off⟩).toArray, .bool true]) ∧ Below w.heap.size w w' := by
  have HT := Aside0.mk hT
  have HC := Aside0.mk (And.intro hC hc)
  obtain ⟨l2, hl2⟩ : ∃ l2, l1.drop u1.toNat = l2 := ⟨_, rfl⟩
  rw [hl2] at h2 hu2 hn
  have HN1 := Aside0.mk (show numP id u1 0 l1 1099511627776 = (id, l2, 0) by have e : lookF id u1 0 1099511627776 = (id, u1, 0) := if_neg (fun h => hid h.2); unfold numP; rw [e]; simp only; rw [if_true, hl2])
  have HN2 := Aside0.mk (show numP off u2 0 l2 65536 = (off, [], 0) by have e : lookF off u2 0 65536 = (off, u2, 0) := if_neg (fun h => hoff h.2); unfold numP; rw [e]; simp only; rw [if_true, hn])
  have H1 := Aside0.mk (And.intro h1 hu1)
  have H2 := Aside0.mk (And.intro h2 hu2)
  have HK := Aside0.mk hk
  obtain ⟨n, hn0⟩ : ∃ n, (1 :: l1).length = n := ⟨_, rfl⟩
  rw [hn0]
  have HN := Aside0.mk hn0
  clear hT hC hc h1 hu1 hid h2 hu2 hoff hn hk hl2 hn0
  go_enter Tryd.func127, Tryd.ntmps127
  go_wp2_with (first
    | (go_at_call 62; rw [← HN.out]; refine (New_calls A c (1 :: l1) _ (Kd.C_below HC.out.1 ?_) HC.out.2).mono ?_; (exact below_alloc (Below.refl _ _) _); rintro e w2 ⟨rfl, hr2, hb2⟩; rw [World.size_alloc] at hr2; have HR2 := Aside0.mk hr2; have HB2 := Aside0.mk (Below.trans (below_alloc (Below.refl w.heap.size w) _) (hb2.mono (by simp))); have i2 : isRow w2 w.heap.size 37 = true := (by rw [isRow_below hb2 (by simp)]; first | (go_simp; done) | (simp [*]; done)); have HLT := Aside0.mk hr2.lt; clear hr2 hb2)
    | (go_at_call 89; refine (Byte_calls (w.heap.size + 1) 1 l1 _ HR2.out (by decide) (by decide)).mono ?_; rintro e w3 ⟨rfl, hr3, ho3⟩; have HR3 := Aside0.mk hr3; have HO3 := Aside0.mk ho3; have i3 : isRow w3 w.heap.size 37 = true := (by rw [isRow_only ho3 (by have := HLT.out; omega) (by omega)]; exact i2); have HB3 := Aside0.mk (Below.trans HB2.out (ho3.below (n := w.heap.size) (by omega) (by have := HLT.out; omega))); clear hr3 ho3)
    | (go_at_call 65; with_reducible refine Calls.mono (Num_calls k (w.heap.size + 1) l1 1099511627776 id u1 0 w3 HR3.out H1.out.1 (fun _ => H1.out.2)) ?_; rw [HN1.out]; rintro e w4 ⟨rfl, hr4, ho4⟩; have HR4 := Aside0.mk hr4; have HLT4 := Aside0.mk hr4.lt; have i4 : isRow w4 w.heap.size 37 = true := (by rw [isRow_only ho4 (by have := HR3.out.lt; omega) (by omega)]; exact i3); have HB4 := Aside0.mk (Below.trans HB3.out (ho4.below (n := w.heap.size) (by omega) (by have := HR3.out.lt; omega))); clear hr4 ho4)
    | (go_at_call 65; with_reducible refine Calls.mono (Num_calls k (w.heap.size + 1) l2 65536 off u2 0 _ (HR4.out.below (below_alloc (Below.refl _ _) _)) H2.out.1 (fun _ => H2.out.2)) ?_; rw [HN2.out]; rintro e w5 ⟨rfl, hr5, ho5⟩; obtain ⟨rw5, fz5, cc5⟩ := row_off (x := off) ho5 HLT4.out; have HR5 := Aside0.mk hr5; have HO5 := Aside0.mk ho5; have i5 : isRow w5 w.heap.size 37 = true := (by rw [isRow_only ho5 (by have := HLT4.out; simp; omega) (by omega), isRow_below (below_alloc (Below.refl w4.heap.size w4) _) (by have := HLT4.out; omega)]; exact i4); have HB5 := Aside0.mk (Below.trans HB4.out (Below.trans ((below_alloc (Below.refl w4.heap.size w4) _).mono (by have := HLT4.out; omega)) (ho5.below (n := w.heap.size) (by omega) (by have := HLT4.out; simp; omega)))); have HS5 := Aside0.mk (show w4.heap.size + 1 ≤ w5.heap.size from by have := ho5.size; simpa using this); clear hr5 ho5))
  have hS : rowAt (w5.setCell ⟨w4.heap.size, 36, none⟩ (.int .i64 off)) ⟨w4.heap.size, 0, none⟩ 37 = some (rcL ⟨1, id, ByteArray.empty, Hs.zero, 0, off⟩) ∧ isRow (w5.setCell ⟨w4.heap.size, 36, none⟩ (.int .i64 off)) w.heap.size 37 = true ∧ RdAt (w5.setCell ⟨w4.heap.size, 36, none⟩ (.int .i64 off)) (w.heap.size + 1) [] 0 ∧ TabOK (w5.setCell ⟨w4.heap.size, 36, none⟩ (.int .i64 off)) := ⟨rw5, by rw [isRow_setCell]; exact i5, rd_far HR5.out (by have := HLT4.out; omega), HT.out.below (below_setCell HB5.out (by have := HLT4.out; omega) _)⟩
  have HB6 := Aside0.mk (show Below w.heap.size w (w5.setCell ⟨w4.heap.size, 36, none⟩ (.int .i64 off)) from below_setCell HB5.out (by have := HLT4.out; omega) _)
  generalize w5.setCell ⟨w4.heap.size, 36, none⟩ (.int .i64 off) = w6 at hS HB6 ⊢
  clear rw5 fz5 cc5 i2 i3 i4 i5
  go_region_held3 (fun w' => rowAt w' ⟨w4.heap.size, 0, none⟩ 37 = some (rcL ⟨1, id, ByteArray.empty, Hs.zero, 0, off⟩) ∧ isRow w' w.heap.size 37 = true ∧ RdAt w' (w.heap.size + 1) [] 0 ∧ TabOK w') (first | assumption | exact keepRd (by assumption) (below_drew (Below.refl _ _)) | exact keepRd2 (by assumption) (by have := HLT4.out; omega) (by omega) (HT.out.below (below_setRow HB8.out (Nat.le_refl _) _)))
    (first
      | (go_at_call 66; refine (Done_calls (w.heap.size + 1) [] 0 _ (rdOf (by assumption))).mono ?_; rintro e w7 ⟨rfl, hb7⟩; have hS7 := keepRd (by assumption) hb7; have HB7 := Aside0.mk (below_step (by first | exact HB6.out | exact below_drew HB6.out) hb7); clear hb7)
      | (go_at_call 26; refine (Check_calls ⟨1, id, ByteArray.empty, Hs.zero, 0, off⟩ _ (tabOf (by assumption))).mono ?_; rintro e w8 ⟨rfl, hb8⟩; rw [HK.out]; have hS8 := keepRd (by assumption) hb8; have HB8 := Aside0.mk (below_step (by first | exact HB7.out | exact below_drew HB7.out) hb8); clear hb8))
  go_wp2
  refine bodyPost_ret (v := .tuple #[.agg (rcL ⟨1, id, ByteArray.empty, Hs.zero, 0, off⟩).toArray, .bool true]) (res2 rfl rfl (lv_rc (by rw [rowAt_setRow_same hS8.2.1 _ _ _ (by decide), cut_rc])) rfl) rfl ⟨rfl, below_setRow HB8.out (Nat.le_refl _) _⟩
end Go.Proofs.YtiohgpcbdefokaaDoor.B
/- record.first, record.Scan of eight bytes that hold a mark. No condition. -/
namespace Go.Proofs.YtiohgpcbdefokaaDoor.B
open Go.RowKit Go.Proofs.YtiohgpcbdefokaaDoorW.PrintWords Go.Proofs.YtiohgpcbdefokaaDoor.RowLaws
attribute [local go_sem ↓ high] lvO_hs ldO_hs stO_hs lvO_pt ldO_pt stO_pt zero_pt eqA_pt lvO_ptR ldO_ptR stO_ptR zero_ptR eqA_ptR lvO_rc ldO_rc stO_rc zero_rc eqA_rc lvO_rcR ldO_rcR stO_rcR zero_rcR eqA_rcR lvO_tk ldO_tk stO_tk zero_tk eqA_tk lvO_tkR ldO_tkR stO_tkR zero_tkR eqA_tkR lvO_it ldO_it stO_it zero_it eqA_it blO_pt blO_ptR blO_rc blO_rcR blO_tk blO_tkR blO_it bsO_pt bsO_ptR bsO_rc bsO_rcR bsO_it
attribute [local go_sem high] rowAt_setCell rowAt_setRow cell_setRow_ne isRow_setRow_ne rowAt_alloc rowAt_drew isRow_alloc isRow_drew isRow_setCell rowRun_some okL_hs ldV_hs ldA_hs stA_hs setRow_alloc get_pt_id get_pt_path cut_pt_sum get_pt_size get_pt_off cut_pt okL_pt size_pt lenb_pt eta_pt ldV_pt ldA_pt stA_pt ldV_ptR ldA_ptR stA_ptR get_rc_kind get_rc_id get_rc_path cut_rc_sum get_rc_size get_rc_off cut_rc okL_rc size_rc lenb_rc eta_rc ldV_rc ldA_rc stA_rc ldV_rcR ldA_rcR stA_rcR get_tk_path cut_tk_sum get_tk_size get_tk_off cut_tk_old cut_tk okL_tk size_tk lenb_tk eta_tk ldV_tk ldA_tk stA_tk ldV_tkR ldA_tkR stA_tkR get_it_path get_it_dir get_it_size cut_it_sum cut_it okL_it size_it lenb_it eta_it ldV_it ldA_it stA_it bld_pt_01234 bld_pt_0123 bld_pt_z bld_ptR_01234 bld_ptR_0123 bld_ptR_z bld_rc_012345 bld_rc_015 bld_rc_01 bld_rc_z bld_rc_01234 bld_rc_24 bld_rc_05 bld_rc_0 bld_rcR_012345 bld_rcR_015 bld_rcR_01 bld_rcR_z bld_rcR_01234 bld_rcR_24 bld_rcR_05 bld_rcR_0 bld_tk_01234 bld_tk_0 bld_tk_z bld_tkR_01234 bld_tkR_0 bld_tkR_z bld_it_0123 bld_it_023 bld_it_01 bld_it_0 bld_it_z bs0_pt bs1_pt bs0_ptR bs1_ptR bs0_rc bs1_rc bs0_rcR bs1_rcR bs0_it bs1_it
/-- Eight bytes that hold the mark r. -/
structure Eight (k : Nat) (l : List Int) (r : Rc) : Prop where
  len : l.length = 8
  num : varint_Shortest.f k l = some (7, 1, 0)
  open_ : crc_Open.f k ((l.take 8).drop 1) = some ([1, r.id, r.off], 0)
  one : varint_Shortest.f k [r.id, r.off] = some (r.id, 1, 0)
  two : varint_Shortest.f k [r.off] = some (r.off, 1, 0)
  lo : ¬ 1099511627776 < r.id
  lo2 : ¬ 65536 < r.off
  is : r = ⟨1, r.id, ByteArray.empty, Hs.zero, 0, r.off⟩
  chk : chkE r = 0
set_option linter.unusedVariables false in
set_option maxHeartbeats 4000000 in
set_option maxRecDepth 100000 in
theorem First_calls (k : Nat) (A : Option Addr) (c : Nat) (l : List Int) (r : Rc) (w : World) (hT : TabOK w) (hC : Kd.C (Kd.int .u8) w A 8 l) (hc : 8 ≤ c) (h : Eight k l r) :
    Calls Tryd.prog 85 #[.slice A 8 c] w fun e w' => e = .returned (.tuple #[.agg (rcL r).toArray, .int .i64 8, .int .i64 0]) ∧ Below w.heap.size w w' := by
  have HT := Aside0.mk hT
  have HH := Aside0.mk h
  have hC' : Kd.C (Kd.int .u8) w A l.length l := by rw [h.len]; exact hC
  obtain ⟨A2, hm1, hm2, hm3⟩ := print_mid_of (P := Tryd.prog) (Value.int .u8) 0 22 5 .i64 .i64 Tryd.underlying22 (info_parts info5).choose_spec.1 (info_parts info5).choose_spec.2.2.1 A c l 1 8 (by decide) (by decide) (by rw [h.len]; decide) (by rw [h.len]; exact hc)
  rw [show ((8 : Int)).toNat = 8 from rfl, show ((1 : Int)).toNat = 1 from rfl] at hm1 hm2 hm3
  obtain ⟨y, hy⟩ : ∃ y, (l.take 8).drop 1 = y := ⟨_, rfl⟩
  have ho := h.open_
  rw [hy] at hm1 hm2 hm3 ho
  rw [h.len] at hm1
  have hyl : y.length = 7 := by rw [← hy, List.length_drop, List.length_take, h.len]; decide
  have HM := Aside0.mk (And.intro hm1 (And.intro hm2 hm3))
  have HYL := Aside0.mk hyl
  have HO := Aside0.mk ho
  have HC := Aside0.mk hC'
  have HC8 := Aside0.mk (show l.length ≤ c by rw [h.len]; exact hc)
  have HL := Aside0.mk h.len
  have HNUM := Aside0.mk h.num
  clear hT hC hc hC' hm1 hm2 hm3 hy ho hyl h
  go_enter Tryd.func85, Tryd.ntmps85
  go_wp2_with (first
    | (go_at_call 125; rw [← HL.out]; refine (varint_Shortest.calls k A c l 7 1 0 _ (Kd.C_below HC.out ?_) HC8.out HNUM.out).mono ?_; (exact below_alloc (Below.refl _ _) _); rintro e w2 ⟨rfl, hb2⟩; rw [HL.out]; have i2 : isRow w2 w.heap.size 37 = true := (by rw [isRow_below hb2 (by simp)]; first | (go_simp; done) | (simp [*]; done)); have HB2 := Aside0.mk (Below.trans (below_alloc (Below.refl w.heap.size w) _) (hb2.mono (by simp))); have hcut := HM.out.1 w2; rw [HYL.out] at hcut; have HLT := Aside0.mk (isRow_lt i2); clear hb2)
    | (go_at_call 126; rw [← HYL.out]; refine (crc_Open.calls k A2 _ y [1, r.id, r.off] 0 w2 (Kd.C_of_reads (h1 := fun _ => rfl) (HM.out.2.1 w2 (Kd.reads_of_C (Kd.C_below HC.out HB2.out)))) HM.out.2.2 (HT.out.below HB2.out) HO.out).mono ?_; rintro e w3 ⟨v3, rfl, ho3, hb3⟩; rw [HYL.out]; obtain ⟨A3, c3, rfl⟩ := Kd.R_slice ho3; have i3 : isRow w3 w.heap.size 37 = true := (by rw [isRow_below hb3 HLT.out]; exact i2); have HB3 := Aside0.mk (below_step HB2.out hb3); have HR3 := Aside0.mk (Kd.R_reads' ho3); clear ho3 hb3)
    | (go_at_call 127; have hq := ReadMark_calls k A3 c3 [r.id, r.off] r.id 1 r.off 1 w3 (HT.out.below HB3.out) HR3.out.2.2 HR3.out.2.1 HH.out.one ⟨by decide, by simp only [List.length_cons]; omega⟩ HH.out.lo HH.out.two ⟨by decide, by simp⟩ HH.out.lo2 rfl (by rw [← HH.out.is]; exact HH.out.chk); rw [← HH.out.is] at hq; refine Calls.mono (show Calls _ _ #[.slice A3 3 c3] w3 _ from hq) ?_; clear hq; rintro e w4 ⟨rfl, hb4⟩; have i4 : isRow w4 w.heap.size 37 = true := (by rw [isRow_below hb4 (isRow_lt i3)]; exact i3); have HB4 := Aside0.mk (below_step HB3.out hb4); have HLT4 := Aside0.mk (isRow_lt i4); have n4 : ¬ (w.heap.size = w4.heap.size) := (by have := isRow_lt i4; omega); clear hb4))
  refine bodyPost_ret (v := .tuple #[.agg (rcL r).toArray, .int .i64 8, .int .i64 0]) (res3 rfl rfl (lv_rc (by rw [rowAt_below (below_alloc (Below.refl _ _) _) (by simpa using HLT4.out), rowAt_setRow_same i4 _ _ _ (by decide), cut_rc])) rfl rfl) rfl ⟨rfl, below_alloc (below_setRow HB4.out (Nat.le_refl _) _) _⟩
theorem infoRc : (Tryd.prog.info? 51).map (fun i => (i.zero, i.size, i.bytes)) = some (some (.agg (rcL Rc.zero).toArray), 37, 80) := by kernel_rfl
theorem zcRc : (Value.agg (rcL Rc.zero).toArray).cells.size = 37 := by simp [Value.cells, rcL_len]
set_option linter.unusedVariables false in
set_option maxHeartbeats 4000000 in
set_option maxRecDepth 100000 in
theorem Scan_calls (k : Nat) (A : Option Addr) (c : Nat) (l : List Int) (r : Rc) (w : World) (hT : TabOK w) (hC : Kd.C (Kd.int .u8) w A 8 l) (hc : 8 ≤ c) (h : Eight k l r) :
    Calls Tryd.prog 35 #[.slice A 8 c] w fun e w' => ∃ v : Value, e = .returned (.tuple #[v, .int .i64 8, .int .i64 0]) ∧ Kd.R kRc 51 w' w.heap.size (fun _ => True) v [r] ∧ Below w.heap.size w w' := by
  have HT := Aside0.mk hT
  have HH := Aside0.mk h
  have hC' : Kd.C (Kd.int .u8) w A l.length l := by rw [h.len]; exact hC
  obtain ⟨A2, hm1, hm2, hm3⟩ := print_drop_of (P := Tryd.prog) (Value.int .u8) 0 22 5 .i64 Tryd.underlying22 (info_parts info5).choose_spec.1 (info_parts info5).choose_spec.2.2.1 A c l 0 (by decide) (by rw [h.len]; decide) (by rw [h.len]; exact hc)
  rw [show ((0 : Int)).toNat = 0 from rfl, List.drop_zero] at hm1 hm2 hm3
  rw [Nat.sub_zero] at hm1 hm3
  rw [h.len] at hm1 hm2 hm3
  have HM := Aside0.mk (And.intro hm1 (And.intro hm2 hm3))
  have HC := Aside0.mk hC
  clear hT hC hc hC' hm1 hm2 hm3 h
  go_enter Tryd.func35, Tryd.ntmps35
  go_wp2
  go_loopw [5, 6] (fun ov av wr => (ov = .slice none 0 0 ∧ av = .int .i64 0 ∧ Aside0 (Below w.heap.size w wr)) ∨ (∃ (A3 : Option Addr) (c3 : Nat), ov = .slice A3 1 c3 ∧ av = .int .i64 8 ∧ Aside0 (Below w.heap.size w wr) ∧ Aside0 (Kd.R kRc 51 wr w.heap.size (fun _ => True) (.slice A3 1 c3) [r]))) (fun _ av _ => 8 - (intOf av).toNat)
  case atStart => exact .inl ⟨rfl, rfl, ⟨Below.refl _ _⟩⟩
  case round =>
    rcases hrel with ⟨rfl, rfl, HB⟩ | ⟨A3, c3, rfl, rfl, HB, HR⟩
    · have hcut := HM.out.1 wr
      go_wp2_with (first
        | (go_at_call 85; refine (First_calls k A2 c l r _ (HT.out.below HB.out) (Kd.C_of_reads (h1 := fun _ => rfl) (HM.out.2.1 wr (Kd.reads_of_C (Kd.C_below HC.out HB.out)))) HM.out.2.2 HH.out).mono ?_; rintro e w2 ⟨rfl, hb2⟩; have HB2 := Aside0.mk (below_step HB.out hb2); clear hb2)
        | ((with_reducible refine gate_builtin (b := .append) (xs := #[.tmp 27, .tmp 29]) rfl ?_); at_builtin; refine Kd.R_append kRc (w0 := w) w.heap.size rfl (.tmp 27) (.tmp 29) 57 51 _ 80 rfl Tryd.underlying57 infoRc zcRc (by decide) (by decide) (.slice none 0 0) [] r (rcL r) (fun _ => True) (fun _ => False) rfl ?aX rfl (fun _ h => h.elim) (fun _ _ => trivial) (Kd.R_nil _ _ _ _ _) ?aB ?aS (by decide) ?_; (case aX => rw [World.size_alloc]; rfl); (case aB => exact below_alloc HB2.out _); (case aS => have h_ := HB2.out.size; simp; omega); intro v5 w5 ho5 hb5 hg5 hat5; obtain ⟨A5, c5, rfl⟩ := Kd.R_slice ho5; have HO5 := Aside0.mk ho5; have HB5 := Aside0.mk hb5; clear ho5 hb5 hg5 hat5))
      go_roundw
      case rel => exact .inr ⟨A5, c5, rfl, rfl, HB5, HO5⟩
      case measure => simp [intOf]
    · go_wp2
      go_ret3
      exact ⟨_, rfl, HR.out, HB.out⟩
end Go.Proofs.YtiohgpcbdefokaaDoor.B
/- slices.Delete of one part of a row of the call's own. No condition. -/
namespace Go.Proofs.YtiohgpcbdefokaaDoor.B
open Go.RowKit Go.Proofs.YtiohgpcbdefokaaDoorW.PrintWords Go.Proofs.YtiohgpcbdefokaaDoor.RowLaws
attribute [local go_sem ↓ high] lvO_hs ldO_hs stO_hs lvO_pt ldO_pt stO_pt zero_pt eqA_pt lvO_ptR ldO_ptR stO_ptR zero_ptR eqA_ptR lvO_rc ldO_rc stO_rc zero_rc eqA_rc lvO_rcR ldO_rcR stO_rcR zero_rcR eqA_rcR lvO_tk ldO_tk stO_tk zero_tk eqA_tk lvO_tkR ldO_tkR stO_tkR zero_tkR eqA_tkR lvO_it ldO_it stO_it zero_it eqA_it blO_pt blO_ptR blO_rc blO_rcR blO_tk blO_tkR blO_it bsO_pt bsO_ptR bsO_rc bsO_rcR bsO_it
attribute [local go_sem high] rowAt_setCell rowAt_setRow cell_setRow_ne isRow_setRow_ne rowAt_alloc rowAt_drew isRow_alloc isRow_drew isRow_setCell rowRun_some okL_hs ldV_hs ldA_hs stA_hs setRow_alloc get_pt_id get_pt_path cut_pt_sum get_pt_size get_pt_off cut_pt okL_pt size_pt lenb_pt eta_pt ldV_pt ldA_pt stA_pt ldV_ptR ldA_ptR stA_ptR get_rc_kind get_rc_id get_rc_path cut_rc_sum get_rc_size get_rc_off cut_rc okL_rc size_rc lenb_rc eta_rc ldV_rc ldA_rc stA_rc ldV_rcR ldA_rcR stA_rcR get_tk_path cut_tk_sum get_tk_size get_tk_off cut_tk_old cut_tk okL_tk size_tk lenb_tk eta_tk ldV_tk ldA_tk stA_tk ldV_tkR ldA_tkR stA_tkR get_it_path get_it_dir get_it_size cut_it_sum cut_it okL_it size_it lenb_it eta_it ldV_it ldA_it stA_it bld_pt_01234 bld_pt_0123 bld_pt_z bld_ptR_01234 bld_ptR_0123 bld_ptR_z bld_rc_012345 bld_rc_015 bld_rc_01 bld_rc_z bld_rc_01234 bld_rc_24 bld_rc_05 bld_rc_0 bld_rcR_012345 bld_rcR_015 bld_rcR_01 bld_rcR_z bld_rcR_01234 bld_rcR_24 bld_rcR_05 bld_rcR_0 bld_tk_01234 bld_tk_0 bld_tk_z bld_tkR_01234 bld_tkR_0 bld_tkR_z bld_it_0123 bld_it_023 bld_it_01 bld_it_0 bld_it_z bs0_pt bs1_pt bs0_ptR bs1_ptR bs0_rc bs1_rc bs0_rcR bs1_rcR bs0_it bs1_it
theorem szPt : (Tryd.prog.info? 75).map (·.size) = some 36 := by kernel_rfl
theorem zcPt : (Value.agg (ptL Pt.zero).toArray).cells.size = 36 := by simp [Value.cells, ptL_len]
theorem zoPt : ∀ u ∈ (Value.agg (ptL Pt.zero).toArray).cells.toList, u.oneCell' = true := by simp only [Value.cells]; exact ptL_one _
/-- What lies behind a row's length may turn. -/
theorem R_tail {W W' : World} {B g n c : Nat} {ok : Nat → Prop} {l : List Pt} (h : Kd.R kPt 75 W B ok (.slice (some ⟨g, 0, none⟩) n c) l) {cur : List Value} {off : Nat} {Z : List Value} (hg : W.heap[g]? = some (.cells cur.toArray 75 (0, 0)))
    (hg' : W'.heap[g]? = some (.cells (splice cur off Z).toArray 75 (0, 0))) (hoff : n * 36 ≤ off) (hfit : off + Z.length ≤ cur.length) : Kd.R kPt 75 W' B ok (.slice (some ⟨g, 0, none⟩) n c) l := by
  obtain ⟨h0, inner, h1, h2⟩ := h
  refine ⟨h0, inner, ⟨h1.1, ?_⟩, h2⟩
  rcases h1.2 with ⟨hv, _⟩ | ⟨g', cap', cur', hv, hb, hh, hnc, hcm, hcs, ht⟩
  · cases hv
  injection hv with ha hn hc
  injection ha with ha
  injection ha with ha
  subst ha hc
  have hl : n = l.length := hn
  rw [hg] at hh
  injection hh with hh
  injection hh with hh
  subst hh
  refine .inr ⟨g, c, (splice cur off Z).toArray, by rw [hl], hb, hg', hnc, hcm, ?_, ?_⟩
  · have : cur.length = c * 36 := by simpa [kPt, flat] using hcs
    simp only [List.size_toArray]
    rw [length_splice _ _ _ hfit, this]; rfl
  · have e : (splice cur off Z).toArray.toList.take (l.length * kPt.sz) = cur.toArray.toList.take (l.length * kPt.sz) := by
      have hz : l.length * kPt.sz ≤ off := by rw [← hl]; exact hoff
      simp only [splice]
      rw [List.take_append_of_le_length (by simp; omega), List.take_take, Nat.min_eq_left hz]
    rw [e]; exact ht
theorem R_block {W : World} {B g n c : Nat} {ok : Nat → Prop} {l : List Pt} (h : Kd.R kPt 75 W B ok (.slice (some ⟨g, 0, none⟩) n c) l) : n = l.length ∧ n ≤ c ∧ B ≤ g ∧ ∃ cur : List Value, W.heap[g]? = some (.cells cur.toArray 75 (0, 0)) ∧ cur.length = c * 36 ∧ c ≤ maxLen := by
  obtain ⟨h0, inner, h1, h2⟩ := h
  rcases h1.2 with ⟨hv, _⟩ | ⟨g', cap', cur', hv, hb, hh, hnc, hcm, hcs, ht⟩
  · cases hv
  injection hv with ha hn hc
  injection ha with ha
  injection ha with ha
  subst ha hc
  exact ⟨hn, by rw [hn]; exact hnc, hb, cur'.toList, by simpa using hh, by simpa [kPt, flat] using hcs, hcm⟩
set_option maxHeartbeats 4000000 in
set_option maxRecDepth 100000 in
theorem Delete_calls (g m c i B : Nat) (ok : Nat → Prop) (l : List Pt) (w : World) (hO : Kd.R kPt 75 w B ok (.slice (some ⟨g, 0, none⟩) (m + 1) c) l) (hi : i ≤ m) (hn : m + 1 ≤ 1000) (hB : B ≤ w.heap.size) :
    Calls Tryd.prog 83 #[.slice (some ⟨g, 0, none⟩) (m + 1) c, .int .i64 (i : Int), .int .i64 ((i : Int) + 1)] w fun e w' => e = .returned (.slice (some ⟨g, 0, none⟩) m c) ∧ Kd.R kPt 75 w' B ok (.slice (some ⟨g, 0, none⟩) m c) (l.eraseIdx i) ∧ Only g w w' := by
  obtain ⟨hnl, hnc, hBg, _⟩ := R_block hO
  have HL := Aside0.mk hnl
  have HO := Aside0.mk hO
  clear hO hnl
  have hw2 : (0 : Int) ≤ (i : Int) + 1 := by omega
  have hw3 : ((i : Int) + 1).toNat = i + 1 := by omega
  have hw4 : (i : Int) + 1 ≤ (m : Int) + 1 := by omega
  have hw5 : ((i : Int) == (i : Int) + 1) = false := by simp; omega
  have hw6 : (i : Int) ≤ (m : Int) + 1 := by omega
  have hw7 : i ≤ c := by omega
  have hw8 : i + 1 ≤ m + 1 := by omega
  have hw9 : (i : Int) ≤ (c : Int) := by omega
  have hnn : (m : Int) + 1 ≤ (c : Int) := by omega
  have hmc : m ≤ c := by omega
  have hmi : (m : Int) ≤ (c : Int) := by omega
  have hcm : ¬ c = m := by omega
  by_cases hcc : i + 1 = c
  case neg =>
    have hcn : ¬ c = i + 1 := fun e => hcc e.symm
    clear hcc
    go_enter Tryd.func83, Tryd.ntmps83
    go_wp2
    refine still_tail_at 6 (by kernel_rfl) (by kernel_rfl) ?_
    intro W hW
    have HOW := Aside0.mk (show Kd.R kPt 75 W B ok (.slice (some ⟨g, 0, none⟩) (m + 1) c) l from by rw [hW]; exact Kd.R_drew HO.out)
    have HBW := Aside0.mk (show Only g w W from by rw [hW]; exact (Only.refl _ _).drew)
    clear hW
    simp only [List.take_succ_cons, List.take_zero, List.drop_succ_cons, List.drop_zero]
    repeat still_step
    refine wpStill_nil ?_
    clear hw2 hw3 hw4 hw5 hw6 hw7 hw8 hw9
    go_wp2_with (first
      | ((with_reducible refine gate_builtin (b := .append) (xs := #[.tmp 22, .tmp 25]) rfl ?_); refine Kd.R_delete kPt (w0 := W) B rfl (.tmp 22) (.tmp 25) 58 75 rfl Tryd.underlying58 szPt (g := g) (n := m + 1) (c := c) (k := i) rfl rfl ?hA ?hm HOW.out (by omega) (Below.refl _ _) ?hb ?_; (case hA => simp [hcn, Addr.add_mid, kPt, flat]); (case hm => omega); (case hb => exact Nat.le_trans hB HBW.out.size); intro w1 ho1 hb1 hg1; rw [Nat.add_sub_cancel] at ho1; rw [Nat.add_sub_cancel]; have HO1 := Aside0.mk ho1; have HG1 := Aside0.mk (HBW.out.trans hg1); obtain ⟨he1, he2, he3, cur, hk1, hk2, hk3⟩ := R_block ho1; have HK1 := Aside0.mk hk1; have HK2 := Aside0.mk hk2; clear ho1 hb1 hg1 hk1 hk2 hk3 he1 he2 he3)
      | ((with_reducible refine gate_builtin (b := .clear) (xs := #[.tmp 31]) rfl ?_); refine wpList_clear_rows rfl (.tmp 31) 58 rfl 75 (.agg (ptL Pt.zero).toArray) 36 Tryd.underlying58 zero_pt zcPt zoPt _ _ _ rfl g (m * 36) cur 75 HK1.out ?hp ?hf ?_; (case hp => intro _; rfl); (case hf => have := HK2.out; omega); intro w2 Z hZ hg2 ho2; have HZ := Aside0.mk hZ; have HG2 := Aside0.mk hg2; have HO2 := Aside0.mk ho2; clear hZ hg2 ho2))
    go_ret
    refine ⟨rfl, ?_, HG1.out.trans HO2.out⟩
    exact R_tail HO1.out HK1.out HG2.out (Nat.le_refl _) (by have := HK2.out; have := HZ.out; omega)
  case pos =>
    go_enter Tryd.func83, Tryd.ntmps83
    go_wp2
    refine still_tail_at 6 (by kernel_rfl) (by kernel_rfl) ?_
    intro W hW
    have HOW := Aside0.mk (show Kd.R kPt 75 W B ok (.slice (some ⟨g, 0, none⟩) (m + 1) c) l from by rw [hW]; exact Kd.R_drew HO.out)
    have HBW := Aside0.mk (show Only g w W from by rw [hW]; exact (Only.refl _ _).drew)
    clear hW
    simp only [List.take_succ_cons, List.take_zero, List.drop_succ_cons, List.drop_zero]
    repeat still_step
    refine wpStill_nil ?_
    clear hw2 hw3 hw4 hw5 hw6 hw7 hw8 hw9
    go_wp2_with (first
      | ((with_reducible refine gate_builtin (b := .append) (xs := #[.tmp 22, .tmp 25]) rfl ?_); refine Kd.R_delete kPt (w0 := W) B rfl (.tmp 22) (.tmp 25) 58 75 rfl Tryd.underlying58 szPt (g := g) (n := m + 1) (c := c) (k := i) rfl rfl ?hA ?hm HOW.out (by omega) (Below.refl _ _) ?hb ?_; (case hA => simp [hcc, Addr.add_mid, kPt, flat]); (case hm => omega); (case hb => exact Nat.le_trans hB HBW.out.size); intro w1 ho1 hb1 hg1; rw [Nat.add_sub_cancel] at ho1; rw [Nat.add_sub_cancel]; have HO1 := Aside0.mk ho1; have HG1 := Aside0.mk (HBW.out.trans hg1); obtain ⟨he1, he2, he3, cur, hk1, hk2, hk3⟩ := R_block ho1; have HK1 := Aside0.mk hk1; have HK2 := Aside0.mk hk2; clear ho1 hb1 hg1 hk1 hk2 hk3 he1 he2 he3)
      | ((with_reducible refine gate_builtin (b := .clear) (xs := #[.tmp 31]) rfl ?_); refine wpList_clear_rows rfl (.tmp 31) 58 rfl 75 (.agg (ptL Pt.zero).toArray) 36 Tryd.underlying58 zero_pt zcPt zoPt _ _ _ rfl g (m * 36) cur 75 HK1.out ?hp ?hf ?_; (case hp => intro _; rfl); (case hf => have := HK2.out; omega); intro w2 Z hZ hg2 ho2; have HZ := Aside0.mk hZ; have HG2 := Aside0.mk hg2; have HO2 := Aside0.mk ho2; clear hZ hg2 ho2))
    go_ret
    refine ⟨rfl, ?_, HG1.out.trans HO2.out⟩
    exact R_tail HO1.out HK1.out HG2.out (Nat.le_refl _) (by have := HK2.out; have := HZ.out; omega)
theorem R_some {e : Nat} {W : World} {B n c : Nat} {ok : Nat → Prop} {A : Option Addr} {l : List Pt} (h : Kd.R kPt e W B ok (.slice A n c) l) (hl : 0 < l.length) : ∃ g, A = some ⟨g, 0, none⟩ ∧ B ≤ g ∧ g < W.heap.size := by
  have hlt := Kd.R_lt h
  have hb := Kd.R_base h
  obtain ⟨h0, inner, h1, h2⟩ := h
  rcases h1.2 with ⟨hv, hn⟩ | ⟨g', cap', cur', hv, _⟩
  · omega
  · injection hv with ha
    subst ha
    exact ⟨g', rfl, hb g' rfl, hlt g' rfl⟩
theorem Delete_at (g c i B : Nat) (ok : Nat → Prop) (l : List Pt) (w : World) (hO : Kd.R kPt 75 w B ok (.slice (some ⟨g, 0, none⟩) l.length c) l) (hi : i < l.length) (hn : l.length ≤ 1000) (hB : B ≤ w.heap.size) :
    Calls Tryd.prog 83 #[.slice (some ⟨g, 0, none⟩) l.length c, .int .i64 (i : Int), .int .i64 ((i : Int) + 1)] w fun e w' => e = .returned (.slice (some ⟨g, 0, none⟩) (l.length - 1) c) ∧ Kd.R kPt 75 w' B ok (.slice (some ⟨g, 0, none⟩) (l.length - 1) c) (l.eraseIdx i) ∧ Only g w w' := by
  obtain ⟨m, hm⟩ : ∃ m, l.length = m + 1 := ⟨l.length - 1, by omega⟩
  rw [hm] at hO ⊢
  exact Delete_calls g m c i B ok l w hO (by omega) (by omega) hB
end Go.Proofs.YtiohgpcbdefokaaDoor.B
/- What a record makes of a state: (State).own, (State).begins. No condition. -/
namespace Go.Proofs.YtiohgpcbdefokaaDoor.B
open Go.RowKit Go.Proofs.YtiohgpcbdefokaaDoorW.PrintWords Go.Proofs.YtiohgpcbdefokaaDoor.RowLaws
attribute [local go_sem ↓ high] lvO_hs ldO_hs stO_hs lvO_pt ldO_pt stO_pt zero_pt eqA_pt lvO_ptR ldO_ptR stO_ptR zero_ptR eqA_ptR lvO_rc ldO_rc stO_rc zero_rc eqA_rc lvO_rcR ldO_rcR stO_rcR zero_rcR eqA_rcR lvO_tk ldO_tk stO_tk zero_tk eqA_tk lvO_tkR ldO_tkR stO_tkR zero_tkR eqA_tkR lvO_it ldO_it stO_it zero_it eqA_it blO_pt blO_ptR blO_rc blO_rcR blO_tk blO_tkR blO_it bsO_pt bsO_ptR bsO_rc bsO_rcR bsO_it
attribute [local go_sem high] rowAt_setCell rowAt_setRow cell_setRow_ne isRow_setRow_ne rowAt_alloc rowAt_drew isRow_alloc isRow_drew isRow_setCell rowRun_some okL_hs ldV_hs ldA_hs stA_hs setRow_alloc get_pt_id get_pt_path cut_pt_sum get_pt_size get_pt_off cut_pt okL_pt size_pt lenb_pt eta_pt ldV_pt ldA_pt stA_pt ldV_ptR ldA_ptR stA_ptR get_rc_kind get_rc_id get_rc_path cut_rc_sum get_rc_size get_rc_off cut_rc okL_rc size_rc lenb_rc eta_rc ldV_rc ldA_rc stA_rc ldV_rcR ldA_rcR stA_rcR get_tk_path cut_tk_sum get_tk_size get_tk_off cut_tk_old cut_tk okL_tk size_tk lenb_tk eta_tk ldV_tk ldA_tk stA_tk ldV_tkR ldA_tkR stA_tkR get_it_path get_it_dir get_it_size cut_it_sum cut_it okL_it size_it lenb_it eta_it ldV_it ldA_it stA_it bld_pt_01234 bld_pt_0123 bld_pt_z bld_ptR_01234 bld_ptR_0123 bld_ptR_z bld_rc_012345 bld_rc_015 bld_rc_01 bld_rc_z bld_rc_01234 bld_rc_24 bld_rc_05 bld_rc_0 bld_rcR_012345 bld_rcR_015 bld_rcR_01 bld_rcR_z bld_rcR_01234 bld_rcR_24 bld_rcR_05 bld_rcR_0 bld_tk_01234 bld_tk_0 bld_tk_z bld_tkR_01234 bld_tkR_0 bld_tkR_z bld_it_0123 bld_it_023 bld_it_01 bld_it_0 bld_it_z bs0_pt bs1_pt bs0_ptR bs1_ptR bs0_rc bs1_rc bs0_rcR bs1_rcR bs0_it bs1_it
theorem grown_cell {W w1 : World} {row : Option Nat} {g o : Nat} {v : Value} (hg : W.grownBy w1 row) (hne : row ≠ some g) (hc : W.cell? ⟨g, o, none⟩ = some v) : w1.cell? ⟨g, o, none⟩ = some v :=
  (World.cell?_of_block (hg.block g (World.block_lt_of_cell? _ _ hc) (fun e => hne e.symm))).trans hc
theorem grown_froz {W w1 : World} {row : Option Nat} {g o : Nat} (hg : W.grownBy w1 row) (hne : row ≠ some g) (hl : g < W.heap.size) (hf : W.frozen? ⟨g, o, none⟩ = false) : w1.frozen? ⟨g, o, none⟩ = false :=
  (World.frozen?_of_block (hg.block g hl (fun e => hne e.symm))).trans hf
set_option maxHeartbeats 4000000 in
set_option maxRecDepth 100000 in
theorem ownS_calls (A : Option Addr) (c : Nat) (l : List Pt) (nx : Int) (w : World) (hC : Kd.C kPt w A l.length l) (hc : l.length ≤ c) (hlen : l.length ≤ 1000) :
    Calls Tryd.prog 79 #[.agg #[.slice A l.length c, .int .i64 nx]] w fun e w' => ∃ v : Value, e = .returned (.agg #[v, .int .i64 nx]) ∧ Kd.R kPt 75 w' w.heap.size (fun _ => True) v l ∧ Below w.heap.size w w' := by
  have HC := Aside0.mk hC
  clear hC
  go_enter Tryd.func79, Tryd.ntmps79
  go_wp2_with (go_at_call 124; refine (Clone_calls A c l _ (Kd.C_below HC.out ?_) hc hlen).mono ?_; (exact below_alloc (below_alloc (Below.refl _ _) _) _); rintro e w2 ⟨v, rfl, ho, hb2⟩; obtain ⟨hcl, hfz⟩ := bcell hb2; obtain ⟨A2, c2, rfl⟩ := Kd.R_slice ho; have HO2 := Aside0.mk (Kd.R_lower (base' := w.heap.size + 1 + 1) ho (by simp)); have HB2 := Aside0.mk (Below.trans (below_alloc (below_alloc (Below.refl w.heap.size w) _) _) (hb2.mono (by simp; omega))); have c0_0 : w2.cell? ⟨w.heap.size, 0, none⟩ = some (.slice A l.length c) := (by rw [hcl _ _ (by simp; try omega)]; first | (go_simp; done) | (simp [*]; done)); have f0_0 : w2.frozen? ⟨w.heap.size, 0, none⟩ = false := (by rw [hfz _ _ (by simp; try omega)]; first | (go_simp; done) | (simp [*]; done)); have c0_1 : w2.cell? ⟨w.heap.size, 1, none⟩ = some (.int .i64 nx) := (by rw [hcl _ _ (by simp; try omega)]; first | (go_simp; done) | (simp [*]; done)); have f0_1 : w2.frozen? ⟨w.heap.size, 1, none⟩ = false := (by rw [hfz _ _ (by simp; try omega)]; first | (go_simp; done) | (simp [*]; done)); have c1_0 : w2.cell? ⟨w.heap.size + 1, 0, none⟩ = some (.slice none 0 0) := (by rw [hcl _ _ (by simp; try omega)]; first | (go_simp; done) | (simp [*]; done)); have f1_0 : w2.frozen? ⟨w.heap.size + 1, 0, none⟩ = false := (by rw [hfz _ _ (by simp; try omega)]; first | (go_simp; done) | (simp [*]; done)); have c1_1 : w2.cell? ⟨w.heap.size + 1, 1, none⟩ = some (.int .i64 0) := (by rw [hcl _ _ (by simp; try omega)]; first | (go_simp; done) | (simp [*]; done)); have f1_1 : w2.frozen? ⟨w.heap.size + 1, 1, none⟩ = false := (by rw [hfz _ _ (by simp; try omega)]; first | (go_simp; done) | (simp [*]; done)); clear ho hb2 hcl hfz)
  refine bodyPost_ret (v := .agg #[.slice A2 l.length c2, .int .i64 nx]) (by simp [results, Tryd.results79, go_sem, *]) rfl ⟨_, rfl, ?_, ?_⟩
  · exact Kd.R_lower (flat_put (flat_put (flat_put HO2.out (by omega)) (by omega)) (by omega)) (by omega)
  · exact below_setCell (below_setCell (below_setCell HB2.out (by omega) _) (by omega) _) (by omega) _
end Go.Proofs.YtiohgpcbdefokaaDoor.B
/- (State).begins: a part more, or none. No condition. -/
namespace Go.Proofs.YtiohgpcbdefokaaDoor.B
open Go.RowKit Go.Proofs.YtiohgpcbdefokaaDoorW.PrintWords Go.Proofs.YtiohgpcbdefokaaDoor.RowLaws
attribute [local go_sem ↓ high] lvO_hs ldO_hs stO_hs lvO_pt ldO_pt stO_pt zero_pt eqA_pt lvO_ptR ldO_ptR stO_ptR zero_ptR eqA_ptR lvO_rc ldO_rc stO_rc zero_rc eqA_rc lvO_rcR ldO_rcR stO_rcR zero_rcR eqA_rcR lvO_tk ldO_tk stO_tk zero_tk eqA_tk lvO_tkR ldO_tkR stO_tkR zero_tkR eqA_tkR lvO_it ldO_it stO_it zero_it eqA_it blO_pt blO_ptR blO_rc blO_rcR blO_tk blO_tkR blO_it bsO_pt bsO_ptR bsO_rc bsO_rcR bsO_it
attribute [local go_sem high] rowAt_setCell rowAt_setRow cell_setRow_ne isRow_setRow_ne rowAt_alloc rowAt_drew isRow_alloc isRow_drew isRow_setCell rowRun_some okL_hs ldV_hs ldA_hs stA_hs setRow_alloc get_pt_id get_pt_path cut_pt_sum get_pt_size get_pt_off cut_pt okL_pt size_pt lenb_pt eta_pt ldV_pt ldA_pt stA_pt ldV_ptR ldA_ptR stA_ptR get_rc_kind get_rc_id get_rc_path cut_rc_sum get_rc_size get_rc_off cut_rc okL_rc size_rc lenb_rc eta_rc ldV_rc ldA_rc stA_rc ldV_rcR ldA_rcR stA_rcR get_tk_path cut_tk_sum get_tk_size get_tk_off cut_tk_old cut_tk okL_tk size_tk lenb_tk eta_tk ldV_tk ldA_tk stA_tk ldV_tkR ldA_tkR stA_tkR get_it_path get_it_dir get_it_size cut_it_sum cut_it okL_it size_it lenb_it eta_it ldV_it ldA_it stA_it bld_pt_01234 bld_pt_0123 bld_pt_z bld_ptR_01234 bld_ptR_0123 bld_ptR_z bld_rc_012345 bld_rc_015 bld_rc_01 bld_rc_z bld_rc_01234 bld_rc_24 bld_rc_05 bld_rc_0 bld_rcR_012345 bld_rcR_015 bld_rcR_01 bld_rcR_z bld_rcR_01234 bld_rcR_24 bld_rcR_05 bld_rcR_0 bld_tk_01234 bld_tk_0 bld_tk_z bld_tkR_01234 bld_tkR_0 bld_tkR_z bld_it_0123 bld_it_023 bld_it_01 bld_it_0 bld_it_z bs0_pt bs1_pt bs0_ptR bs1_ptR bs0_rc bs1_rc bs0_rcR bs1_rcR bs0_it bs1_it
structure St where
  parts : List Pt
  next : Int
deriving DecidableEq
def St.zero : St := ⟨[], 0⟩
def beginP (s : St) (r : Rc) : St × Bool :=
  if (findP s.parts r.path).2 = true ∨ r.id < s.next ∨ 64 ≤ s.parts.length then (s, false)
  else (⟨s.parts ++ [⟨r.id, r.path, r.sum, r.size, 0⟩], r.id + 1⟩, true)
set_option maxHeartbeats 4000000 in
set_option maxRecDepth 100000 in
theorem begins_calls (A : Option Addr) (c : Nat) (l : List Pt) (nx : Int) (r : Rc) (B : Nat) (w : World) (hO : Kd.R kPt 75 w B (fun _ => True) (.slice A l.length c) l) (hlen : l.length ≤ 64) (hB : B ≤ w.heap.size) (hid : r.id ≤ 2199023255552) (hid0 : -9223372036854775808 ≤ r.id) :
    Calls Tryd.prog 82 #[.agg #[.slice A l.length c, .int .i64 nx], .agg (rcL r).toArray] w fun e w' => ∃ v : Value, e = .returned (.tuple #[.agg #[v, .int .i64 (beginP ⟨l, nx⟩ r).1.next], .bool (beginP ⟨l, nx⟩ r).2]) ∧ Kd.R kPt 75 w' B (fun _ => True) v (beginP ⟨l, nx⟩ r).1.parts ∧ Below B w w' := by
  obtain ⟨hl0, hc, hC⟩ := Kd.R_reads' hO
  clear hl0
  have HC := Aside0.mk hC
  have HO := Aside0.mk hO
  clear hO hC
  have HNE := Aside0.mk (show ∀ k, w.heap.size ≤ k → (Value.slice A l.length c).ownBlock ≠ some k from fun k hk e => by have := Kd.R_lt HO.out k e; omega)
  have hw1 : IntKind.i64.wrap (r.id + 1) = r.id + 1 := IntWalk.i64_in _ (by omega)
  have HF := Aside0.mk (show findP l r.path = ((findP l r.path).1, (findP l r.path).2) from rfl)
  obtain ⟨q, hq⟩ : ∃ q, (findP l r.path).1 = q := ⟨_, rfl⟩
  by_cases hf : (findP l r.path).2 = true
  · have HP := Aside0.mk (show beginP ⟨l, nx⟩ r = (⟨l, nx⟩, false) by unfold beginP; rw [if_pos (.inl hf)])
    rw [hf, hq] at HF
    clear hf hq
    go_enter Tryd.func82, Tryd.ntmps82
    go_wp2_with (go_at_call 33; refine (Find_calls A c l nx r.path _ (Kd.C_below HC.out ?_) (Nat.le_trans hlen (by decide))).mono ?_; (exact below_alloc (below_alloc (below_alloc (Below.refl _ _) _) _) _); rintro e w2 ⟨rfl, hb2⟩; rw [HF.out]; obtain ⟨hcl, hfz⟩ := bcell hb2; have z0 : ¬ (w.heap.size = w2.heap.size) := (by have h_ := hb2.size; simp at h_; omega); have y0 : w.heap.size < w2.heap.size := (by have h_ := hb2.size; simp at h_; omega); have c0_0 : w2.cell? ⟨w.heap.size, 0, none⟩ = some (.slice A l.length c) := (by rw [hcl _ _ (by simp; try omega)]; first | (go_simp; done) | (simp [*]; done)); have f0_0 : w2.frozen? ⟨w.heap.size, 0, none⟩ = false := (by rw [hfz _ _ (by simp; try omega)]; first | (go_simp; done) | (simp [*]; done)); have c0_1 : w2.cell? ⟨w.heap.size, 1, none⟩ = some (.int .i64 nx) := (by rw [hcl _ _ (by simp; try omega)]; first | (go_simp; done) | (simp [*]; done)); have f0_1 : w2.frozen? ⟨w.heap.size, 1, none⟩ = false := (by rw [hfz _ _ (by simp; try omega)]; first | (go_simp; done) | (simp [*]; done)); have z1 : ¬ (w.heap.size + 1 = w2.heap.size) := (by have h_ := hb2.size; simp at h_; omega); have y1 : w.heap.size + 1 < w2.heap.size := (by have h_ := hb2.size; simp at h_; omega); have c1_1 : w2.cell? ⟨w.heap.size + 1, 1, none⟩ = some (.int .i64 r.id) := (by rw [hcl _ _ (by simp; try omega)]; first | (go_simp; done) | (simp [*]; done)); have c1_2 : w2.cell? ⟨w.heap.size + 1, 2, none⟩ = some (.string r.path) := (by rw [hcl _ _ (by simp; try omega)]; first | (go_simp; done) | (simp [*]; done)); have c1_35 : w2.cell? ⟨w.heap.size + 1, 35, none⟩ = some (.int .i64 r.size) := (by rw [hcl _ _ (by simp; try omega)]; first | (go_simp; done) | (simp [*]; done)); have z2 : ¬ (w.heap.size + 1 + 1 = w2.heap.size) := (by have h_ := hb2.size; simp at h_; omega); have y2 : w.heap.size + 1 + 1 < w2.heap.size := (by have h_ := hb2.size; simp at h_; omega); have c2_0 : w2.cell? ⟨w.heap.size + 1 + 1, 0, none⟩ = some (.slice none 0 0) := (by rw [hcl _ _ (by simp; try omega)]; first | (go_simp; done) | (simp [*]; done)); have f2_0 : w2.frozen? ⟨w.heap.size + 1 + 1, 0, none⟩ = false := (by rw [hfz _ _ (by simp; try omega)]; first | (go_simp; done) | (simp [*]; done)); have c2_1 : w2.cell? ⟨w.heap.size + 1 + 1, 1, none⟩ = some (.int .i64 0) := (by rw [hcl _ _ (by simp; try omega)]; first | (go_simp; done) | (simp [*]; done)); have f2_1 : w2.frozen? ⟨w.heap.size + 1 + 1, 1, none⟩ = false := (by rw [hfz _ _ (by simp; try omega)]; first | (go_simp; done) | (simp [*]; done)); have r0 : rowAt w2 ⟨w.heap.size + 1, 3, none⟩ 32 = some (hsL r.sum) := (by rw [rowAt_below hb2 (by simp; try omega)]; first | (go_simp; done) | (simp [*]; done)); have HO2 := Aside0.mk (Kd.R_below (Kd.R_alloc (Kd.R_alloc (Kd.R_alloc HO.out _) _) _) hb2); have HB2 := Aside0.mk (Below.trans (below_alloc (below_alloc (below_alloc (Below.refl w.heap.size w) _) _) _) (hb2.mono (by simp; omega))); clear hb2 hcl hfz)
    refine bodyPost_ret (v := .tuple #[.agg #[.slice A l.length c, .int .i64 nx], .bool false]) (by simp [results, Tryd.results82, go_sem, *]) rfl ⟨_, by rw [HP.out], ?_, ?_⟩
    · rw [HP.out]; refine Kd.R_below HO.out ?_; have hs2 := HB2.out.size; (repeat' (first | exact HB2.out | (with_reducible refine below_setCell ?_ ?_ _) | (with_reducible refine below_setRow ?_ ?_ _) | (with_reducible refine Below.alloc ?_ ?_ _) | (with_reducible refine below_drew ?_) | (with_reducible exact Below.refl _ _) | omega | (simp; done) | (simp; omega)))
    · refine Below.mono ?_ hB; have hs2 := HB2.out.size; (repeat' (first | exact HB2.out | (with_reducible refine below_setCell ?_ ?_ _) | (with_reducible refine below_setRow ?_ ?_ _) | (with_reducible refine Below.alloc ?_ ?_ _) | (with_reducible refine below_drew ?_) | (with_reducible exact Below.refl _ _) | omega | (simp; done) | (simp; omega)))
  · have hf0 : (findP l r.path).2 = false := by simpa using hf
    rw [hf0, hq] at HF
    by_cases h1 : r.id < nx
    · have HP := Aside0.mk (show beginP ⟨l, nx⟩ r = (⟨l, nx⟩, false) by unfold beginP; rw [if_pos (.inr (.inl h1))])
      clear hf hf0 hq
      go_enter Tryd.func82, Tryd.ntmps82
      go_wp2_with (go_at_call 33; refine (Find_calls A c l nx r.path _ (Kd.C_below HC.out ?_) (Nat.le_trans hlen (by decide))).mono ?_; (exact below_alloc (below_alloc (below_alloc (Below.refl _ _) _) _) _); rintro e w2 ⟨rfl, hb2⟩; rw [HF.out]; obtain ⟨hcl, hfz⟩ := bcell hb2; have z0 : ¬ (w.heap.size = w2.heap.size) := (by have h_ := hb2.size; simp at h_; omega); have y0 : w.heap.size < w2.heap.size := (by have h_ := hb2.size; simp at h_; omega); have c0_0 : w2.cell? ⟨w.heap.size, 0, none⟩ = some (.slice A l.length c) := (by rw [hcl _ _ (by simp; try omega)]; first | (go_simp; done) | (simp [*]; done)); have f0_0 : w2.frozen? ⟨w.heap.size, 0, none⟩ = false := (by rw [hfz _ _ (by simp; try omega)]; first | (go_simp; done) | (simp [*]; done)); have c0_1 : w2.cell? ⟨w.heap.size, 1, none⟩ = some (.int .i64 nx) := (by rw [hcl _ _ (by simp; try omega)]; first | (go_simp; done) | (simp [*]; done)); have f0_1 : w2.frozen? ⟨w.heap.size, 1, none⟩ = false := (by rw [hfz _ _ (by simp; try omega)]; first | (go_simp; done) | (simp [*]; done)); have z1 : ¬ (w.heap.size + 1 = w2.heap.size) := (by have h_ := hb2.size; simp at h_; omega); have y1 : w.heap.size + 1 < w2.heap.size := (by have h_ := hb2.size; simp at h_; omega); have c1_1 : w2.cell? ⟨w.heap.size + 1, 1, none⟩ = some (.int .i64 r.id) := (by rw [hcl _ _ (by simp; try omega)]; first | (go_simp; done) | (simp [*]; done)); have c1_2 : w2.cell? ⟨w.heap.size + 1, 2, none⟩ = some (.string r.path) := (by rw [hcl _ _ (by simp; try omega)]; first | (go_simp; done) | (simp [*]; done)); have c1_35 : w2.cell? ⟨w.heap.size + 1, 35, none⟩ = some (.int .i64 r.size) := (by rw [hcl _ _ (by simp; try omega)]; first | (go_simp; done) | (simp [*]; done)); have z2 : ¬ (w.heap.size + 1 + 1 = w2.heap.size) := (by have h_ := hb2.size; simp at h_; omega); have y2 : w.heap.size + 1 + 1 < w2.heap.size := (by have h_ := hb2.size; simp at h_; omega); have c2_0 : w2.cell? ⟨w.heap.size + 1 + 1, 0, none⟩ = some (.slice none 0 0) := (by rw [hcl _ _ (by simp; try omega)]; first | (go_simp; done) | (simp [*]; done)); have f2_0 : w2.frozen? ⟨w.heap.size + 1 + 1, 0, none⟩ = false := (by rw [hfz _ _ (by simp; try omega)]; first | (go_simp; done) | (simp [*]; done)); have c2_1 : w2.cell? ⟨w.heap.size + 1 + 1, 1, none⟩ = some (.int .i64 0) := (by rw [hcl _ _ (by simp; try omega)]; first | (go_simp; done) | (simp [*]; done)); have f2_1 : w2.frozen? ⟨w.heap.size + 1 + 1, 1, none⟩ = false := (by rw [hfz _ _ (by simp; try omega)]; first | (go_simp; done) | (simp [*]; done)); have r0 : rowAt w2 ⟨w.heap.size + 1, 3, none⟩ 32 = some (hsL r.sum) := (by rw [rowAt_below hb2 (by simp; try omega)]; first | (go_simp; done) | (simp [*]; done)); have HO2 := Aside0.mk (Kd.R_below (Kd.R_alloc (Kd.R_alloc (Kd.R_alloc HO.out _) _) _) hb2); have HB2 := Aside0.mk (Below.trans (below_alloc (below_alloc (below_alloc (Below.refl w.heap.size w) _) _) _) (hb2.mono (by simp; omega))); clear hb2 hcl hfz)
      refine bodyPost_ret (v := .tuple #[.agg #[.slice A l.length c, .int .i64 nx], .bool false]) (by simp [results, Tryd.results82, go_sem, *]) rfl ⟨_, by rw [HP.out], ?_, ?_⟩
      · rw [HP.out]; refine Kd.R_below HO.out ?_; have hs2 := HB2.out.size; (repeat' (first | exact HB2.out | (with_reducible refine below_setCell ?_ ?_ _) | (with_reducible refine below_setRow ?_ ?_ _) | (with_reducible refine Below.alloc ?_ ?_ _) | (with_reducible refine below_drew ?_) | (with_reducible exact Below.refl _ _) | omega | (simp; done) | (simp; omega)))
      · refine Below.mono ?_ hB; have hs2 := HB2.out.size; (repeat' (first | exact HB2.out | (with_reducible refine below_setCell ?_ ?_ _) | (with_reducible refine below_setRow ?_ ?_ _) | (with_reducible refine Below.alloc ?_ ?_ _) | (with_reducible refine below_drew ?_) | (with_reducible exact Below.refl _ _) | omega | (simp; done) | (simp; omega)))
    · by_cases h2 : 64 ≤ l.length
      · have HP := Aside0.mk (show beginP ⟨l, nx⟩ r = (⟨l, nx⟩, false) by unfold beginP; rw [if_pos (.inr (.inr h2))])
        have h3 : (64 : Int) ≤ (l.length : Int) := by omega
        clear hf hf0 hq
        go_enter Tryd.func82, Tryd.ntmps82
        go_wp2_with (go_at_call 33; refine (Find_calls A c l nx r.path _ (Kd.C_below HC.out ?_) (Nat.le_trans hlen (by decide))).mono ?_; (exact below_alloc (below_alloc (below_alloc (Below.refl _ _) _) _) _); rintro e w2 ⟨rfl, hb2⟩; rw [HF.out]; obtain ⟨hcl, hfz⟩ := bcell hb2; have z0 : ¬ (w.heap.size = w2.heap.size) := (by have h_ := hb2.size; simp at h_; omega); have y0 : w.heap.size < w2.heap.size := (by have h_ := hb2.size; simp at h_; omega); have c0_0 : w2.cell? ⟨w.heap.size, 0, none⟩ = some (.slice A l.length c) := (by rw [hcl _ _ (by simp; try omega)]; first | (go_simp; done) | (simp [*]; done)); have f0_0 : w2.frozen? ⟨w.heap.size, 0, none⟩ = false := (by rw [hfz _ _ (by simp; try omega)]; first | (go_simp; done) | (simp [*]; done)); have c0_1 : w2.cell? ⟨w.heap.size, 1, none⟩ = some (.int .i64 nx) := (by rw [hcl _ _ (by simp; try omega)]; first | (go_simp; done) | (simp [*]; done)); have f0_1 : w2.frozen? ⟨w.heap.size, 1, none⟩ = false := (by rw [hfz _ _ (by simp; try omega)]; first | (go_simp; done) | (simp [*]; done)); have z1 : ¬ (w.heap.size + 1 = w2.heap.size) := (by have h_ := hb2.size; simp at h_; omega); have y1 : w.heap.size + 1 < w2.heap.size := (by have h_ := hb2.size; simp at h_; omega); have c1_1 : w2.cell? ⟨w.heap.size + 1, 1, none⟩ = some (.int .i64 r.id) := (by rw [hcl _ _ (by simp; try omega)]; first | (go_simp; done) | (simp [*]; done)); have c1_2 : w2.cell? ⟨w.heap.size + 1, 2, none⟩ = some (.string r.path) := (by rw [hcl _ _ (by simp; try omega)]; first | (go_simp; done) | (simp [*]; done)); have c1_35 : w2.cell? ⟨w.heap.size + 1, 35, none⟩ = some (.int .i64 r.size) := (by rw [hcl _ _ (by simp; try omega)]; first | (go_simp; done) | (simp [*]; done)); have z2 : ¬ (w.heap.size + 1 + 1 = w2.heap.size) := (by have h_ := hb2.size; simp at h_; omega); have y2 : w.heap.size + 1 + 1 < w2.heap.size := (by have h_ := hb2.size; simp at h_; omega); have c2_0 : w2.cell? ⟨w.heap.size + 1 + 1, 0, none⟩ = some (.slice none 0 0) := (by rw [hcl _ _ (by simp; try omega)]; first | (go_simp; done) | (simp [*]; done)); have f2_0 : w2.frozen? ⟨w.heap.size + 1 + 1, 0, none⟩ = false := (by rw [hfz _ _ (by simp; try omega)]; first | (go_simp; done) | (simp [*]; done)); have c2_1 : w2.cell? ⟨w.heap.size + 1 + 1, 1, none⟩ = some (.int .i64 0) := (by rw [hcl _ _ (by simp; try omega)]; first | (go_simp; done) | (simp [*]; done)); have f2_1 : w2.frozen? ⟨w.heap.size + 1 + 1, 1, none⟩ = false := (by rw [hfz _ _ (by simp; try omega)]; first | (go_simp; done) | (simp [*]; done)); have r0 : rowAt w2 ⟨w.heap.size + 1, 3, none⟩ 32 = some (hsL r.sum) := (by rw [rowAt_below hb2 (by simp; try omega)]; first | (go_simp; done) | (simp [*]; done)); have HO2 := Aside0.mk (Kd.R_below (Kd.R_alloc (Kd.R_alloc (Kd.R_alloc HO.out _) _) _) hb2); have HB2 := Aside0.mk (Below.trans (below_alloc (below_alloc (below_alloc (Below.refl w.heap.size w) _) _) _) (hb2.mono (by simp; omega))); clear hb2 hcl hfz)
        refine bodyPost_ret (v := .tuple #[.agg #[.slice A l.length c, .int .i64 nx], .bool false]) (by simp [results, Tryd.results82, go_sem, *]) rfl ⟨_, by rw [HP.out], ?_, ?_⟩
        · rw [HP.out]; refine Kd.R_below HO.out ?_; have hs2 := HB2.out.size; (repeat' (first | exact HB2.out | (with_reducible refine below_setCell ?_ ?_ _) | (with_reducible refine below_setRow ?_ ?_ _) | (with_reducible refine Below.alloc ?_ ?_ _) | (with_reducible refine below_drew ?_) | (with_reducible exact Below.refl _ _) | omega | (simp; done) | (simp; omega)))
        · refine Below.mono ?_ hB; have hs2 := HB2.out.size; (repeat' (first | exact HB2.out | (with_reducible refine below_setCell ?_ ?_ _) | (with_reducible refine below_setRow ?_ ?_ _) | (with_reducible refine Below.alloc ?_ ?_ _) | (with_reducible refine below_drew ?_) | (with_reducible exact Below.refl _ _) | omega | (simp; done) | (simp; omega)))
      · have HP := Aside0.mk (show beginP ⟨l, nx⟩ r = (⟨l ++ [⟨r.id, r.path, r.sum, r.size, 0⟩], r.id + 1⟩, true) by unfold beginP; rw [if_neg (fun h => h.elim hf (fun h => h.elim h1 h2))])
        have h3 : ¬ (64 : Int) ≤ (l.length : Int) := by omega
        clear hf hf0 hq
        go_enter Tryd.func82, Tryd.ntmps82
        go_wp2_with (first | (go_at_call 33; refine (Find_calls A c l nx r.path _ (Kd.C_below HC.out ?_) (Nat.le_trans hlen (by decide))).mono ?_; (exact below_alloc (below_alloc (below_alloc (Below.refl _ _) _) _) _); rintro e w2 ⟨rfl, hb2⟩; rw [HF.out]; obtain ⟨hcl, hfz⟩ := bcell hb2; have z0 : ¬ (w.heap.size = w2.heap.size) := (by have h_ := hb2.size; simp at h_; omega); have y0 : w.heap.size < w2.heap.size := (by have h_ := hb2.size; simp at h_; omega); have c0_0 : w2.cell? ⟨w.heap.size, 0, none⟩ = some (.slice A l.length c) := (by rw [hcl _ _ (by simp; try omega)]; first | (go_simp; done) | (simp [*]; done)); have f0_0 : w2.frozen? ⟨w.heap.size, 0, none⟩ = false := (by rw [hfz _ _ (by simp; try omega)]; first | (go_simp; done) | (simp [*]; done)); have c0_1 : w2.cell? ⟨w.heap.size, 1, none⟩ = some (.int .i64 nx) := (by rw [hcl _ _ (by simp; try omega)]; first | (go_simp; done) | (simp [*]; done)); have f0_1 : w2.frozen? ⟨w.heap.size, 1, none⟩ = false := (by rw [hfz _ _ (by simp; try omega)]; first | (go_simp; done) | (simp [*]; done)); have z1 : ¬ (w.heap.size + 1 = w2.heap.size) := (by have h_ := hb2.size; simp at h_; omega); have y1 : w.heap.size + 1 < w2.heap.size := (by have h_ := hb2.size; simp at h_; omega); have c1_1 : w2.cell? ⟨w.heap.size + 1, 1, none⟩ = some (.int .i64 r.id) := (by rw [hcl _ _ (by simp; try omega)]; first | (go_simp; done) | (simp [*]; done)); have c1_2 : w2.cell? ⟨w.heap.size + 1, 2, none⟩ = some (.string r.path) := (by rw [hcl _ _ (by simp; try omega)]; first | (go_simp; done) | (simp [*]; done)); have c1_35 : w2.cell? ⟨w.heap.size + 1, 35, none⟩ = some (.int .i64 r.size) := (by rw [hcl _ _ (by simp; try omega)]; first | (go_simp; done) | (simp [*]; done)); have z2 : ¬ (w.heap.size + 1 + 1 = w2.heap.size) := (by have h_ := hb2.size; simp at h_; omega); have y2 : w.heap.size + 1 + 1 < w2.heap.size := (by have h_ := hb2.size; simp at h_; omega); have c2_0 : w2.cell? ⟨w.heap.size + 1 + 1, 0, none⟩ = some (.slice none 0 0) := (by rw [hcl _ _ (by simp; try omega)]; first | (go_simp; done) | (simp [*]; done)); have f2_0 : w2.frozen? ⟨w.heap.size + 1 + 1, 0, none⟩ = false := (by rw [hfz _ _ (by simp; try omega)]; first | (go_simp; done) | (simp [*]; done)); have c2_1 : w2.cell? ⟨w.heap.size + 1 + 1, 1, none⟩ = some (.int .i64 0) := (by rw [hcl _ _ (by simp; try omega)]; first | (go_simp; done) | (simp [*]; done)); have f2_1 : w2.frozen? ⟨w.heap.size + 1 + 1, 1, none⟩ = false := (by rw [hfz _ _ (by simp; try omega)]; first | (go_simp; done) | (simp [*]; done)); have r0 : rowAt w2 ⟨w.heap.size + 1, 3, none⟩ 32 = some (hsL r.sum) := (by rw [rowAt_below hb2 (by simp; try omega)]; first | (go_simp; done) | (simp [*]; done)); have HO2 := Aside0.mk (Kd.R_below (Kd.R_alloc (Kd.R_alloc (Kd.R_alloc HO.out _) _) _) hb2); have HB2 := Aside0.mk (Below.trans (below_alloc (below_alloc (below_alloc (Below.refl w.heap.size w) _) _) _) (hb2.mono (by simp; omega))); clear hb2 hcl hfz) | ((with_reducible refine gate_builtin (b := .append) (xs := #[.tmp 31, .tmp 41]) rfl ?_); at_builtin; refine Kd.R_append kPt (w0 := w) B rfl (.tmp 31) (.tmp 41) 58 75 _ 72 rfl Tryd.underlying58 infoPt zcPt (by decide) (by decide) (.slice A l.length c) l ⟨r.id, r.path, r.sum, r.size, 0⟩ (ptL ⟨r.id, r.path, r.sum, r.size, 0⟩) (fun _ => True) (fun _ => False) rfl ?aX rfl (fun _ hk => hk.elim) (fun _ _ => trivial) (Kd.R_alloc HO2.out _) ?aB ?aS ?aL ?_; (case aX => first | rfl | (go_simp; done) | (simp; done)); (case aB => exact (HB2.out.mono hB).alloc (by omega) _); (case aS => simp; omega); (case aL => omega); intro v3 w3 ho3 hb3 hg3 hat3; have HNE3 := Aside0.mk (show ∀ k, w.heap.size ≤ k → k ≤ w.heap.size + 2 → v3.ownBlock ≠ some k from fun k hk hk2 e => by rcases hat3 with h | ⟨b, h, h2⟩; (exact HNE.out k hk (h.symm.trans e)); (rw [e] at h; injection h with h; simp at h2; omega)); have cg0_0 : w3.cell? ⟨w.heap.size, 0, none⟩ = some (.slice A l.length c) := grown_cell hg3 (HNE.out _ (by omega)) (by first | (go_simp; done) | (simp [*]; done)); have fg0_0 : w3.frozen? ⟨w.heap.size, 0, none⟩ = false := grown_froz hg3 (HNE.out _ (by omega)) (by simp; omega) (by first | (go_simp; done) | (simp [*]; done)); have cg0_1 : w3.cell? ⟨w.heap.size, 1, none⟩ = some (.int .i64 nx) := grown_cell hg3 (HNE.out _ (by omega)) (by first | (go_simp; done) | (simp [*]; done)); have fg0_1 : w3.frozen? ⟨w.heap.size, 1, none⟩ = false := grown_froz hg3 (HNE.out _ (by omega)) (by simp; omega) (by first | (go_simp; done) | (simp [*]; done)); have cg1_1 : w3.cell? ⟨w.heap.size + 1, 1, none⟩ = some (.int .i64 r.id) := grown_cell hg3 (HNE.out _ (by omega)) (by first | (go_simp; done) | (simp [*]; done)); have cg1_2 : w3.cell? ⟨w.heap.size + 1, 2, none⟩ = some (.string r.path) := grown_cell hg3 (HNE.out _ (by omega)) (by first | (go_simp; done) | (simp [*]; done)); have cg1_35 : w3.cell? ⟨w.heap.size + 1, 35, none⟩ = some (.int .i64 r.size) := grown_cell hg3 (HNE.out _ (by omega)) (by first | (go_simp; done) | (simp [*]; done)); have cg2_0 : w3.cell? ⟨w.heap.size + 1 + 1, 0, none⟩ = some (.slice none 0 0) := grown_cell hg3 (HNE.out _ (by omega)) (by first | (go_simp; done) | (simp [*]; done)); have fg2_0 : w3.frozen? ⟨w.heap.size + 1 + 1, 0, none⟩ = false := grown_froz hg3 (HNE.out _ (by omega)) (by simp; omega) (by first | (go_simp; done) | (simp [*]; done)); have cg2_1 : w3.cell? ⟨w.heap.size + 1 + 1, 1, none⟩ = some (.int .i64 0) := grown_cell hg3 (HNE.out _ (by omega)) (by first | (go_simp; done) | (simp [*]; done)); have fg2_1 : w3.frozen? ⟨w.heap.size + 1 + 1, 1, none⟩ = false := grown_froz hg3 (HNE.out _ (by omega)) (by simp; omega) (by first | (go_simp; done) | (simp [*]; done)); obtain ⟨A3, c3, rfl⟩ := Kd.R_slice ho3; have HO3 := Aside0.mk ho3; have HB3 := Aside0.mk hb3; have hs3 := Aside0.mk hg3.size; clear ho3 hb3 hg3 hat3))
        rw [HP.out]
        refine bodyPost_ret (v := .tuple #[.agg #[.slice A3 (l ++ [(⟨r.id, r.path, r.sum, r.size, 0⟩ : Pt)]).length c3, .int .i64 (r.id + 1)], .bool true]) (by simp [results, Tryd.results82, go_sem, *]) rfl ⟨_, rfl, ?_, ?_⟩
        · refine flat_keep (flat_keep (flat_keep (flat_keep HO3.out ?_) ?_) ?_) ?_ <;> exact HNE3.out _ (by omega) (by omega)
        · have hs3 := hs3.out; simp at hs3; (repeat' (first | exact HB3.out | (with_reducible refine below_setCell ?_ ?_ _) | (with_reducible refine below_setRow ?_ ?_ _) | (with_reducible refine Below.alloc ?_ ?_ _) | (with_reducible refine below_drew ?_) | (with_reducible exact Below.refl _ _) | omega | (simp; done) | (simp; omega)))
end Go.Proofs.YtiohgpcbdefokaaDoor.B
/- record.Step: what a record makes of a state. No condition. -/
namespace Go.Proofs.YtiohgpcbdefokaaDoor.B
open Go.RowKit Go.Proofs.YtiohgpcbdefokaaDoorW.PrintWords Go.Proofs.YtiohgpcbdefokaaDoor.RowLaws
attribute [local go_sem ↓ high] lvO_hs ldO_hs stO_hs lvO_pt ldO_pt stO_pt zero_pt eqA_pt lvO_ptR ldO_ptR stO_ptR zero_ptR eqA_ptR lvO_rc ldO_rc stO_rc zero_rc eqA_rc lvO_rcR ldO_rcR stO_rcR zero_rcR eqA_rcR lvO_tk ldO_tk stO_tk zero_tk eqA_tk lvO_tkR ldO_tkR stO_tkR zero_tkR eqA_tkR lvO_it ldO_it stO_it zero_it eqA_it blO_pt blO_ptR blO_rc blO_rcR blO_tk blO_tkR blO_it bsO_pt bsO_ptR bsO_rc bsO_rcR bsO_it
attribute [local go_sem high] rowAt_setCell rowAt_setRow cell_setRow_ne isRow_setRow_ne rowAt_alloc rowAt_drew isRow_alloc isRow_drew isRow_setCell rowRun_some okL_hs ldV_hs ldA_hs stA_hs setRow_alloc get_pt_id get_pt_path cut_pt_sum get_pt_size get_pt_off cut_pt okL_pt size_pt lenb_pt eta_pt ldV_pt ldA_pt stA_pt ldV_ptR ldA_ptR stA_ptR get_rc_kind get_rc_id get_rc_path cut_rc_sum get_rc_size get_rc_off cut_rc okL_rc size_rc lenb_rc eta_rc ldV_rc ldA_rc stA_rc ldV_rcR ldA_rcR stA_rcR get_tk_path cut_tk_sum get_tk_size get_tk_off cut_tk_old cut_tk okL_tk size_tk lenb_tk eta_tk ldV_tk ldA_tk stA_tk ldV_tkR ldA_tkR stA_tkR get_it_path get_it_dir get_it_size cut_it_sum cut_it okL_it size_it lenb_it eta_it ldV_it ldA_it stA_it bld_pt_01234 bld_pt_0123 bld_pt_z bld_ptR_01234 bld_ptR_0123 bld_ptR_z bld_rc_012345 bld_rc_015 bld_rc_01 bld_rc_z bld_rc_01234 bld_rc_24 bld_rc_05 bld_rc_0 bld_rcR_012345 bld_rcR_015 bld_rcR_01 bld_rcR_z bld_rcR_01234 bld_rcR_24 bld_rcR_05 bld_rcR_0 bld_tk_01234 bld_tk_0 bld_tk_z bld_tkR_01234 bld_tkR_0 bld_tkR_z bld_it_0123 bld_it_023 bld_it_01 bld_it_0 bld_it_z bs0_pt bs1_pt bs0_ptR bs1_ptR bs0_rc bs1_rc bs0_rcR bs1_rcR bs0_it bs1_it
theorem ptL_off (p : Pt) (x : Int) : (ptL p).take 35 ++ [.int .i64 x] ++ (ptL p).drop 36 = ptL { p with off := x } := by
  obtain ⟨b0, b1, b2, b3, b4, b5, b6, b7, b8, b9, b10, b11, b12, b13, b14, b15, b16, b17, b18, b19, b20, b21, b22, b23, b24, b25, b26, b27, b28, b29, b30, b31, e0⟩ := hs_lit p.sum
  simp [ptL, e0]
theorem part_cells {e : Nat} {W : World} {B c i g : Nat} {ok : Nat → Prop} {l : List Pt} {p : Pt} (h : Kd.R kPt e W B ok (.slice (some ⟨g, 0, none⟩) l.length c) l) (hx : l[i]? = some p) : W.cell? ⟨g, i * 36 + 34, none⟩ = some (.int .i64 p.size) ∧ W.cell? ⟨g, i * 36 + 35, none⟩ = some (.int .i64 p.off) := by
  have hi := List.getElem?_eq_some_iff.1 hx
  obtain ⟨b, o, hA, _, hr⟩ := flat_at (Kd.R_reads' h).2.2 (by decide) (Nat.lt_of_le_of_lt (Nat.zero_le _) hi.1)
  injection hA with hA
  injection hA with hb ho
  subst hb ho
  have h2 := (hr i hi.1).2
  rw [hi.2] at h2
  have h3 := h2 34 _ (get_pt_size p)
  have h4 := h2 35 _ (get_pt_off p)
  rw [Nat.zero_add] at h3 h4
  exact ⟨h3, h4⟩
/-- What a record makes of a state. -/
def stepP (s : St) (r : Rc) : St × Bool :=
  if r.kind = 0 then beginP s r
  else if r.kind = 4 then (if r.id < s.next then (s, false) else (⟨s.parts, r.id + 1⟩, true))
  else if r.kind = 1 then
    match s.parts.findIdx? (fun x => decide (x.id = r.id)) with
    | none => (s, false)
    | some i => match s.parts[i]? with
      | none => (s, false)
      | some p => if r.off < p.off ∨ p.size < r.off then (s, false) else (⟨s.parts.set i { p with off := r.off }, s.next⟩, true)
  else if r.kind = 2 ∨ r.kind = 3 then
    match s.parts.findIdx? (fun x => decide (x.id = r.id)) with
    | none => (s, false)
    | some i => (⟨s.parts.eraseIdx i, s.next⟩, true)
  else (s, false)
set_option linter.unusedVariables false in
set_option maxHeartbeats 8000000 in
set_option maxRecDepth 100000 in
theorem Step_other (A : Option Addr) (c : Nat) (l : List Pt) (nx : Int) (r : Rc) (w : World) (hC : Kd.C kPt w A l.length l) (hc : l.length ≤ c) (hlen : l.length ≤ 64) (hid : r.id ≤ 2199023255552) (hid0 : -9223372036854775808 ≤ r.id) (h0 : ¬ r.kind = 0) (h1 : ¬ r.kind = 1) (h2 : ¬ r.kind = 2) (h3 : ¬ r.kind = 3) (h4 : ¬ r.kind = 4) :
    Calls Tryd.prog 27 #[.agg #[.slice A l.length c, .int .i64 nx], .agg (rcL r).toArray] w fun e w' => ∃ v : Value, e = .returned (.tuple #[.agg #[v, .int .i64 (stepP ⟨l, nx⟩ r).1.next], .bool (stepP ⟨l, nx⟩ r).2]) ∧ Kd.R kPt 75 w' w.heap.size (fun _ => True) v (stepP ⟨l, nx⟩ r).1.parts ∧ Below w.heap.size w w' := by
  have HC := Aside0.mk hC
  clear hC
  have HP := Aside0.mk (show stepP ⟨l, nx⟩ r = (⟨l, nx⟩, false) by simp [stepP, *])
  go_enter Tryd.func27, Tryd.ntmps27
  go_wp2_with (first | (go_at_call 79; refine (ownS_calls A c l nx _ (Kd.C_below HC.out ?_) hc (Nat.le_trans hlen (by decide))).mono ?_; (exact below_alloc (below_alloc (below_alloc (Below.refl _ _) _) _) _); rintro e w2 ⟨v, rfl, ho, hb2⟩; obtain ⟨A2, c2, rfl⟩ := Kd.R_slice ho; obtain ⟨hcl, hfz⟩ := bcell hb2; have z0 : ¬ (w.heap.size = w2.heap.size) := (by have h_ := hb2.size; simp at h_; omega); have y0 : w.heap.size < w2.heap.size := (by have h_ := hb2.size; simp at h_; omega); have c0_0 : w2.cell? ⟨w.heap.size, 0, none⟩ = some (.slice A l.length c) := (by rw [hcl _ _ (by first | omega | (simp; done) | (simp; omega))]; first | (go_simp; done) | (simp [*]; done) | (simp [go_sem, *]; done)); have f0_0 : w2.frozen? ⟨w.heap.size, 0, none⟩ = false := (by rw [hfz _ _ (by first | omega | (simp; done) | (simp; omega))]; first | (go_simp; done) | (simp [*]; done) | (simp [go_sem, *]; done)); have c0_1 : w2.cell? ⟨w.heap.size, 1, none⟩ = some (.int .i64 nx) := (by rw [hcl _ _ (by first | omega | (simp; done) | (simp; omega))]; first | (go_simp; done) | (simp [*]; done) | (simp [go_sem, *]; done)); have f0_1 : w2.frozen? ⟨w.heap.size, 1, none⟩ = false := (by rw [hfz _ _ (by first | omega | (simp; done) | (simp; omega))]; first | (go_simp; done) | (simp [*]; done) | (simp [go_sem, *]; done)); have z1 : ¬ (w.heap.size + 1 = w2.heap.size) := (by have h_ := hb2.size; simp at h_; omega); have y1 : w.heap.size + 1 < w2.heap.size := (by have h_ := hb2.size; simp at h_; omega); have c1_0 : w2.cell? ⟨w.heap.size + 1, 0, none⟩ = some (.int .u8 r.kind) := (by rw [hcl _ _ (by first | omega | (simp; done) | (simp; omega))]; first | (go_simp; done) | (simp [*]; done) | (simp [go_sem, *]; done)); have c1_1 : w2.cell? ⟨w.heap.size + 1, 1, none⟩ = some (.int .i64 r.id) := (by rw [hcl _ _ (by first | omega | (simp; done) | (simp; omega))]; first | (go_simp; done) | (simp [*]; done) | (simp [go_sem, *]; done)); have c1_36 : w2.cell? ⟨w.heap.size + 1, 36, none⟩ = some (.int .i64 r.off) := (by rw [hcl _ _ (by first | omega | (simp; done) | (simp; omega))]; first | (go_simp; done) | (simp [*]; done) | (simp [go_sem, *]; done)); have z2 : ¬ (w.heap.size + 1 + 1 = w2.heap.size) := (by have h_ := hb2.size; simp at h_; omega); have y2 : w.heap.size + 1 + 1 < w2.heap.size := (by have h_ := hb2.size; simp at h_; omega); have c2_0 : w2.cell? ⟨w.heap.size + 1 + 1, 0, none⟩ = some (.slice none 0 0) := (by rw [hcl _ _ (by first | omega | (simp; done) | (simp; omega))]; first | (go_simp; done) | (simp [*]; done) | (simp [go_sem, *]; done)); have f2_0 : w2.frozen? ⟨w.heap.size + 1 + 1, 0, none⟩ = false := (by rw [hfz _ _ (by first | omega | (simp; done) | (simp; omega))]; first | (go_simp; done) | (simp [*]; done) | (simp [go_sem, *]; done)); have c2_1 : w2.cell? ⟨w.heap.size + 1 + 1, 1, none⟩ = some (.int .i64 0) := (by rw [hcl _ _ (by first | omega | (simp; done) | (simp; omega))]; first | (go_simp; done) | (simp [*]; done) | (simp [go_sem, *]; done)); have f2_1 : w2.frozen? ⟨w.heap.size + 1 + 1, 1, none⟩ = false := (by rw [hfz _ _ (by first | omega | (simp; done) | (simp; omega))]; first | (go_simp; done) | (simp [*]; done) | (simp [go_sem, *]; done)); have r0 : rowAt w2 ⟨w.heap.size + 1, 0, none⟩ 37 = some (rcL r) := (by rw [rowAt_below hb2 (by first | omega | (simp; done) | (simp; omega))]; first | (go_simp; done) | (simp [*]; done) | (simp [go_sem, *]; done)); have HO2 := Aside0.mk (Kd.R_lower (base' := w.heap.size + 1 + 1 + 1) ho (by simp)); have HB2 := Aside0.mk (Below.trans (below_alloc (below_alloc (below_alloc (Below.refl w.heap.size w) _) _) _) (hb2.mono (by simp; omega))); clear hb2 hcl hfz ho) | (go_at_call 80; refine (idx_id A2 c2 l r.id _ _ (Kd.R_reads' (flat_put (flat_put HO2.out (by omega)) (by omega))).2.2 (Nat.le_trans hlen (by decide)) ?hc1).mono ?_; (case hc1 => first | (go_simp; done) | (simp [go_sem, *]; done)); rintro e w3 ⟨rfl, hb3⟩; obtain ⟨hcl, hfz⟩ := bcell hb3; have zi0 : ¬ (w.heap.size = w3.heap.size) := (by have h_ := hb3.size; simp at h_; omega); have yi0 : w.heap.size < w3.heap.size := (by have h_ := hb3.size; simp at h_; omega); have ci0_0 : w3.cell? ⟨w.heap.size, 0, none⟩ = some (.slice A2 l.length c2) := (by rw [hcl _ _ (by first | omega | (simp; done) | (simp; omega))]; first | (go_simp; done) | (simp [*]; done) | (simp [go_sem, *]; done)); have fi0_0 : w3.frozen? ⟨w.heap.size, 0, none⟩ = false := (by rw [hfz _ _ (by first | omega | (simp; done) | (simp; omega))]; first | (go_simp; done) | (simp [*]; done) | (simp [go_sem, *]; done)); have ci0_1 : w3.cell? ⟨w.heap.size, 1, none⟩ = some (.int .i64 nx) := (by rw [hcl _ _ (by first | omega | (simp; done) | (simp; omega))]; first | (go_simp; done) | (simp [*]; done) | (simp [go_sem, *]; done)); have fi0_1 : w3.frozen? ⟨w.heap.size, 1, none⟩ = false := (by rw [hfz _ _ (by first | omega | (simp; done) | (simp; omega))]; first | (go_simp; done) | (simp [*]; done) | (simp [go_sem, *]; done)); have zi1 : ¬ (w.heap.size + 1 = w3.heap.size) := (by have h_ := hb3.size; simp at h_; omega); have yi1 : w.heap.size + 1 < w3.heap.size := (by have h_ := hb3.size; simp at h_; omega); have ci1_0 : w3.cell? ⟨w.heap.size + 1, 0, none⟩ = some (.int .u8 r.kind) := (by rw [hcl _ _ (by first | omega | (simp; done) | (simp; omega))]; first | (go_simp; done) | (simp [*]; done) | (simp [go_sem, *]; done)); have ci1_1 : w3.cell? ⟨w.heap.size + 1, 1, none⟩ = some (.int .i64 r.id) := (by rw [hcl _ _ (by first | omega | (simp; done) | (simp; omega))]; first | (go_simp; done) | (simp [*]; done) | (simp [go_sem, *]; done)); have ci1_36 : w3.cell? ⟨w.heap.size + 1, 36, none⟩ = some (.int .i64 r.off) := (by rw [hcl _ _ (by first | omega | (simp; done) | (simp; omega))]; first | (go_simp; done) | (simp [*]; done) | (simp [go_sem, *]; done)); have zi2 : ¬ (w.heap.size + 1 + 1 = w3.heap.size) := (by have h_ := hb3.size; simp at h_; omega); have yi2 : w.heap.size + 1 + 1 < w3.heap.size := (by have h_ := hb3.size; simp at h_; omega); have ci2_0 : w3.cell? ⟨w.heap.size + 1 + 1, 0, none⟩ = some (.slice none 0 0) := (by rw [hcl _ _ (by first | omega | (simp; done) | (simp; omega))]; first | (go_simp; done) | (simp [*]; done) | (simp [go_sem, *]; done)); have fi2_0 : w3.frozen? ⟨w.heap.size + 1 + 1, 0, none⟩ = false := (by rw [hfz _ _ (by first | omega | (simp; done) | (simp; omega))]; first | (go_simp; done) | (simp [*]; done) | (simp [go_sem, *]; done)); have ci2_1 : w3.cell? ⟨w.heap.size + 1 + 1, 1, none⟩ = some (.int .i64 0) := (by rw [hcl _ _ (by first | omega | (simp; done) | (simp; omega))]; first | (go_simp; done) | (simp [*]; done) | (simp [go_sem, *]; done)); have fi2_1 : w3.frozen? ⟨w.heap.size + 1 + 1, 1, none⟩ = false := (by rw [hfz _ _ (by first | omega | (simp; done) | (simp; omega))]; first | (go_simp; done) | (simp [*]; done) | (simp [go_sem, *]; done)); have ri0 : rowAt w3 ⟨w.heap.size + 1, 0, none⟩ 37 = some (rcL r) := (by rw [rowAt_below hb3 (by first | omega | (simp; done) | (simp; omega))]; first | (go_simp; done) | (simp [*]; done) | (simp [go_sem, *]; done)); have HO3 := Aside0.mk (Kd.R_below (flat_put (flat_put HO2.out (by omega)) (by omega)) hb3); have HB3 := Aside0.mk (Below.trans (below_setCell (below_setCell HB2.out (by omega) _) (by omega) _) (hb3.mono (by simp; omega))); clear hb3 hcl hfz))
  refine bodyPost_ret (v := .tuple #[.agg #[.slice A2 l.length c2, .int .i64 nx], .bool false]) (by simp [results, Tryd.results27, go_sem, *]) rfl ⟨_, by rw [HP.out], ?_, ?_⟩
  · rw [HP.out]; exact Kd.R_lower (flat_put (flat_put (HO3.out) (by omega)) (by omega)) (by omega)
  · have hs3 := HB3.out.size; (repeat' (first | exact HB3.out | (with_reducible refine below_setCell ?_ ?_ _) | (with_reducible refine below_setRow ?_ ?_ _) | (with_reducible refine Below.alloc ?_ ?_ _) | (with_reducible refine below_drew ?_) | (with_reducible refine pw_below_drewN ?_ _) | (with_reducible exact Below.refl _ _) | omega | (simp; done) | (simp; omega)))
set_option linter.unusedVariables false in
set_option maxHeartbeats 8000000 in
set_option maxRecDepth 100000 in
theorem Step_skip0 (A : Option Addr) (c : Nat) (l : List Pt) (nx : Int) (r : Rc) (w : World) (hC : Kd.C kPt w A l.length l) (hc : l.length ≤ c) (hlen : l.length ≤ 64) (hid : r.id ≤ 2199023255552) (hid0 : -9223372036854775808 ≤ r.id) (hk : r.kind = 4) (h1 : r.id < nx) :
    Calls Tryd.prog 27 #[.agg #[.slice A l.length c, .int .i64 nx], .agg (rcL r).toArray] w fun e w' => ∃ v : Value, e = .returned (.tuple #[.agg #[v, .int .i64 (stepP ⟨l, nx⟩ r).1.next], .bool (stepP ⟨l, nx⟩ r).2]) ∧ Kd.R kPt 75 w' w.heap.size (fun _ => True) v (stepP ⟨l, nx⟩ r).1.parts ∧ Below w.heap.size w w' := by
  have HC := Aside0.mk hC
  clear hC
  have HP := Aside0.mk (show stepP ⟨l, nx⟩ r = (⟨l, nx⟩, false) by simp [stepP, *])
  go_enter Tryd.func27, Tryd.ntmps27
  go_wp2_with (first | (go_at_call 79; refine (ownS_calls A c l nx _ (Kd.C_below HC.out ?_) hc (Nat.le_trans hlen (by decide))).mono ?_; (exact below_alloc (below_alloc (below_alloc (Below.refl _ _) _) _) _); rintro e w2 ⟨v, rfl, ho, hb2⟩; obtain ⟨A2, c2, rfl⟩ := Kd.R_slice ho; obtain ⟨hcl, hfz⟩ := bcell hb2; have z0 : ¬ (w.heap.size = w2.heap.size) := (by have h_ := hb2.size; simp at h_; omega); have y0 : w.heap.size < w2.heap.size := (by have h_ := hb2.size; simp at h_; omega); have c0_0 : w2.cell? ⟨w.heap.size, 0, none⟩ = some (.slice A l.length c) := (by rw [hcl _ _ (by first | omega | (simp; done) | (simp; omega))]; first | (go_simp; done) | (simp [*]; done) | (simp [go_sem, *]; done)); have f0_0 : w2.frozen? ⟨w.heap.size, 0, none⟩ = false := (by rw [hfz _ _ (by first | omega | (simp; done) | (simp; omega))]; first | (go_simp; done) | (simp [*]; done) | (simp [go_sem, *]; done)); have c0_1 : w2.cell? ⟨w.heap.size, 1, none⟩ = some (.int .i64 nx) := (by rw [hcl _ _ (by first | omega | (simp; done) | (simp; omega))]; first | (go_simp; done) | (simp [*]; done) | (simp [go_sem, *]; done)); have f0_1 : w2.frozen? ⟨w.heap.size, 1, none⟩ = false := (by rw [hfz _ _ (by first | omega | (simp; done) | (simp; omega))]; first | (go_simp; done) | (simp [*]; done) | (simp [go_sem, *]; done)); have z1 : ¬ (w.heap.size + 1 = w2.heap.size) := (by have h_ := hb2.size; simp at h_; omega); have y1 : w.heap.size + 1 < w2.heap.size := (by have h_ := hb2.size; simp at h_; omega); have c1_0 : w2.cell? ⟨w.heap.size + 1, 0, none⟩ = some (.int .u8 r.kind) := (by rw [hcl _ _ (by first | omega | (simp; done) | (simp; omega))]; first | (go_simp; done) | (simp [*]; done) | (simp [go_sem, *]; done)); have c1_1 : w2.cell? ⟨w.heap.size + 1, 1, none⟩ = some (.int .i64 r.id) := (by rw [hcl _ _ (by first | omega | (simp; done) | (simp; omega))]; first | (go_simp; done) | (simp [*]; done) | (simp [go_sem, *]; done)); have c1_36 : w2.cell? ⟨w.heap.size + 1, 36, none⟩ = some (.int .i64 r.off) := (by rw [hcl _ _ (by first | omega | (simp; done) | (simp; omega))]; first | (go_simp; done) | (simp [*]; done) | (simp [go_sem, *]; done)); have z2 : ¬ (w.heap.size + 1 + 1 = w2.heap.size) := (by have h_ := hb2.size; simp at h_; omega); have y2 : w.heap.size + 1 + 1 < w2.heap.size := (by have h_ := hb2.size; simp at h_; omega); have c2_0 : w2.cell? ⟨w.heap.size + 1 + 1, 0, none⟩ = some (.slice none 0 0) := (by rw [hcl _ _ (by first | omega | (simp; done) | (simp; omega))]; first | (go_simp; done) | (simp [*]; done) | (simp [go_sem, *]; done)); have f2_0 : w2.frozen? ⟨w.heap.size + 1 + 1, 0, none⟩ = false := (by rw [hfz _ _ (by first | omega | (simp; done) | (simp; omega))]; first | (go_simp; done) | (simp [*]; done) | (simp [go_sem, *]; done)); have c2_1 : w2.cell? ⟨w.heap.size + 1 + 1, 1, none⟩ = some (.int .i64 0) := (by rw [hcl _ _ (by first | omega | (simp; done) | (simp; omega))]; first | (go_simp; done) | (simp [*]; done) | (simp [go_sem, *]; done)); have f2_1 : w2.frozen? ⟨w.heap.size + 1 + 1, 1, none⟩ = false := (by rw [hfz _ _ (by first | omega | (simp; done) | (simp; omega))]; first | (go_simp; done) | (simp [*]; done) | (simp [go_sem, *]; done)); have r0 : rowAt w2 ⟨w.heap.size + 1, 0, none⟩ 37 = some (rcL r) := (by rw [rowAt_below hb2 (by first | omega | (simp; done) | (simp; omega))]; first | (go_simp; done) | (simp [*]; done) | (simp [go_sem, *]; done)); have HO2 := Aside0.mk (Kd.R_lower (base' := w.heap.size + 1 + 1 + 1) ho (by simp)); have HB2 := Aside0.mk (Below.trans (below_alloc (below_alloc (below_alloc (Below.refl w.heap.size w) _) _) _) (hb2.mono (by simp; omega))); clear hb2 hcl hfz ho) | (go_at_call 80; refine (idx_id A2 c2 l r.id _ _ (Kd.R_reads' (flat_put (flat_put HO2.out (by omega)) (by omega))).2.2 (Nat.le_trans hlen (by decide)) ?hc1).mono ?_; (case hc1 => first | (go_simp; done) | (simp [go_sem, *]; done)); rintro e w3 ⟨rfl, hb3⟩; obtain ⟨hcl, hfz⟩ := bcell hb3; have zi0 : ¬ (w.heap.size = w3.heap.size) := (by have h_ := hb3.size; simp at h_; omega); have yi0 : w.heap.size < w3.heap.size := (by have h_ := hb3.size; simp at h_; omega); have ci0_0 : w3.cell? ⟨w.heap.size, 0, none⟩ = some (.slice A2 l.length c2) := (by rw [hcl _ _ (by first | omega | (simp; done) | (simp; omega))]; first | (go_simp; done) | (simp [*]; done) | (simp [go_sem, *]; done)); have fi0_0 : w3.frozen? ⟨w.heap.size, 0, none⟩ = false := (by rw [hfz _ _ (by first | omega | (simp; done) | (simp; omega))]; first | (go_simp; done) | (simp [*]; done) | (simp [go_sem, *]; done)); have ci0_1 : w3.cell? ⟨w.heap.size, 1, none⟩ = some (.int .i64 nx) := (by rw [hcl _ _ (by first | omega | (simp; done) | (simp; omega))]; first | (go_simp; done) | (simp [*]; done) | (simp [go_sem, *]; done)); have fi0_1 : w3.frozen? ⟨w.heap.size, 1, none⟩ = false := (by rw [hfz _ _ (by first | omega | (simp; done) | (simp; omega))]; first | (go_simp; done) | (simp [*]; done) | (simp [go_sem, *]; done)); have zi1 : ¬ (w.heap.size + 1 = w3.heap.size) := (by have h_ := hb3.size; simp at h_; omega); have yi1 : w.heap.size + 1 < w3.heap.size := (by have h_ := hb3.size; simp at h_; omega); have ci1_0 : w3.cell? ⟨w.heap.size + 1, 0, none⟩ = some (.int .u8 r.kind) := (by rw [hcl _ _ (by first | omega | (simp; done) | (simp; omega))]; first | (go_simp; done) | (simp [*]; done) | (simp [go_sem, *]; done)); have ci1_1 : w3.cell? ⟨w.heap.size + 1, 1, none⟩ = some (.int .i64 r.id) := (by rw [hcl _ _ (by first | omega | (simp; done) | (simp; omega))]; first | (go_simp; done) | (simp [*]; done) | (simp [go_sem, *]; done)); have ci1_36 : w3.cell? ⟨w.heap.size + 1, 36, none⟩ = some (.int .i64 r.off) := (by rw [hcl _ _ (by first | omega | (simp; done) | (simp; omega))]; first | (go_simp; done) | (simp [*]; done) | (simp [go_sem, *]; done)); have zi2 : ¬ (w.heap.size + 1 + 1 = w3.heap.size) := (by have h_ := hb3.size; simp at h_; omega); have yi2 : w.heap.size + 1 + 1 < w3.heap.size := (by have h_ := hb3.size; simp at h_; omega); have ci2_0 : w3.cell? ⟨w.heap.size + 1 + 1, 0, none⟩ = some (.slice none 0 0) := (by rw [hcl _ _ (by first | omega | (simp; done) | (simp; omega))]; first | (go_simp; done) | (simp [*]; done) | (simp [go_sem, *]; done)); have fi2_0 : w3.frozen? ⟨w.heap.size + 1 + 1, 0, none⟩ = false := (by rw [hfz _ _ (by first | omega | (simp; done) | (simp; omega))]; first | (go_simp; done) | (simp [*]; done) | (simp [go_sem, *]; done)); have ci2_1 : w3.cell? ⟨w.heap.size + 1 + 1, 1, none⟩ = some (.int .i64 0) := (by rw [hcl _ _ (by first | omega | (simp; done) | (simp; omega))]; first | (go_simp; done) | (simp [*]; done) | (simp [go_sem, *]; done)); have fi2_1 : w3.frozen? ⟨w.heap.size + 1 + 1, 1, none⟩ = false := (by rw [hfz _ _ (by first | omega | (simp; done) | (simp; omega))]; first | (go_simp; done) | (simp [*]; done) | (simp [go_sem, *]; done)); have ri0 : rowAt w3 ⟨w.heap.size + 1, 0, none⟩ 37 = some (rcL r) := (by rw [rowAt_below hb3 (by first | omega | (simp; done) | (simp; omega))]; first | (go_simp; done) | (simp [*]; done) | (simp [go_sem, *]; done)); have HO3 := Aside0.mk (Kd.R_below (flat_put (flat_put HO2.out (by omega)) (by omega)) hb3); have HB3 := Aside0.mk (Below.trans (below_setCell (below_setCell HB2.out (by omega) _) (by omega) _) (hb3.mono (by simp; omega))); clear hb3 hcl hfz))
  refine bodyPost_ret (v := .tuple #[.agg #[.slice A2 l.length c2, .int .i64 nx], .bool false]) (by simp [results, Tryd.results27, go_sem, *]) rfl ⟨_, by rw [HP.out], ?_, ?_⟩
  · rw [HP.out]; exact Kd.R_lower (flat_put (flat_put (HO3.out) (by omega)) (by omega)) (by omega)
  · have hs3 := HB3.out.size; (repeat' (first | exact HB3.out | (with_reducible refine below_setCell ?_ ?_ _) | (with_reducible refine below_setRow ?_ ?_ _) | (with_reducible refine Below.alloc ?_ ?_ _) | (with_reducible refine below_drew ?_) | (with_reducible refine pw_below_drewN ?_ _) | (with_reducible exact Below.refl _ _) | omega | (simp; done) | (simp; omega)))
set_option linter.unusedVariables false in
set_option maxHeartbeats 8000000 in
set_option maxRecDepth 100000 in
theorem Step_skip1 (A : Option Addr) (c : Nat) (l : List Pt) (nx : Int) (r : Rc) (w : World) (hC : Kd.C kPt w A l.length l) (hc : l.length ≤ c) (hlen : l.length ≤ 64) (hid : r.id ≤ 2199023255552) (hid0 : -9223372036854775808 ≤ r.id) (hk : r.kind = 4) (h1 : ¬ r.id < nx) :
    Calls Tryd.prog 27 #[.agg #[.slice A l.length c, .int .i64 nx], .agg (rcL r).toArray] w fun e w' => ∃ v : Value, e = .returned (.tuple #[.agg #[v, .int .i64 (stepP ⟨l, nx⟩ r).1.next], .bool (stepP ⟨l, nx⟩ r).2]) ∧ Kd.R kPt 75 w' w.heap.size (fun _ => True) v (stepP ⟨l, nx⟩ r).1.parts ∧ Below w.heap.size w w' := by
  have HC := Aside0.mk hC
  clear hC
  have HP := Aside0.mk (show stepP ⟨l, nx⟩ r = (⟨l, r.id + 1⟩, true) by simp [stepP, *])
  have hw1 : IntKind.i64.wrap (r.id + 1) = r.id + 1 := IntWalk.i64_in _ (by omega)
  go_enter Tryd.func27, Tryd.ntmps27
  go_wp2_with (first | (go_at_call 79; refine (ownS_calls A c l nx _ (Kd.C_below HC.out ?_) hc (Nat.le_trans hlen (by decide))).mono ?_; (exact below_alloc (below_alloc (below_alloc (Below.refl _ _) _) _) _); rintro e w2 ⟨v, rfl, ho, hb2⟩; obtain ⟨A2, c2, rfl⟩ := Kd.R_slice ho; obtain ⟨hcl, hfz⟩ := bcell hb2; have z0 : ¬ (w.heap.size = w2.heap.size) := (by have h_ := hb2.size; simp at h_; omega); have y0 : w.heap.size < w2.heap.size := (by have h_ := hb2.size; simp at h_; omega); have c0_0 : w2.cell? ⟨w.heap.size, 0, none⟩ = some (.slice A l.length c) := (by rw [hcl _ _ (by first | omega | (simp; done) | (simp; omega))]; first | (go_simp; done) | (simp [*]; done) | (simp [go_sem, *]; done)); have f0_0 : w2.frozen? ⟨w.heap.size, 0, none⟩ = false := (by rw [hfz _ _ (by first | omega | (simp; done) | (simp; omega))]; first | (go_simp; done) | (simp [*]; done) | (simp [go_sem, *]; done)); have c0_1 : w2.cell? ⟨w.heap.size, 1, none⟩ = some (.int .i64 nx) := (by rw [hcl _ _ (by first | omega | (simp; done) | (simp; omega))]; first | (go_simp; done) | (simp [*]; done) | (simp [go_sem, *]; done)); have f0_1 : w2.frozen? ⟨w.heap.size, 1, none⟩ = false := (by rw [hfz _ _ (by first | omega | (simp; done) | (simp; omega))]; first | (go_simp; done) | (simp [*]; done) | (simp [go_sem, *]; done)); have z1 : ¬ (w.heap.size + 1 = w2.heap.size) := (by have h_ := hb2.size; simp at h_; omega); have y1 : w.heap.size + 1 < w2.heap.size := (by have h_ := hb2.size; simp at h_; omega); have c1_0 : w2.cell? ⟨w.heap.size + 1, 0, none⟩ = some (.int .u8 r.kind) := (by rw [hcl _ _ (by first | omega | (simp; done) | (simp; omega))]; first | (go_simp; done) | (simp [*]; done) | (simp [go_sem, *]; done)); have c1_1 : w2.cell? ⟨w.heap.size + 1, 1, none⟩ = some (.int .i64 r.id) := (by rw [hcl _ _ (by first | omega | (simp; done) | (simp; omega))]; first | (go_simp; done) | (simp [*]; done) | (simp [go_sem, *]; done)); have c1_36 : w2.cell? ⟨w.heap.size + 1, 36, none⟩ = some (.int .i64 r.off) := (by rw [hcl _ _ (by first | omega | (simp; done) | (simp; omega))]; first | (go_simp; done) | (simp [*]; done) | (simp [go_sem, *]; done)); have z2 : ¬ (w.heap.size + 1 + 1 = w2.heap.size) := (by have h_ := hb2.size; simp at h_; omega); have y2 : w.heap.size + 1 + 1 < w2.heap.size := (by have h_ := hb2.size; simp at h_; omega); have c2_0 : w2.cell? ⟨w.heap.size + 1 + 1, 0, none⟩ = some (.slice none 0 0) := (by rw [hcl _ _ (by first | omega | (simp; done) | (simp; omega))]; first | (go_simp; done) | (simp [*]; done) | (simp [go_sem, *]; done)); have f2_0 : w2.frozen? ⟨w.heap.size + 1 + 1, 0, none⟩ = false := (by rw [hfz _ _ (by first | omega | (simp; done) | (simp; omega))]; first | (go_simp; done) | (simp [*]; done) | (simp [go_sem, *]; done)); have c2_1 : w2.cell? ⟨w.heap.size + 1 + 1, 1, none⟩ = some (.int .i64 0) := (by rw [hcl _ _ (by first | omega | (simp; done) | (simp; omega))]; first | (go_simp; done) | (simp [*]; done) | (simp [go_sem, *]; done)); have f2_1 : w2.frozen? ⟨w.heap.size + 1 + 1, 1, none⟩ = false := (by rw [hfz _ _ (by first | omega | (simp; done) | (simp; omega))]; first | (go_simp; done) | (simp [*]; done) | (simp [go_sem, *]; done)); have r0 : rowAt w2 ⟨w.heap.size + 1, 0, none⟩ 37 = some (rcL r) := (by rw [rowAt_below hb2 (by first | omega | (simp; done) | (simp; omega))]; first | (go_simp; done) | (simp [*]; done) | (simp [go_sem, *]; done)); have HO2 := Aside0.mk (Kd.R_lower (base' := w.heap.size + 1 + 1 + 1) ho (by simp)); have HB2 := Aside0.mk (Below.trans (below_alloc (below_alloc (below_alloc (Below.refl w.heap.size w) _) _) _) (hb2.mono (by simp; omega))); clear hb2 hcl hfz ho) | (go_at_call 80; refine (idx_id A2 c2 l r.id _ _ (Kd.R_reads' (flat_put (flat_put HO2.out (by omega)) (by omega))).2.2 (Nat.le_trans hlen (by decide)) ?hc1).mono ?_; (case hc1 => first | (go_simp; done) | (simp [go_sem, *]; done)); rintro e w3 ⟨rfl, hb3⟩; obtain ⟨hcl, hfz⟩ := bcell hb3; have zi0 : ¬ (w.heap.size = w3.heap.size) := (by have h_ := hb3.size; simp at h_; omega); have yi0 : w.heap.size < w3.heap.size := (by have h_ := hb3.size; simp at h_; omega); have ci0_0 : w3.cell? ⟨w.heap.size, 0, none⟩ = some (.slice A2 l.length c2) := (by rw [hcl _ _ (by first | omega | (simp; done) | (simp; omega))]; first | (go_simp; done) | (simp [*]; done) | (simp [go_sem, *]; done)); have fi0_0 : w3.frozen? ⟨w.heap.size, 0, none⟩ = false := (by rw [hfz _ _ (by first | omega | (simp; done) | (simp; omega))]; first | (go_simp; done) | (simp [*]; done) | (simp [go_sem, *]; done)); have ci0_1 : w3.cell? ⟨w.heap.size, 1, none⟩ = some (.int .i64 nx) := (by rw [hcl _ _ (by first | omega | (simp; done) | (simp; omega))]; first | (go_simp; done) | (simp [*]; done) | (simp [go_sem, *]; done)); have fi0_1 : w3.frozen? ⟨w.heap.size, 1, none⟩ = false := (by rw [hfz _ _ (by first | omega | (simp; done) | (simp; omega))]; first | (go_simp; done) | (simp [*]; done) | (simp [go_sem, *]; done)); have zi1 : ¬ (w.heap.size + 1 = w3.heap.size) := (by have h_ := hb3.size; simp at h_; omega); have yi1 : w.heap.size + 1 < w3.heap.size := (by have h_ := hb3.size; simp at h_; omega); have ci1_0 : w3.cell? ⟨w.heap.size + 1, 0, none⟩ = some (.int .u8 r.kind) := (by rw [hcl _ _ (by first | omega | (simp; done) | (simp; omega))]; first | (go_simp; done) | (simp [*]; done) | (simp [go_sem, *]; done)); have ci1_1 : w3.cell? ⟨w.heap.size + 1, 1, none⟩ = some (.int .i64 r.id) := (by rw [hcl _ _ (by first | omega | (simp; done) | (simp; omega))]; first | (go_simp; done) | (simp [*]; done) | (simp [go_sem, *]; done)); have ci1_36 : w3.cell? ⟨w.heap.size + 1, 36, none⟩ = some (.int .i64 r.off) := (by rw [hcl _ _ (by first | omega | (simp; done) | (simp; omega))]; first | (go_simp; done) | (simp [*]; done) | (simp [go_sem, *]; done)); have zi2 : ¬ (w.heap.size + 1 + 1 = w3.heap.size) := (by have h_ := hb3.size; simp at h_; omega); have yi2 : w.heap.size + 1 + 1 < w3.heap.size := (by have h_ := hb3.size; simp at h_; omega); have ci2_0 : w3.cell? ⟨w.heap.size + 1 + 1, 0, none⟩ = some (.slice none 0 0) := (by rw [hcl _ _ (by first | omega | (simp; done) | (simp; omega))]; first | (go_simp; done) | (simp [*]; done) | (simp [go_sem, *]; done)); have fi2_0 : w3.frozen? ⟨w.heap.size + 1 + 1, 0, none⟩ = false := (by rw [hfz _ _ (by first | omega | (simp; done) | (simp; omega))]; first | (go_simp; done) | (simp [*]; done) | (simp [go_sem, *]; done)); have ci2_1 : w3.cell? ⟨w.heap.size + 1 + 1, 1, none⟩ = some (.int .i64 0) := (by rw [hcl _ _ (by first | omega | (simp; done) | (simp; omega))]; first | (go_simp; done) | (simp [*]; done) | (simp [go_sem, *]; done)); have fi2_1 : w3.frozen? ⟨w.heap.size + 1 + 1, 1, none⟩ = false := (by rw [hfz _ _ (by first | omega | (simp; done) | (simp; omega))]; first | (go_simp; done) | (simp [*]; done) | (simp [go_sem, *]; done)); have ri0 : rowAt w3 ⟨w.heap.size + 1, 0, none⟩ 37 = some (rcL r) := (by rw [rowAt_below hb3 (by first | omega | (simp; done) | (simp; omega))]; first | (go_simp; done) | (simp [*]; done) | (simp [go_sem, *]; done)); have HO3 := Aside0.mk (Kd.R_below (flat_put (flat_put HO2.out (by omega)) (by omega)) hb3); have HB3 := Aside0.mk (Below.trans (below_setCell (below_setCell HB2.out (by omega) _) (by omega) _) (hb3.mono (by simp; omega))); clear hb3 hcl hfz))
  refine bodyPost_ret (v := .tuple #[.agg #[.slice A2 l.length c2, .int .i64 (r.id + 1)], .bool true]) (by simp [results, Tryd.results27, go_sem, *]) rfl ⟨_, by rw [HP.out], ?_, ?_⟩
  · rw [HP.out]; exact Kd.R_lower (flat_put (flat_put (flat_put (HO3.out) (by omega)) (by omega)) (by omega)) (by omega)
  · have hs3 := HB3.out.size; (repeat' (first | exact HB3.out | (with_reducible refine below_setCell ?_ ?_ _) | (with_reducible refine below_setRow ?_ ?_ _) | (with_reducible refine Below.alloc ?_ ?_ _) | (with_reducible refine below_drew ?_) | (with_reducible refine pw_below_drewN ?_ _) | (with_reducible exact Below.refl _ _) | omega | (simp; done) | (simp; omega)))
set_option linter.unusedVariables false in
set_option maxHeartbeats 8000000 in
set_option maxRecDepth 100000 in
theorem Step_del0 (A : Option Addr) (c : Nat) (l : List Pt) (nx : Int) (r : Rc) (w : World) (hC : Kd.C kPt w A l.length l) (hc : l.length ≤ c) (hlen : l.length ≤ 64) (hid : r.id ≤ 2199023255552) (hid0 : -9223372036854775808 ≤ r.id) (hk : r.kind = 2 ∨ r.kind = 3) (hn : l.findIdx? (fun x => decide (x.id = r.id)) = none) :
    Calls Tryd.prog 27 #[.agg #[.slice A l.length c, .int .i64 nx], .agg (rcL r).toArray] w fun e w' => ∃ v : Value, e = .returned (.tuple #[.agg #[v, .int .i64 (stepP ⟨l, nx⟩ r).1.next], .bool (stepP ⟨l, nx⟩ r).2]) ∧ Kd.R kPt 75 w' w.heap.size (fun _ => True) v (stepP ⟨l, nx⟩ r).1.parts ∧ Below w.heap.size w w' := by
  have HC := Aside0.mk hC
  clear hC
  have hi := show fstI (fun x : Pt => decide (x.id = r.id)) l = -1 by unfold fstI; rw [hn]
  have HI := Aside0.mk hi
  have HP := Aside0.mk (show stepP ⟨l, nx⟩ r = (⟨l, nx⟩, false) by rcases hk with hk | hk <;> simp [stepP, hk, hn])
  clear hi hn
  rcases hk with hk | hk
  all_goals
    go_enter Tryd.func27, Tryd.ntmps27
    go_wp2_with (first | (go_at_call 79; refine (ownS_calls A c l nx _ (Kd.C_below HC.out ?_) hc (Nat.le_trans hlen (by decide))).mono ?_; (exact below_alloc (below_alloc (below_alloc (Below.refl _ _) _) _) _); rintro e w2 ⟨v, rfl, ho, hb2⟩; obtain ⟨A2, c2, rfl⟩ := Kd.R_slice ho; obtain ⟨hcl, hfz⟩ := bcell hb2; have z0 : ¬ (w.heap.size = w2.heap.size) := (by have h_ := hb2.size; simp at h_; omega); have y0 : w.heap.size < w2.heap.size := (by have h_ := hb2.size; simp at h_; omega); have c0_0 : w2.cell? ⟨w.heap.size, 0, none⟩ = some (.slice A l.length c) := (by rw [hcl _ _ (by first | omega | (simp; done) | (simp; omega))]; first | (go_simp; done) | (simp [*]; done) | (simp [go_sem, *]; done)); have f0_0 : w2.frozen? ⟨w.heap.size, 0, none⟩ = false := (by rw [hfz _ _ (by first | omega | (simp; done) | (simp; omega))]; first | (go_simp; done) | (simp [*]; done) | (simp [go_sem, *]; done)); have c0_1 : w2.cell? ⟨w.heap.size, 1, none⟩ = some (.int .i64 nx) := (by rw [hcl _ _ (by first | omega | (simp; done) | (simp; omega))]; first | (go_simp; done) | (simp [*]; done) | (simp [go_sem, *]; done)); have f0_1 : w2.frozen? ⟨w.heap.size, 1, none⟩ = false := (by rw [hfz _ _ (by first | omega | (simp; done) | (simp; omega))]; first | (go_simp; done) | (simp [*]; done) | (simp [go_sem, *]; done)); have z1 : ¬ (w.heap.size + 1 = w2.heap.size) := (by have h_ := hb2.size; simp at h_; omega); have y1 : w.heap.size + 1 < w2.heap.size := (by have h_ := hb2.size; simp at h_; omega); have c1_0 : w2.cell? ⟨w.heap.size + 1, 0, none⟩ = some (.int .u8 r.kind) := (by rw [hcl _ _ (by first | omega | (simp; done) | (simp; omega))]; first | (go_simp; done) | (simp [*]; done) | (simp [go_sem, *]; done)); have c1_1 : w2.cell? ⟨w.heap.size + 1, 1, none⟩ = some (.int .i64 r.id) := (by rw [hcl _ _ (by first | omega | (simp; done) | (simp; omega))]; first | (go_simp; done) | (simp [*]; done) | (simp [go_sem, *]; done)); have c1_36 : w2.cell? ⟨w.heap.size + 1, 36, none⟩ = some (.int .i64 r.off) := (by rw [hcl _ _ (by first | omega | (simp; done) | (simp; omega))]; first | (go_simp; done) | (simp [*]; done) | (simp [go_sem, *]; done)); have z2 : ¬ (w.heap.size + 1 + 1 = w2.heap.size) := (by have h_ := hb2.size; simp at h_; omega); have y2 : w.heap.size + 1 + 1 < w2.heap.size := (by have h_ := hb2.size; simp at h_; omega); have c2_0 : w2.cell? ⟨w.heap.size + 1 + 1, 0, none⟩ = some (.slice none 0 0) := (by rw [hcl _ _ (by first | omega | (simp; done) | (simp; omega))]; first | (go_simp; done) | (simp [*]; done) | (simp [go_sem, *]; done)); have f2_0 : w2.frozen? ⟨w.heap.size + 1 + 1, 0, none⟩ = false := (by rw [hfz _ _ (by first | omega | (simp; done) | (simp; omega))]; first | (go_simp; done) | (simp [*]; done) | (simp [go_sem, *]; done)); have c2_1 : w2.cell? ⟨w.heap.size + 1 + 1, 1, none⟩ = some (.int .i64 0) := (by rw [hcl _ _ (by first | omega | (simp; done) | (simp; omega))]; first | (go_simp; done) | (simp [*]; done) | (simp [go_sem, *]; done)); have f2_1 : w2.frozen? ⟨w.heap.size + 1 + 1, 1, none⟩ = false := (by rw [hfz _ _ (by first | omega | (simp; done) | (simp; omega))]; first | (go_simp; done) | (simp [*]; done) | (simp [go_sem, *]; done)); have r0 : rowAt w2 ⟨w.heap.size + 1, 0, none⟩ 37 = some (rcL r) := (by rw [rowAt_below hb2 (by first | omega | (simp; done) | (simp; omega))]; first | (go_simp; done) | (simp [*]; done) | (simp [go_sem, *]; done)); have HO2 := Aside0.mk (Kd.R_lower (base' := w.heap.size + 1 + 1 + 1) ho (by simp)); have HB2 := Aside0.mk (Below.trans (below_alloc (below_alloc (below_alloc (Below.refl w.heap.size w) _) _) _) (hb2.mono (by simp; omega))); clear hb2 hcl hfz ho) | (go_at_call 80; refine (idx_id A2 c2 l r.id _ _ (Kd.R_reads' (flat_put (flat_put HO2.out (by omega)) (by omega))).2.2 (Nat.le_trans hlen (by decide)) ?hc1).mono ?_; (case hc1 => first | (go_simp; done) | (simp [go_sem, *]; done)); rintro e w3 ⟨rfl, hb3⟩; obtain ⟨hcl, hfz⟩ := bcell hb3; have zi0 : ¬ (w.heap.size = w3.heap.size) := (by have h_ := hb3.size; simp at h_; omega); have yi0 : w.heap.size < w3.heap.size := (by have h_ := hb3.size; simp at h_; omega); have ci0_0 : w3.cell? ⟨w.heap.size, 0, none⟩ = some (.slice A2 l.length c2) := (by rw [hcl _ _ (by first | omega | (simp; done) | (simp; omega))]; first | (go_simp; done) | (simp [*]; done) | (simp [go_sem, *]; done)); have fi0_0 : w3.frozen? ⟨w.heap.size, 0, none⟩ = false := (by rw [hfz _ _ (by first | omega | (simp; done) | (simp; omega))]; first | (go_simp; done) | (simp [*]; done) | (simp [go_sem, *]; done)); have ci0_1 : w3.cell? ⟨w.heap.size, 1, none⟩ = some (.int .i64 nx) := (by rw [hcl _ _ (by first | omega | (simp; done) | (simp; omega))]; first | (go_simp; done) | (simp [*]; done) | (simp [go_sem, *]; done)); have fi0_1 : w3.frozen? ⟨w.heap.size, 1, none⟩ = false := (by rw [hfz _ _ (by first | omega | (simp; done) | (simp; omega))]; first | (go_simp; done) | (simp [*]; done) | (simp [go_sem, *]; done)); have zi1 : ¬ (w.heap.size + 1 = w3.heap.size) := (by have h_ := hb3.size; simp at h_; omega); have yi1 : w.heap.size + 1 < w3.heap.size := (by have h_ := hb3.size; simp at h_; omega); have ci1_0 : w3.cell? ⟨w.heap.size + 1, 0, none⟩ = some (.int .u8 r.kind) := (by rw [hcl _ _ (by first | omega | (simp; done) | (simp; omega))]; first | (go_simp; done) | (simp [*]; done) | (simp [go_sem, *]; done)); have ci1_1 : w3.cell? ⟨w.heap.size + 1, 1, none⟩ = some (.int .i64 r.id) := (by rw [hcl _ _ (by first | omega | (simp; done) | (simp; omega))]; first | (go_simp; done) | (simp [*]; done) | (simp [go_sem, *]; done)); have ci1_36 : w3.cell? ⟨w.heap.size + 1, 36, none⟩ = some (.int .i64 r.off) := (by rw [hcl _ _ (by first | omega | (simp; done) | (simp; omega))]; first | (go_simp; done) | (simp [*]; done) | (simp [go_sem, *]; done)); have zi2 : ¬ (w.heap.size + 1 + 1 = w3.heap.size) := (by have h_ := hb3.size; simp at h_; omega); have yi2 : w.heap.size + 1 + 1 < w3.heap.size := (by have h_ := hb3.size; simp at h_; omega); have ci2_0 : w3.cell? ⟨w.heap.size + 1 + 1, 0, none⟩ = some (.slice none 0 0) := (by rw [hcl _ _ (by first | omega | (simp; done) | (simp; omega))]; first | (go_simp; done) | (simp [*]; done) | (simp [go_sem, *]; done)); have fi2_0 : w3.frozen? ⟨w.heap.size + 1 + 1, 0, none⟩ = false := (by rw [hfz _ _ (by first | omega | (simp; done) | (simp; omega))]; first | (go_simp; done) | (simp [*]; done) | (simp [go_sem, *]; done)); have ci2_1 : w3.cell? ⟨w.heap.size + 1 + 1, 1, none⟩ = some (.int .i64 0) := (by rw [hcl _ _ (by first | omega | (simp; done) | (simp; omega))]; first | (go_simp; done) | (simp [*]; done) | (simp [go_sem, *]; done)); have fi2_1 : w3.frozen? ⟨w.heap.size + 1 + 1, 1, none⟩ = false := (by rw [hfz _ _ (by first | omega | (simp; done) | (simp; omega))]; first | (go_simp; done) | (simp [*]; done) | (simp [go_sem, *]; done)); have ri0 : rowAt w3 ⟨w.heap.size + 1, 0, none⟩ 37 = some (rcL r) := (by rw [rowAt_below hb3 (by first | omega | (simp; done) | (simp; omega))]; first | (go_simp; done) | (simp [*]; done) | (simp [go_sem, *]; done)); have HO3 := Aside0.mk (Kd.R_below (flat_put (flat_put HO2.out (by omega)) (by omega)) hb3); have HB3 := Aside0.mk (Below.trans (below_setCell (below_setCell HB2.out (by omega) _) (by omega) _) (hb3.mono (by simp; omega))); clear hb3 hcl hfz; rw [HI.out]))
    refine bodyPost_ret (v := .tuple #[.agg #[.slice A2 l.length c2, .int .i64 nx], .bool false]) (by simp [results, Tryd.results27, go_sem, *]) rfl ⟨_, by rw [HP.out], ?_, ?_⟩
    · rw [HP.out]; exact Kd.R_lower (flat_put (flat_put (HO3.out) (by omega)) (by omega)) (by omega)
    · have hs3 := HB3.out.size; (repeat' (first | exact HB3.out | (with_reducible refine below_setCell ?_ ?_ _) | (with_reducible refine below_setRow ?_ ?_ _) | (with_reducible refine Below.alloc ?_ ?_ _) | (with_reducible refine below_drew ?_) | (with_reducible refine pw_below_drewN ?_ _) | (with_reducible exact Below.refl _ _) | omega | (simp; done) | (simp; omega)))
  
set_option linter.unusedVariables false in
set_option maxHeartbeats 8000000 in
set_option maxRecDepth 100000 in
theorem Step_del1 (A : Option Addr) (c : Nat) (l : List Pt) (nx : Int) (r : Rc) (w : World) (hC : Kd.C kPt w A l.length l) (hc : l.length ≤ c) (hlen : l.length ≤ 64) (hid : r.id ≤ 2199023255552) (hid0 : -9223372036854775808 ≤ r.id) (i : Nat) (hk : r.kind = 2 ∨ r.kind = 3) (hn : l.findIdx? (fun x => decide (x.id = r.id)) = some i) :
    Calls Tryd.prog 27 #[.agg #[.slice A l.length c, .int .i64 nx], .agg (rcL r).toArray] w fun e w' => ∃ v : Value, e = .returned (.tuple #[.agg #[v, .int .i64 (stepP ⟨l, nx⟩ r).1.next], .bool (stepP ⟨l, nx⟩ r).2]) ∧ Kd.R kPt 75 w' w.heap.size (fun _ => True) v (stepP ⟨l, nx⟩ r).1.parts ∧ Below w.heap.size w w' := by
  have HC := Aside0.mk hC
  clear hC
  obtain ⟨hil, hid2, hid3⟩ := List.findIdx?_eq_some_iff_getElem.1 hn
  clear hid3
  have hi := show fstI (fun x : Pt => decide (x.id = r.id)) l = (i : Int) by unfold fstI; rw [hn]
  have HI := Aside0.mk hi
  have HIL := Aside0.mk hil
  have HP := Aside0.mk (show stepP ⟨l, nx⟩ r = (⟨l.eraseIdx i, nx⟩, true) by rcases hk with hk | hk <;> simp [stepP, hk, hn])
  have hw1 : IntKind.i64.wrap ((i : Int) + 1) = (i : Int) + 1 := IntWalk.i64_in _ (by omega)
  clear hi hn hil hid2
  rcases hk with hk | hk
  all_goals
    go_enter Tryd.func27, Tryd.ntmps27
    go_wp2_with (first | (go_at_call 79; refine (ownS_calls A c l nx _ (Kd.C_below HC.out ?_) hc (Nat.le_trans hlen (by decide))).mono ?_; (exact below_alloc (below_alloc (below_alloc (Below.refl _ _) _) _) _); rintro e w2 ⟨v, rfl, ho, hb2⟩; obtain ⟨A2, c2, rfl⟩ := Kd.R_slice ho; obtain ⟨hcl, hfz⟩ := bcell hb2; have z0 : ¬ (w.heap.size = w2.heap.size) := (by have h_ := hb2.size; simp at h_; omega); have y0 : w.heap.size < w2.heap.size := (by have h_ := hb2.size; simp at h_; omega); have c0_0 : w2.cell? ⟨w.heap.size, 0, none⟩ = some (.slice A l.length c) := (by rw [hcl _ _ (by first | omega | (simp; done) | (simp; omega))]; first | (go_simp; done) | (simp [*]; done) | (simp [go_sem, *]; done)); have f0_0 : w2.frozen? ⟨w.heap.size, 0, none⟩ = false := (by rw [hfz _ _ (by first | omega | (simp; done) | (simp; omega))]; first | (go_simp; done) | (simp [*]; done) | (simp [go_sem, *]; done)); have c0_1 : w2.cell? ⟨w.heap.size, 1, none⟩ = some (.int .i64 nx) := (by rw [hcl _ _ (by first | omega | (simp; done) | (simp; omega))]; first | (go_simp; done) | (simp [*]; done) | (simp [go_sem, *]; done)); have f0_1 : w2.frozen? ⟨w.heap.size, 1, none⟩ = false := (by rw [hfz _ _ (by first | omega | (simp; done) | (simp; omega))]; first | (go_simp; done) | (simp [*]; done) | (simp [go_sem, *]; done)); have z1 : ¬ (w.heap.size + 1 = w2.heap.size) := (by have h_ := hb2.size; simp at h_; omega); have y1 : w.heap.size + 1 < w2.heap.size := (by have h_ := hb2.size; simp at h_; omega); have c1_0 : w2.cell? ⟨w.heap.size + 1, 0, none⟩ = some (.int .u8 r.kind) := (by rw [hcl _ _ (by first | omega | (simp; done) | (simp; omega))]; first | (go_simp; done) | (simp [*]; done) | (simp [go_sem, *]; done)); have c1_1 : w2.cell? ⟨w.heap.size + 1, 1, none⟩ = some (.int .i64 r.id) := (by rw [hcl _ _ (by first | omega | (simp; done) | (simp; omega))]; first | (go_simp; done) | (simp [*]; done) | (simp [go_sem, *]; done)); have c1_36 : w2.cell? ⟨w.heap.size + 1, 36, none⟩ = some (.int .i64 r.off) := (by rw [hcl _ _ (by first | omega | (simp; done) | (simp; omega))]; first | (go_simp; done) | (simp [*]; done) | (simp [go_sem, *]; done)); have z2 : ¬ (w.heap.size + 1 + 1 = w2.heap.size) := (by have h_ := hb2.size; simp at h_; omega); have y2 : w.heap.size + 1 + 1 < w2.heap.size := (by have h_ := hb2.size; simp at h_; omega); have c2_0 : w2.cell? ⟨w.heap.size + 1 + 1, 0, none⟩ = some (.slice none 0 0) := (by rw [hcl _ _ (by first | omega | (simp; done) | (simp; omega))]; first | (go_simp; done) | (simp [*]; done) | (simp [go_sem, *]; done)); have f2_0 : w2.frozen? ⟨w.heap.size + 1 + 1, 0, none⟩ = false := (by rw [hfz _ _ (by first | omega | (simp; done) | (simp; omega))]; first | (go_simp; done) | (simp [*]; done) | (simp [go_sem, *]; done)); have c2_1 : w2.cell? ⟨w.heap.size + 1 + 1, 1, none⟩ = some (.int .i64 0) := (by rw [hcl _ _ (by first | omega | (simp; done) | (simp; omega))]; first | (go_simp; done) | (simp [*]; done) | (simp [go_sem, *]; done)); have f2_1 : w2.frozen? ⟨w.heap.size + 1 + 1, 1, none⟩ = false := (by rw [hfz _ _ (by first | omega | (simp; done) | (simp; omega))]; first | (go_simp; done) | (simp [*]; done) | (simp [go_sem, *]; done)); have r0 : rowAt w2 ⟨w.heap.size + 1, 0, none⟩ 37 = some (rcL r) := (by rw [rowAt_below hb2 (by first | omega | (simp; done) | (simp; omega))]; first | (go_simp; done) | (simp [*]; done) | (simp [go_sem, *]; done)); have HO2 := Aside0.mk (Kd.R_lower (base' := w.heap.size + 1 + 1 + 1) ho (by simp)); have HB2 := Aside0.mk (Below.trans (below_alloc (below_alloc (below_alloc (Below.refl w.heap.size w) _) _) _) (hb2.mono (by simp; omega))); clear hb2 hcl hfz ho) | (go_at_call 80; refine (idx_id A2 c2 l r.id _ _ (Kd.R_reads' (flat_put (flat_put HO2.out (by omega)) (by omega))).2.2 (Nat.le_trans hlen (by decide)) ?hc1).mono ?_; (case hc1 => first | (go_simp; done) | (simp [go_sem, *]; done)); rintro e w3 ⟨rfl, hb3⟩; obtain ⟨hcl, hfz⟩ := bcell hb3; have zi0 : ¬ (w.heap.size = w3.heap.size) := (by have h_ := hb3.size; simp at h_; omega); have yi0 : w.heap.size < w3.heap.size := (by have h_ := hb3.size; simp at h_; omega); have ci0_0 : w3.cell? ⟨w.heap.size, 0, none⟩ = some (.slice A2 l.length c2) := (by rw [hcl _ _ (by first | omega | (simp; done) | (simp; omega))]; first | (go_simp; done) | (simp [*]; done) | (simp [go_sem, *]; done)); have fi0_0 : w3.frozen? ⟨w.heap.size, 0, none⟩ = false := (by rw [hfz _ _ (by first | omega | (simp; done) | (simp; omega))]; first | (go_simp; done) | (simp [*]; done) | (simp [go_sem, *]; done)); have ci0_1 : w3.cell? ⟨w.heap.size, 1, none⟩ = some (.int .i64 nx) := (by rw [hcl _ _ (by first | omega | (simp; done) | (simp; omega))]; first | (go_simp; done) | (simp [*]; done) | (simp [go_sem, *]; done)); have fi0_1 : w3.frozen? ⟨w.heap.size, 1, none⟩ = false := (by rw [hfz _ _ (by first | omega | (simp; done) | (simp; omega))]; first | (go_simp; done) | (simp [*]; done) | (simp [go_sem, *]; done)); have zi1 : ¬ (w.heap.size + 1 = w3.heap.size) := (by have h_ := hb3.size; simp at h_; omega); have yi1 : w.heap.size + 1 < w3.heap.size := (by have h_ := hb3.size; simp at h_; omega); have ci1_0 : w3.cell? ⟨w.heap.size + 1, 0, none⟩ = some (.int .u8 r.kind) := (by rw [hcl _ _ (by first | omega | (simp; done) | (simp; omega))]; first | (go_simp; done) | (simp [*]; done) | (simp [go_sem, *]; done)); have ci1_1 : w3.cell? ⟨w.heap.size + 1, 1, none⟩ = some (.int .i64 r.id) := (by rw [hcl _ _ (by first | omega | (simp; done) | (simp; omega))]; first | (go_simp; done) | (simp [*]; done) | (simp [go_sem, *]; done)); have ci1_36 : w3.cell? ⟨w.heap.size + 1, 36, none⟩ = some (.int .i64 r.off) := (by rw [hcl _ _ (by first | omega | (simp; done) | (simp; omega))]; first | (go_simp; done) | (simp [*]; done) | (simp [go_sem, *]; done)); have zi2 : ¬ (w.heap.size + 1 + 1 = w3.heap.size) := (by have h_ := hb3.size; simp at h_; omega); have yi2 : w.heap.size + 1 + 1 < w3.heap.size := (by have h_ := hb3.size; simp at h_; omega); have ci2_0 : w3.cell? ⟨w.heap.size + 1 + 1, 0, none⟩ = some (.slice none 0 0) := (by rw [hcl _ _ (by first | omega | (simp; done) | (simp; omega))]; first | (go_simp; done) | (simp [*]; done) | (simp [go_sem, *]; done)); have fi2_0 : w3.frozen? ⟨w.heap.size + 1 + 1, 0, none⟩ = false := (by rw [hfz _ _ (by first | omega | (simp; done) | (simp; omega))]; first | (go_simp; done) | (simp [*]; done) | (simp [go_sem, *]; done)); have ci2_1 : w3.cell? ⟨w.heap.size + 1 + 1, 1, none⟩ = some (.int .i64 0) := (by rw [hcl _ _ (by first | omega | (simp; done) | (simp; omega))]; first | (go_simp; done) | (simp [*]; done) | (simp [go_sem, *]; done)); have fi2_1 : w3.frozen? ⟨w.heap.size + 1 + 1, 1, none⟩ = false := (by rw [hfz _ _ (by first | omega | (simp; done) | (simp; omega))]; first | (go_simp; done) | (simp [*]; done) | (simp [go_sem, *]; done)); have ri0 : rowAt w3 ⟨w.heap.size + 1, 0, none⟩ 37 = some (rcL r) := (by rw [rowAt_below hb3 (by first | omega | (simp; done) | (simp; omega))]; first | (go_simp; done) | (simp [*]; done) | (simp [go_sem, *]; done)); have HO3 := Aside0.mk (Kd.R_below (flat_put (flat_put HO2.out (by omega)) (by omega)) hb3); have HB3 := Aside0.mk (Below.trans (below_setCell (below_setCell HB2.out (by omega) _) (by omega) _) (hb3.mono (by simp; omega))); clear hb3 hcl hfz; rw [HI.out]; obtain ⟨g, rfl, hg1, hg2⟩ := R_some HO3.out (Nat.lt_of_le_of_lt (Nat.zero_le _) HIL.out); have HG := Aside0.mk (And.intro hg1 hg2); clear hg1 hg2) | (go_at_call 83; refine (Delete_at g c2 i (w.heap.size + 1 + 1 + 1) _ l w3 HO3.out HIL.out (Nat.le_trans hlen (by decide)) (by have := HG.out.2; omega)).mono ?_; rintro e w4 ⟨rfl, ho4, hon⟩; have hb4 := hon.below HG.out.1 (by have := HG.out.2; omega); have hcl : ∀ b o, b < w.heap.size + 1 + 1 + 1 → w4.cell? ⟨b, o, none⟩ = w3.cell? ⟨b, o, none⟩ := fun b o h => hb4.cell (p := ⟨b, o, none⟩) h; have hfz : ∀ b o, b < w.heap.size + 1 + 1 + 1 → w4.frozen? ⟨b, o, none⟩ = w3.frozen? ⟨b, o, none⟩ := fun b o h => hb4.frozen (p := ⟨b, o, none⟩) h; have cd0_0 : w4.cell? ⟨w.heap.size, 0, none⟩ = some (.slice (some ⟨g, 0, none⟩) l.length c2) := (by rw [hcl _ _ (by first | omega | (simp; done) | (simp; omega))]; first | (go_simp; done) | (simp [*]; done) | (simp [go_sem, *]; done)); have fd0_0 : w4.frozen? ⟨w.heap.size, 0, none⟩ = false := (by rw [hfz _ _ (by first | omega | (simp; done) | (simp; omega))]; first | (go_simp; done) | (simp [*]; done) | (simp [go_sem, *]; done)); have cd0_1 : w4.cell? ⟨w.heap.size, 1, none⟩ = some (.int .i64 nx) := (by rw [hcl _ _ (by first | omega | (simp; done) | (simp; omega))]; first | (go_simp; done) | (simp [*]; done) | (simp [go_sem, *]; done)); have fd0_1 : w4.frozen? ⟨w.heap.size, 1, none⟩ = false := (by rw [hfz _ _ (by first | omega | (simp; done) | (simp; omega))]; first | (go_simp; done) | (simp [*]; done) | (simp [go_sem, *]; done)); have cd1_0 : w4.cell? ⟨w.heap.size + 1 + 1, 0, none⟩ = some (.slice none 0 0) := (by rw [hcl _ _ (by first | omega | (simp; done) | (simp; omega))]; first | (go_simp; done) | (simp [*]; done) | (simp [go_sem, *]; done)); have fd1_0 : w4.frozen? ⟨w.heap.size + 1 + 1, 0, none⟩ = false := (by rw [hfz _ _ (by first | omega | (simp; done) | (simp; omega))]; first | (go_simp; done) | (simp [*]; done) | (simp [go_sem, *]; done)); have cd1_1 : w4.cell? ⟨w.heap.size + 1 + 1, 1, none⟩ = some (.int .i64 0) := (by rw [hcl _ _ (by first | omega | (simp; done) | (simp; omega))]; first | (go_simp; done) | (simp [*]; done) | (simp [go_sem, *]; done)); have fd1_1 : w4.frozen? ⟨w.heap.size + 1 + 1, 1, none⟩ = false := (by rw [hfz _ _ (by first | omega | (simp; done) | (simp; omega))]; first | (go_simp; done) | (simp [*]; done) | (simp [go_sem, *]; done)); have HO4 := Aside0.mk ho4; have HB4 := Aside0.mk (HB3.out.trans (hb4.mono (by omega))); have HS4 := Aside0.mk hon.size; clear ho4 hon hb4 hcl hfz))
    refine bodyPost_ret (v := .tuple #[.agg #[.slice (some ⟨g, 0, none⟩) (l.length - 1) c2, .int .i64 nx], .bool true]) (by simp [results, Tryd.results27, go_sem, *]) rfl ⟨_, by rw [HP.out], ?_, ?_⟩
    · rw [HP.out]; exact Kd.R_lower (flat_put (flat_put (flat_put (HO4.out) (by omega)) (by omega)) (by omega)) (by omega)
    · have hs4 := HS4.out; have hs3 := HG.out.2; (repeat' (first | exact HB4.out | (with_reducible refine below_setCell ?_ ?_ _) | (with_reducible refine below_setRow ?_ ?_ _) | (with_reducible refine Below.alloc ?_ ?_ _) | (with_reducible refine below_drew ?_) | (with_reducible refine pw_below_drewN ?_ _) | (with_reducible exact Below.refl _ _) | omega | (simp; done) | (simp; omega)))
end Go.Proofs.YtiohgpcbdefokaaDoor.B
/- Laws for regions that draw their order and only read: one operation after the other, with the rest kept shut. No condition. -/
namespace Go.Proofs.YtiohgpcbdefokaaDoor.B
open Go.RowKit
theorem wpStill_plain {P : Program} {ops : Array Oper} {w : World} {Q : Act → Prop} {a : Act} {o : Oper} {rest : List Oper} (hg : o.guard = none)
    (h : ∀ K : Act → Prop, Hid (K = wpStill P ops w Q rest) → o.still P a w K) : wpStill P ops w Q (o :: rest) a := by
  show if _ then _ else _
  rw [if_pos (by simp [Region.wanted, hg])]; exact h _ rfl
theorem wpStill_held {P : Program} {ops : Array Oper} {w : World} {Q : Act → Prop} {a : Act} {o : Oper} {rest : List Oper} (hg : Region.wanted o (yielded ops a.tmps) = true)
    (h : ∀ K : Act → Prop, Hid (K = wpStill P ops w Q rest) → o.still P a w K) : wpStill P ops w Q (o :: rest) a := by
  show if _ then _ else _
  rw [if_pos hg]; exact h _ rfl
theorem wpStill_skip {P : Program} {ops : Array Oper} {w : World} {Q : Act → Prop} {a : Act} {o : Oper} {rest : List Oper} (hg : Region.wanted o (yielded ops a.tmps) = false)
    (h : ∀ K : Act → Prop, Hid (K = wpStill P ops w Q rest) → K (a.put o.dst undef)) : wpStill P ops w Q (o :: rest) a := by
  show if _ then _ else _
  rw [if_neg (by rw [hg]; decide)]; exact h _ rfl
theorem still_back {K F : Act → Prop} {a : Act} (h : Hid (K = F)) (hf : F a) : K a := by rw [show K = F from h]; exact hf
end Go.Proofs.YtiohgpcbdefokaaDoor.B
