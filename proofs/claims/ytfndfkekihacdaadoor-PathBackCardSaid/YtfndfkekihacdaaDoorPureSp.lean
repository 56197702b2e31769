/- Plain Lean: a text's parts between slashes, joined again, and their order. -/
import Derived.Lib.Split
import Derived.Lib.SplitLaws
import Derived.Lib.IndexBytes
import Derived.Lib.IndexLaws
import Derived.Lib.Join
import Derived.Lib.Strings
import Derived.RowKit
namespace Go.Proofs.YtfndfkekihacdaaDoor.PureSp
open Go Go.Lib Go.RowKit

theorem w64 {x : Int} (h : -9223372036854775808 ≤ x ∧ x < 9223372036854775808) : wrap64 x = x := by unfold wrap64; omega

/-- The parts between slashes. -/
def sp : List UInt8 → List (List UInt8)
  | [] => [[]]
  | c :: l => if c = 47 then [] :: sp l else match sp l with
    | h :: t => (c :: h) :: t
    | [] => [[c]]
theorem sp_ne : ∀ s, sp s ≠ []
  | [] => by simp [sp]
  | c :: l => by
    unfold sp
    split
    · simp
    · split <;> simp
theorem sp_cons (c : UInt8) (l : List UInt8) (h : c ≠ 47) : ∃ x t, sp l = x :: t ∧ sp (c :: l) = (c :: x) :: t := by
  cases hs : sp l with
  | nil => exact absurd hs (sp_ne l)
  | cons x t => exact ⟨x, t, rfl, by rw [sp, if_neg h, hs]⟩
theorem sp_none : ∀ s : List UInt8, s.count 47 = 0 → sp s = [s]
  | [], _ => rfl
  | c :: l, h => by
    have hc : c ≠ 47 := by
      rintro rfl
      rw [List.count_cons_self] at h
      omega
    rw [List.count_cons_of_ne hc] at h
    obtain ⟨x, t, e1, e2⟩ := sp_cons c l hc
    rw [sp_none l h] at e1
    injection e1 with e3 e4
    rw [e2, ← e3, ← e4]
theorem sp_hit : ∀ (s : List UInt8) (i : Nat), indexByte s 47 = (i : Int) → sp s = s.take i :: sp (s.drop (i + 1)) ∧ s.count 47 = 1 + (s.drop (i + 1)).count 47
  | [], i, h => by simp [indexByte] at h
  | c :: l, i, h => by
    unfold indexByte at h
    by_cases hc : c = 47
    · subst hc
      rw [if_pos (by simp)] at h
      obtain rfl : i = 0 := by omega
      refine ⟨by rw [sp, if_pos rfl]; rfl, ?_⟩
      rw [List.count_cons_self]
      simp only [Nat.zero_add, List.drop_succ_cons, List.drop_zero]
      omega
    · rw [if_neg (by simpa using hc)] at h
      by_cases hm : (indexByte l 47 == -1) = true
      · rw [if_pos hm] at h; omega
      · rw [if_neg hm] at h
        have h2 := indexByte_ge l 47
        have h3 : indexByte l 47 ≠ -1 := by simpa using hm
        obtain ⟨j, rfl⟩ : ∃ j, i = j + 1 := ⟨i - 1, by omega⟩
        obtain ⟨e1, e2⟩ := sp_hit l j (by omega)
        obtain ⟨x, t, e3, e4⟩ := sp_cons c l hc
        rw [e1] at e3
        injection e3 with e5 e6
        refine ⟨?_, ?_⟩
        · rw [e4, ← e5, ← e6]
          simp
        · rw [List.count_cons_of_ne hc, e2]
          simp
theorem indexByte_count : ∀ s : List UInt8, indexByte s 47 = -1 → s.count 47 = 0
  | [], _ => rfl
  | c :: l, h => by
    unfold indexByte at h
    by_cases hc : c = 47
    · subst hc; rw [if_pos (by simp)] at h; omega
    · rw [if_neg (by simpa using hc)] at h
      rw [List.count_cons_of_ne hc]
      apply indexByte_count
      by_cases hm : (indexByte l 47 == -1) = true
      · simpa using hm
      · rw [if_neg hm] at h
        have h2 := indexByte_ge l 47
        omega
theorem splitK_sp : ∀ (k : Nat) (s : List UInt8), s.count 47 = k → splitK [47] 0 k s = sp s
  | 0, s, h => (sp_none s h).symm
  | k + 1, s, h => by
    unfold splitK
    rw [index_one]
    by_cases hm : (indexByte s 47 == -1) = true
    · have := indexByte_count s (by simpa using hm)
      omega
    · rw [if_neg hm]
      have h2 := indexByte_ge s 47
      have h3 : indexByte s 47 ≠ -1 := by simpa using hm
      obtain ⟨i, hi⟩ : ∃ i : Nat, indexByte s 47 = i := ⟨(indexByte s 47).toNat, by omega⟩
      obtain ⟨e1, e2⟩ := sp_hit s i hi
      rw [hi, e1, splitK_sp k _ (by simp only [List.length_singleton, Int.toNat_natCast]; omega)]
      simp

/-- Parts, joined. -/
def jn : List (List UInt8) → List UInt8
  | [] => []
  | [x] => x
  | x :: y :: r => x ++ 47 :: jn (y :: r)
theorem jn_cons (x : List UInt8) (r : List (List UInt8)) (h : r ≠ []) : jn (x :: r) = x ++ 47 :: jn r := by
  cases r with
  | nil => exact absurd rfl h
  | cons y r => rfl
theorem join_jn : ∀ xs : List (List UInt8), Lib.join xs [47] = jn xs
  | [] => rfl
  | [x] => by simp [Lib.join, jn, List.intercalate]
  | x :: y :: r => by
    rw [jn_cons x (y :: r) (by simp), ← join_jn (y :: r)]
    simp [Lib.join, List.intercalate, List.intersperse]
theorem jn_sp : ∀ s, jn (sp s) = s
  | [] => rfl
  | c :: l => by
    by_cases hc : c = 47
    · subst hc
      rw [sp, if_pos rfl, jn_cons _ _ (sp_ne l), jn_sp l]
      rfl
    · obtain ⟨x, t, e1, e2⟩ := sp_cons c l hc
      have ih := jn_sp l
      rw [e1] at ih
      rw [e2]
      cases t with
      | nil => simp only [jn] at ih ⊢; rw [ih]
      | cons y t => simp only [jn] at ih ⊢; rw [← ih]; rfl
theorem sp_inj {a b : List UInt8} (h : sp a = sp b) : a = b := by rw [← jn_sp a, h, jn_sp b]
theorem sp_slash : ∀ (a b : List UInt8), sp (a ++ 47 :: b) = sp a ++ sp b
  | [], b => by simp [sp]
  | c :: a, b => by
    by_cases hc : c = 47
    · subst hc
      rw [List.cons_append, sp, if_pos rfl, sp_slash a b, sp, if_pos rfl]
      rfl
    · obtain ⟨x, t, e1, e2⟩ := sp_cons c a hc
      obtain ⟨x', t', e3, e4⟩ := sp_cons c (a ++ 47 :: b) hc
      rw [sp_slash a b, e1] at e3
      injection e3 with e5 e6
      rw [List.cons_append, e4, e2, ← e5, ← e6]
      rfl
theorem jn_append (a b : List (List UInt8)) (ha : a ≠ []) (hb : b ≠ []) : jn (a ++ b) = jn a ++ 47 :: jn b := by
  induction a with
  | nil => exact absurd rfl ha
  | cons x a ih =>
    cases a with
    | nil => rw [List.singleton_append, jn_cons _ _ hb]; rfl
    | cons y a =>
      rw [List.cons_append, jn_cons _ _ (by simp), ih (by simp), jn_cons x (y :: a) (by simp)]
      simp

/-! ### the order -/
def lt (a b : List UInt8) : Bool := Op.bytesLess a b
theorem lt_nil_r (a : List UInt8) : lt a [] = false := by cases a <;> rfl
theorem lt_nil_l (b : UInt8) (y : List UInt8) : lt [] (b :: y) = true := rfl
theorem lt_cons (a b : UInt8) (x y : List UInt8) : lt (a :: x) (b :: y) = (decide (a < b) || (a == b && lt x y)) := rfl
theorem u8_tri (a b : UInt8) (h1 : ¬ a < b) (h2 : ¬ b < a) : a = b := UInt8.le_antisymm (UInt8.not_lt.mp h2) (UInt8.not_lt.mp h1)
theorem u8_irr (a : UInt8) : ¬ a < a := UInt8.lt_irrefl a
theorem lt_irr : ∀ x, lt x x = false
  | [] => rfl
  | a :: x => by rw [lt_cons, lt_irr x]; simp
theorem lt_asymm : ∀ x y, lt x y = true → lt y x = false
  | x, [], h => by rw [lt_nil_r] at h; cases h
  | [], b :: y, _ => lt_nil_r _
  | a :: x, b :: y, h => by
    rw [lt_cons] at h ⊢
    simp only [Bool.or_eq_true, decide_eq_true_eq, Bool.and_eq_true, beq_iff_eq] at h
    rcases h with h | ⟨rfl, h⟩
    · have h1 : ¬ b < a := UInt8.lt_asymm h
      have h2 : b ≠ a := fun e => u8_irr a (e ▸ h)
      simp [h1, h2]
    · simp [lt_asymm x y h]
theorem lt_tri : ∀ x y, lt x y = false → lt y x = false → x = y
  | [], [], _, _ => rfl
  | a :: x, [], _, h => by cases h
  | [], b :: y, h, _ => by cases h
  | a :: x, b :: y, h1, h2 => by
    rw [lt_cons] at h1 h2
    simp only [Bool.or_eq_false_iff, decide_eq_false_iff_not, Bool.and_eq_false_iff, beq_eq_false_iff_ne] at h1 h2
    obtain rfl := u8_tri a b h1.1 h2.1
    have e1 := h1.2.resolve_left (fun h => h rfl)
    have e2 := h2.2.resolve_left (fun h => h rfl)
    rw [lt_tri x y e1 e2]
theorem lt_trans : ∀ x y z, lt x y = true → lt y z = true → lt x z = true
  | _, [], _, h, _ => by rw [lt_nil_r] at h; cases h
  | _, _ :: _, [], _, h => by rw [lt_nil_r] at h; cases h
  | [], _ :: _, _ :: _, _, _ => rfl
  | a :: x, b :: y, c :: z, h1, h2 => by
    rw [lt_cons] at h1 h2 ⊢
    simp only [Bool.or_eq_true, decide_eq_true_eq, Bool.and_eq_true, beq_iff_eq] at h1 h2 ⊢
    rcases h1 with h1 | ⟨rfl, h1⟩
    · rcases h2 with h2 | ⟨rfl, h2⟩
      · exact .inl (UInt8.lt_trans h1 h2)
      · exact .inl h1
    · rcases h2 with h2 | ⟨rfl, h2⟩
      · exact .inl h2
      · exact .inr ⟨rfl, lt_trans x y z h1 h2⟩

/-- Part by part. -/
def cmpP : List (List UInt8) → List (List UInt8) → Int
  | [], [] => 0
  | [], _ :: _ => -1
  | _ :: _, [] => 1
  | x :: xs, y :: ys => if lt x y = true then -1 else if x = y then cmpP xs ys else 1
def less (a b : List (List UInt8)) : Bool := decide (cmpP a b < 0)
theorem less_nil_nil : less [] [] = false := rfl
theorem less_nil (y : List UInt8) (ys) : less [] (y :: ys) = true := rfl
theorem less_cons_nil (x : List UInt8) (xs) : less (x :: xs) [] = false := rfl
theorem less_cons (x y : List UInt8) (xs ys) : less (x :: xs) (y :: ys) = (lt x y || (x == y && less xs ys)) := by
  unfold less
  rw [cmpP]
  by_cases h : lt x y = true
  · simp [h]
  · rw [if_neg h]
    by_cases e : x = y
    · simp [e, lt_irr]
    · rw [if_neg e]
      simp [h, e]
theorem less_irr : ∀ a, less a a = false
  | [] => rfl
  | x :: a => by rw [less_cons, less_irr a, lt_irr]; simp
theorem less_asymm : ∀ a b, less a b = true → less b a = false
  | [], [], h => by cases h
  | _ :: _, [], h => by cases h
  | [], _ :: _, _ => rfl
  | x :: a, y :: b, h => by
    rw [less_cons] at h ⊢
    simp only [Bool.or_eq_true, Bool.and_eq_true, beq_iff_eq] at h
    rcases h with h | ⟨rfl, h⟩
    · have h2 : y ≠ x := fun e => by rw [e, lt_irr] at h; cases h
      simp [lt_asymm x y h, h2]
    · simp [lt_irr, less_asymm a b h]
theorem less_tri : ∀ a b, less a b = false → less b a = false → a = b
  | [], [], _, _ => rfl
  | _ :: _, [], _, h => by cases h
  | [], _ :: _, h, _ => by cases h
  | x :: a, y :: b, h1, h2 => by
    rw [less_cons] at h1 h2
    simp only [Bool.or_eq_false_iff, Bool.and_eq_false_iff, beq_eq_false_iff_ne] at h1 h2
    obtain rfl := lt_tri x y h1.1 h2.1
    rw [less_tri a b (h1.2.resolve_left (fun h => h rfl)) (h2.2.resolve_left (fun h => h rfl))]
theorem less_trans : ∀ a b c, less a b = true → less b c = true → less a c = true
  | [], [], _, h, _ => by cases h
  | _ :: _, [], _, h, _ => by cases h
  | _, _ :: _, [], _, h => by cases h
  | [], _ :: _, _ :: _, _, _ => rfl
  | x :: a, y :: b, z :: c, h1, h2 => by
    rw [less_cons] at h1 h2 ⊢
    simp only [Bool.or_eq_true, Bool.and_eq_true, beq_iff_eq] at h1 h2 ⊢
    rcases h1 with h1 | ⟨rfl, h1⟩
    · rcases h2 with h2 | ⟨rfl, h2⟩
      · exact .inl (lt_trans x y z h1 h2)
      · exact .inl h1
    · rcases h2 with h2 | ⟨rfl, h2⟩
      · exact .inl h2
      · exact .inr ⟨rfl, less_trans a b c h1 h2⟩
theorem less_app : ∀ (d r : List (List UInt8)), r ≠ [] → less d (d ++ r) = true
  | [], [], h => absurd rfl h
  | [], _ :: _, _ => rfl
  | x :: d, r, h => by rw [List.cons_append, less_cons, less_app d r h]; simp
theorem between : ∀ (d p r : List (List UInt8)), less d p = true → less p (d ++ r) = true → ∃ r', r' ≠ [] ∧ p = d ++ r'
  | [], [], _, h, _ => by cases h
  | [], x :: p, _, _, _ => ⟨x :: p, by simp, rfl⟩
  | _ :: _, [], _, h, _ => by cases h
  | y :: d, x :: p, r, h1, h2 => by
    rw [less_cons] at h1
    rw [List.cons_append, less_cons] at h2
    simp only [Bool.or_eq_true, Bool.and_eq_true, beq_iff_eq] at h1 h2
    rcases h1 with h1 | ⟨rfl, h1⟩
    · rcases h2 with h2 | ⟨rfl, h2⟩
      · have := lt_asymm _ _ h1; rw [h2] at this; cases this
      · rw [lt_irr] at h1; cases h1
    · rcases h2 with h2 | ⟨_, h2⟩
      · rw [lt_irr] at h2; cases h2
      · obtain ⟨r', e1, e2⟩ := between d p r h1 h2
        exact ⟨r', e1, by rw [e2]; rfl⟩
/-- A path's names. -/
def S (s : List UInt8) : List (List UInt8) := if s = [] then [] else sp s
theorem S_inj {a b : List UInt8} (h : S a = S b) : a = b := by
  unfold S at h
  by_cases ha : a = []
  · by_cases hb : b = []
    · rw [ha, hb]
    · rw [if_pos ha, if_neg hb] at h
      exact absurd h.symm (sp_ne b)
  · by_cases hb : b = []
    · rw [if_neg ha, if_pos hb] at h
      exact absurd h (sp_ne a)
    · rw [if_neg ha, if_neg hb] at h
      exact sp_inj h
/-- Is p under d (d not empty)? -/
theorem under_of_app {d p : List UInt8} {r : List (List UInt8)} (hr : r ≠ []) (h : sp p = sp d ++ r) : ∃ t, p = d ++ 47 :: t := by
  have := congrArg jn h
  rw [jn_sp, jn_append _ _ (sp_ne d) hr, jn_sp] at this
  exact ⟨_, this⟩
theorem data_ext {a b : ByteArray} (h : a.data.toList = b.data.toList) : a = b := by
  cases a; cases b; simp at h; simp [h]
end Go.Proofs.YtfndfkekihacdaaDoor.PureSp
