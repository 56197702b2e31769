import Derived.Test.YtfndfkekihacdaaDoorRPathOrders
import Derived.Test.YtfndfkekihacdaaDoorPureSp
import Derived.OpenShut
namespace Go.Proofs.YtfndfkekihacdaaDoor.Pure
open Go Go.Lib Go.RowKit Go.WideShapes Go.Proofs.YtfndfkekihacdaaDoor.QPathOrders Go.Proofs.YtfndfkekihacdaaDoorW.PrintWords Go.Proofs.YtfndfkekihacdaaDoorW.PrintLast Go.Proofs.YtfndfkekihacdaaDoor.PureSp

namespace PathOrdersP
theorem toL (s : ByteArray) : s.toList = s.data.toList := toList_data s
theorem awake : ∀ k : Nat, sumpterlaw07_awake.f (k + 9) = some true
  | 0 => by decide +kernel
  | k + 1 => sumpterlaw07_awake.mono (k + 9) _ (awake k)
theorem split (s : ByteArray) (hs : s.size < 4294967281) : ∃ l : List ByteArray, QPathOrders.path_Split.f s = some l ∧ l.map (·.data.toList) = S s.data.toList := by
  unfold QPathOrders.path_Split.f S
  rw [toL]
  by_cases h : s.data.toList = []
  · rw [if_pos h, if_pos h]
    exact ⟨[], rfl, rfl⟩
  · rw [if_neg h, if_neg h]
    unfold QPathOrders.strings_Split.f
    rw [if_pos hs, if_pos (by decide), Option.bind_some]
    refine ⟨_, rfl, ?_⟩
    rw [splitB_data]
    exact splitK_sp _ _ (count_one 47 _).symm
theorem cmpf (a b : ByteArray) : QPathOrders.cmp_Compare_string.f a b = if lt a.data.toList b.data.toList = true then some (-1) else (if a.data.toList = b.data.toList then some 0 else some 1) := by
  unfold QPathOrders.cmp_Compare_string.f
  rw [toL, toL]
  rfl
theorem compare_at (l m : List ByteArray) (hl : l.length < 4611686018427387904) : ∀ (n i k : Nat), n + i = l.length → n + 1 ≤ k →
    QPathOrders.slices_Compare_string_string.l0 k l m l (l.length : Int) (i : Int) = some (cmpP ((l.drop i).map (·.data.toList)) ((m.drop i).map (·.data.toList)))
  | 0, i, k, h, hk => by
    obtain ⟨k, rfl⟩ : ∃ j, k = j + 1 := ⟨k - 1, by omega⟩
    simp only [QPathOrders.slices_Compare_string_string.l0]
    rw [if_neg (by omega), List.drop_of_length_le (by omega)]
    by_cases hm : (l.length : Int) < (m.length : Int)
    · rw [if_pos hm, List.drop_eq_getElem_cons (l := m) (i := i) (by omega)]
      rfl
    · rw [if_neg hm, List.drop_of_length_le (l := m) (by omega)]
      rfl
  | n + 1, i, k, h, hk => by
    obtain ⟨k, rfl⟩ : ∃ j, k = j + 1 := ⟨k - 1, by omega⟩
    have hi : i < l.length := by omega
    simp only [QPathOrders.slices_Compare_string_string.l0]
    rw [if_pos (by omega), if_pos (by omega), if_pos (by omega), List.drop_eq_getElem_cons hi]
    by_cases hm : (i : Int) ≥ (m.length : Int)
    · rw [if_pos hm, List.drop_of_length_le (l := m) (by omega)]
      rfl
    · have hm' : i < m.length := by omega
      rw [if_neg hm, if_pos (by omega), List.drop_eq_getElem_cons hm']
      have e1 : rdOf ByteArray.empty l (i : Int) = l[i] := by simp [rdOf, List.getD, hi]
      have e2 : rdOf ByteArray.empty m (i : Int) = m[i] := by simp [rdOf, List.getD, hm']
      rw [e1, e2]
      rw [cmpf, List.map_cons, List.map_cons, cmpP]
      by_cases c1 : lt l[i].data.toList m[i].data.toList = true
      · rw [if_pos c1, if_pos c1, Option.bind_some, if_neg (by decide)]
      · rw [if_neg c1, if_neg c1]
        by_cases c2 : l[i].data.toList = m[i].data.toList
        · rw [if_pos c2, if_pos c2, Option.bind_some, if_pos rfl, PureSp.w64 (x := (i : Int) + 1) (by omega)]
          exact compare_at l m hl n (i + 1) k (by omega) (by omega)
        · rw [if_neg c2, if_neg c2, Option.bind_some, if_neg (by decide)]
theorem S_length (s : List UInt8) : (S s).length ≤ s.length + 1 := by
  have h : ∀ s : List UInt8, (sp s).length ≤ s.length + 1 := by
    intro s
    induction s with
    | nil => simp [sp]
    | cons c l ih =>
      by_cases hc : c = 47
      · rw [sp, if_pos hc]; simp only [List.length_cons]; omega
      · obtain ⟨x, t, e1, e2⟩ := sp_cons c l hc
        rw [e1] at ih
        rw [e2]; simp only [List.length_cons] at ih ⊢; omega
  unfold S
  split
  · simp
  · exact h s
theorem lessf (k : Nat) (a b : ByteArray) (ha : a.size ≤ 1001) (hb : b.size ≤ 1001) (hk : a.size + 3 ≤ k) : QPathOrders.path_Less.f k a b = some (less (S a.data.toList) (S b.data.toList)) := by
  obtain ⟨l, e1, e2⟩ := split a (by omega)
  obtain ⟨m, e3, e4⟩ := split b (by omega)
  have hl : l.length ≤ a.size + 1 := by
    have := S_length a.data.toList
    rw [← e2, List.length_map] at this
    simpa using this
  unfold QPathOrders.path_Less.f QPathOrders.slices_Compare_string_string.f
  have := compare_at l m (by omega) l.length 0 k (by omega) (by omega)
  rw [e1, Option.bind_some, e3, Option.bind_some]
  change (QPathOrders.slices_Compare_string_string.l0 k l m l (l.length : Int) ((0 : Nat) : Int)).bind _ = _
  rw [this, Option.bind_some, List.drop_zero, List.drop_zero, e2, e4]
  rfl
theorem prefixf (a b : ByteArray) (hb : b.size ≤ 2000) : QPathOrders.strings_HasPrefix.f a b = some (b.data.toList.isPrefixOf a.data.toList) := by
  unfold QPathOrders.strings_HasPrefix.f QPathOrders.stringslite_HasPrefix.f
  have hs : b.data.toList.length = b.size := by simp
  have hs' : a.data.toList.length = a.size := by simp
  by_cases h : (a.size : Int) ≥ (b.size : Int)
  · rw [if_pos h, if_pos (by omega), if_pos (by omega), Option.bind_some]
    congr 1
    rw [toL, toL, show ((b.size : Int)).toNat = b.size from rfl, extract_from_zero]
    rw [Bool.eq_iff_iff, beq_iff_eq, List.isPrefixOf_iff_prefix]
    constructor
    · intro he
      rw [← he]
      exact List.take_prefix _ _
    · rintro ⟨t, ht⟩
      rw [← ht, ← hs]
      simp
  · rw [if_neg h, Option.bind_some]
    congr 1
    symm
    rw [Bool.eq_false_iff]
    intro he
    have := (List.isPrefixOf_iff_prefix.mp he).length_le
    omega
theorem underf (p d : ByteArray) (hd : d.size ≤ 1001) : QPathOrders.path_Under.f p d = some (if d.data.toList = [] then (p.data.toList != []) else (d.data.toList ++ [47]).isPrefixOf p.data.toList) := by
  unfold QPathOrders.path_Under.f
  rw [toL, toL]
  have h1 : (d ++ (⟨#[47]⟩ : ByteArray)).size = d.size + 1 := by
    have : (⟨#[47]⟩ : ByteArray).size = 1 := rfl
    rw [ByteArray.size_append, this]
  by_cases h : d.data.toList = []
  · rw [if_pos h, if_pos h]
  · rw [if_neg h, if_neg h, if_pos (by omega), prefixf _ _ (by omega), Option.bind_some]
    have : (d ++ (⟨#[47]⟩ : ByteArray)).data.toList = d.data.toList ++ [47] := by simp
    rw [this]
theorem pre_iff (p d : List UInt8) : ((d ++ [47]).isPrefixOf p = true) ↔ ∃ t, p = d ++ 47 :: t := by
  rw [List.isPrefixOf_iff_prefix]
  constructor
  · rintro ⟨t, ht⟩
    exact ⟨t, by rw [← ht]; simp⟩
  · rintro ⟨t, ht⟩
    exact ⟨t, by rw [ht]; simp⟩
def glue (p : List UInt8) : List (List UInt8) → List (List UInt8)
  | [] => [p]
  | h :: t => (p ++ h) :: t
theorem bt_at' (s : ByteArray) (i : Nat) (h : i < s.size) : bt s (i : Int) = (s.data.toList[i]'(by simpa using h)).toNat := by
  unfold bt
  rw [dif_pos (by simpa using h)]
  simp
  rfl
theorem bt_47 (s : ByteArray) (i : Nat) (h : i < s.size) : (bt s (i : Int) = 47) ↔ s.data.toList[i]'(by simpa using h) = 47 := by
  rw [bt_at' s i h]
  constructor
  · intro e
    apply UInt8.toNat_inj.mp
    have : (47 : UInt8).toNat = 47 := rfl
    omega
  · intro e
    rw [e]; rfl
theorem refsplit_at (s : ByteArray) (hs : s.size ≤ 1001) : ∀ (n i f k : Nat) (out : List ByteArray), n + i = s.size → f ≤ i → out.length ≤ i → n + 2 ≤ k →
    ∃ l, QPathOrders.sumpterref07_Split.l0 k s out (f : Int) (i : Int) = some l ∧ l.map (·.data.toList) = out.map (·.data.toList) ++ glue ((s.data.toList.drop f).take (i - f)) (sp (s.data.toList.drop i))
  | 0, i, f, k, out, h, hf, ho, hk => by
    obtain ⟨k, rfl⟩ : ∃ j, k = j + 2 := ⟨k - 2, by omega⟩
    have hd : s.data.toList.drop i = [] := List.drop_of_length_le (by simp; omega)
    simp only [QPathOrders.sumpterref07_Split.l0]
    rw [if_pos (by omega), if_pos (by omega), if_pos (by omega), if_pos (by omega), if_pos (by omega), PureSp.w64 (x := (i : Int) + 1) (by omega), if_neg (by omega)]
    refine ⟨_, rfl, ?_⟩
    rw [hd, List.map_append]
    simp [sp, glue]
  | n + 1, i, f, k, out, h, hf, ho, hk => by
    obtain ⟨k, rfl⟩ : ∃ j, k = j + 1 := ⟨k - 1, by omega⟩
    have hi : i < s.size := by omega
    have hil : i < s.data.toList.length := by simpa using hi
    simp only [QPathOrders.sumpterref07_Split.l0]
    rw [if_pos (by omega), if_neg (by omega), if_pos (by omega), if_pos (by omega)]
    have hd : s.data.toList.drop i = s.data.toList[i] :: s.data.toList.drop (i + 1) := List.drop_eq_getElem_cons hil
    by_cases hc : bt s (i : Int) = 47
    · rw [if_pos hc, if_pos (by omega), if_pos (by omega), if_pos (by omega), PureSp.w64 (x := (i : Int) + 1) (by omega)]
      obtain ⟨l, e1, e2⟩ := refsplit_at s hs n (i + 1) (i + 1) k (out ++ [s.extract ((f : Int)).toNat ((i : Int)).toNat]) (by omega) (by omega) (by simp; omega) (by omega)
      refine ⟨l, e1, ?_⟩
      rw [e2, hd, (bt_47 s i hi).mp hc, sp, if_pos rfl]
      cases hq : sp (s.data.toList.drop (i + 1)) with
      | nil => exact absurd hq (sp_ne _)
      | cons x t => simp [glue]
    · rw [if_neg hc, PureSp.w64 (x := (i : Int) + 1) (by omega)]
      obtain ⟨l, e1, e2⟩ := refsplit_at s hs n (i + 1) f k out (by omega) (by omega) (by omega) (by omega)
      refine ⟨l, e1, ?_⟩
      obtain ⟨x, t, e3, e4⟩ := sp_cons s.data.toList[i] (s.data.toList.drop (i + 1)) (fun e => hc ((bt_47 s i hi).mpr e))
      rw [e2, hd, e3, e4]
      congr 1
      simp only [glue]
      congr 1
      have h1 : i - f < (s.data.toList.drop f).length := by rw [List.length_drop]; omega
      have h2 : (s.data.toList.drop f)[i - f] = s.data.toList[i] := by rw [List.getElem_drop]; congr 1; omega
      rw [show i + 1 - f = (i - f) + 1 by omega, List.take_succ_eq_append_getElem h1, h2]
      simp
theorem refsplit (k : Nat) (s : ByteArray) (hs : s.size ≤ 1001) (hk : s.size + 2 ≤ k) : ∃ l : List ByteArray, QPathOrders.sumpterref07_Split.f k s = some l ∧ l.map (·.data.toList) = S s.data.toList := by
  unfold QPathOrders.sumpterref07_Split.f S
  rw [toL]
  by_cases h : s.data.toList = []
  · rw [if_pos h, if_pos h]
    exact ⟨[], rfl, rfl⟩
  · rw [if_neg h, if_neg h]
    obtain ⟨l, e1, e2⟩ := refsplit_at s hs s.size 0 0 k [] (by omega) (by omega) (by simp) (by omega)
    refine ⟨l, e1, ?_⟩
    rw [e2]
    cases hq : sp s.data.toList with
    | nil => exact absurd hq (sp_ne _)
    | cons x t => simp [glue, hq]
theorem refless_at (l m : List ByteArray) (hl : l.length < 1000000) : ∀ (n i k : Nat), n + i = l.length → 2 * n + 2 ≤ k →
    QPathOrders.sumpterref07_Less.l0 k l m (i : Int) = some (less ((l.drop i).map (·.data.toList)) ((m.drop i).map (·.data.toList)))
  | 0, i, k, h, hk => by
    obtain ⟨k, rfl⟩ : ∃ j, k = j + 2 := ⟨k - 2, by omega⟩
    simp only [QPathOrders.sumpterref07_Less.l0, QPathOrders.sumpterref07_Less.j1]
    rw [if_neg (by omega), if_neg (by decide), List.drop_of_length_le (by omega)]
    congr 1
    by_cases hm : (l.length : Int) < (m.length : Int)
    · rw [decide_eq_true hm, List.drop_eq_getElem_cons (l := m) (i := i) (by omega)]
      rfl
    · rw [decide_eq_false hm, List.drop_of_length_le (l := m) (by omega)]
      rfl
  | n + 1, i, k, h, hk => by
    obtain ⟨k, rfl⟩ : ∃ j, k = j + 2 := ⟨k - 2, by omega⟩
    have hi : i < l.length := by omega
    simp only [QPathOrders.sumpterref07_Less.l0, QPathOrders.sumpterref07_Less.j1]
    rw [if_pos (by omega), List.drop_eq_getElem_cons hi]
    by_cases hm : (i : Int) < (m.length : Int)
    · have hm' : i < m.length := by omega
      rw [decide_eq_true hm, if_pos rfl, if_pos (by omega), if_pos (by omega), if_pos hm, List.drop_eq_getElem_cons hm']
      have e1 : rdOf ByteArray.empty l (i : Int) = l[i] := by simp [rdOf, List.getD, hi]
      have e2 : rdOf ByteArray.empty m (i : Int) = m[i] := by simp [rdOf, List.getD, hm']
      rw [e1, e2, toL, toL, List.map_cons, List.map_cons, less_cons]
      by_cases c : l[i].data.toList = m[i].data.toList
      · rw [if_pos c, PureSp.w64 (x := (i : Int) + 1) (by omega)]
        have ih := refless_at l m hl n (i + 1) k (by omega) (by omega)
        rw [show (((i + 1 : Nat)) : Int) = (i : Int) + 1 from rfl] at ih
        rw [ih, c, lt_irr]
        simp
      · rw [if_neg c]
        have : (l[i].data.toList == m[i].data.toList) = false := by simpa using c
        rw [this]
        simp [lt]
    · rw [decide_eq_false hm, if_neg (by decide), List.drop_of_length_le (l := m) (by omega)]
      congr 1
      rw [decide_eq_false (by omega)]
      rfl
theorem reflessf (k : Nat) (a b : ByteArray) (ha : a.size ≤ 1001) (hb : b.size ≤ 1001) (hk : 2 * a.size + 4 ≤ k) (hk2 : b.size + 2 ≤ k) : QPathOrders.sumpterref07_Less.f k a b = some (less (S a.data.toList) (S b.data.toList)) := by
  obtain ⟨l, e1, e2⟩ := refsplit k a (by omega) (by omega)
  obtain ⟨m, e3, e4⟩ := refsplit k b (by omega) (by omega)
  have hl : l.length ≤ a.size + 1 := by
    have := S_length a.data.toList
    rw [← e2, List.length_map] at this
    simpa using this
  unfold QPathOrders.sumpterref07_Less.f
  have := refless_at l m (by omega) l.length 0 k (by omega) (by omega)
  rw [e1, Option.bind_some, e3, Option.bind_some]
  change QPathOrders.sumpterref07_Less.l0 k l m ((0 : Nat) : Int) = _
  rw [this, List.drop_zero, List.drop_zero, e2, e4]
theorem refunderf (p d : ByteArray) : QPathOrders.sumpterref07_Under.f p d = some (if d.data.toList = [] then (p.data.toList != []) else (d.data.toList ++ [47]).isPrefixOf p.data.toList) := by
  unfold QPathOrders.sumpterref07_Under.f
  rw [toL, toL]
  have hd : d.data.toList.length = d.size := by simp
  have hp : p.data.toList.length = p.size := by simp
  by_cases h : d.data.toList = []
  · rw [if_pos h, if_pos h]
  · rw [if_neg h, if_neg h]
    by_cases hl : (p.size : Int) > (d.size : Int)
    · rw [if_pos hl, if_pos (by omega), if_pos (by omega), toL, show ((d.size : Int)).toNat = d.size from rfl, extract_from_zero]
      by_cases ht : p.data.toList.take d.size = d.data.toList
      · rw [if_pos ht, if_pos (by omega)]
        congr 1
        have hlt : d.size < p.size := by omega
        have hlt' : d.size < p.data.toList.length := by omega
        have hpp : p.data.toList = d.data.toList ++ p.data.toList[d.size] :: p.data.toList.drop (d.size + 1) := by
          conv => lhs; rw [← List.take_append_drop d.size p.data.toList, ht, List.drop_eq_getElem_cons hlt']
        rw [Bool.eq_iff_iff, beq_iff_eq, bt_47 p d.size hlt, pre_iff]
        constructor
        · intro e
          rw [e] at hpp
          exact ⟨_, hpp⟩
        · rintro ⟨t, e⟩
          have h2 : p.data.toList[d.size]? = some 47 := by rw [e, List.getElem?_append_right (by omega), hd]; simp
          rw [List.getElem?_eq_getElem hlt'] at h2
          exact Option.some.inj h2
      · rw [if_neg ht]
        congr 1
        symm
        rw [Bool.eq_false_iff]
        intro hh
        obtain ⟨t, e⟩ := (pre_iff _ _).mp hh
        exact ht (by rw [e, ← hd]; simp)
    · rw [if_neg hl]
      congr 1
      symm
      rw [Bool.eq_false_iff]
      intro hh
      obtain ⟨t, e⟩ := (pre_iff _ _).mp hh
      have := congrArg List.length e
      simp only [List.length_append, List.length_cons] at this
      omega
end PathOrdersP
open PathOrdersP
theorem PathOrders : sumpterlaw07_PathOrders.Pure2 := by
  intro a b _ _
  refine ⟨3000 + 1 + 9, ?_⟩
  have aw : sumpterlaw07_awake.f (3000 + 9) = some true := awake 3000
  have hj : sumpterlaw07_PathOrders.j0 (3000 + 1 + 9) a b true = some true := by
    rw [show (3000 + 1 + 9 : Nat) = 3000 + 9 + 1 from rfl]
    simp only [sumpterlaw07_PathOrders.j0]
    rw [if_true, aw]; rfl
  unfold sumpterlaw07_PathOrders.f
  by_cases h1 : (a.size : Int) > 1000
  · rw [if_pos h1, hj]
  rw [if_neg h1]
  by_cases h2 : (b.size : Int) > 1000
  · rw [decide_eq_true h2, hj]
  rw [decide_eq_false h2, show (3000 + 1 + 9 : Nat) = 3000 + 9 + 1 from rfl]
  simp only [sumpterlaw07_PathOrders.j0]
  rw [if_neg (by decide), underf a b (by omega), refunderf, lessf _ a b (by omega) (by omega) (by omega), reflessf _ a b (by omega) (by omega) (by omega) (by omega), aw]
  simp
end Go.Proofs.YtfndfkekihacdaaDoor.Pure
