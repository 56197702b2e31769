import Derived.Test.YtfndfkekihacdaaDoorRPathBlocks
import Derived.Test.YtfndfkekihacdaaDoorPureSp
import Derived.OpenShut
namespace Go.Proofs.YtfndfkekihacdaaDoor.Pure
open Go Go.Lib Go.RowKit Go.WideShapes Go.Proofs.YtfndfkekihacdaaDoor.QPathBlocks Go.Proofs.YtfndfkekihacdaaDoorW.PrintWords Go.Proofs.YtfndfkekihacdaaDoorW.PrintLast Go.Proofs.YtfndfkekihacdaaDoor.PureSp

namespace PathBlocksP
theorem toL (s : ByteArray) : s.toList = s.data.toList := toList_data s
theorem awake : ∀ k : Nat, sumpterlaw07_awake.f (k + 9) = some true
  | 0 => by decide +kernel
  | k + 1 => sumpterlaw07_awake.mono (k + 9) _ (awake k)
theorem split (s : ByteArray) (hs : s.size < 4294967281) : ∃ l : List ByteArray, QPathBlocks.path_Split.f s = some l ∧ l.map (·.data.toList) = S s.data.toList := by
  unfold QPathBlocks.path_Split.f S
  rw [toL]
  by_cases h : s.data.toList = []
  · rw [if_pos h, if_pos h]
    exact ⟨[], rfl, rfl⟩
  · rw [if_neg h, if_neg h]
    unfold QPathBlocks.strings_Split.f
    rw [if_pos hs, if_pos (by decide), Option.bind_some]
    refine ⟨_, rfl, ?_⟩
    rw [splitB_data]
    exact splitK_sp _ _ (count_one 47 _).symm
theorem cmpf (a b : ByteArray) : QPathBlocks.cmp_Compare_string.f a b = if lt a.data.toList b.data.toList = true then some (-1) else (if a.data.toList = b.data.toList then some 0 else some 1) := by
  unfold QPathBlocks.cmp_Compare_string.f
  rw [toL, toL]
  rfl
theorem compare_at (l m : List ByteArray) (hl : l.length < 4611686018427387904) : ∀ (n i k : Nat), n + i = l.length → n + 1 ≤ k →
    QPathBlocks.slices_Compare_string_string.l0 k l m l (l.length : Int) (i : Int) = some (cmpP ((l.drop i).map (·.data.toList)) ((m.drop i).map (·.data.toList)))
  | 0, i, k, h, hk => by
    obtain ⟨k, rfl⟩ : ∃ j, k = j + 1 := ⟨k - 1, by omega⟩
    simp only [QPathBlocks.slices_Compare_string_string.l0]
    rw [if_neg (by omega), List.drop_of_length_le (by omega)]
    by_cases hm : (l.length : Int) < (m.length : Int)
    · rw [if_pos hm, List.drop_eq_getElem_cons (l := m) (i := i) (by omega)]
      rfl
    · rw [if_neg hm, List.drop_of_length_le (l := m) (by omega)]
      rfl
  | n + 1, i, k, h, hk => by
    obtain ⟨k, rfl⟩ : ∃ j, k = j + 1 := ⟨k - 1, by omega⟩
    have hi : i < l.length := by omega
    simp only [QPathBlocks.slices_Compare_string_string.l0]
    rw [if_pos (by omega), if_pos (by omega), if_pos (by omega), List.drop_eq_getElem_cons hi]
    by_cases hm : (i : Int) ≥ (m.length : Int)
    · rw [if_pos hm, List.drop_of_length_le (l := m) (by omega)]
      rfl
    · have hm' : i < m.length := by omega
      rw [if_neg hm, if_pos (by omega), List.drop_eq_getElem_cons hm']
      have e1 : rdOf ByteArray.empty l (i : Int) = l[i] := by simp [rdOf, List.getD, hi]
      have e2 : rdOf ByteArray.empty m (i : Int) = m[i] := by simp [rdOf, List.getD, hm']
      rw [e1, e2]
      rw [cmpf, List.map_cons, List.map_cons, cmpP]
      by_cases c1 : lt l[i].data.toList m[i].data.toList = true
      · rw [if_pos c1, if_pos c1, Option.bind_some, if_neg (by decide)]
      · rw [if_neg c1, if_neg c1]
        by_cases c2 : l[i].data.toList = m[i].data.toList
        · rw [if_pos c2, if_pos c2, Option.bind_some, if_pos rfl, PureSp.w64 (x := (i : Int) + 1) (by omega)]
          exact compare_at l m hl n (i + 1) k (by omega) (by omega)
        · rw [if_neg c2, if_neg c2, Option.bind_some, if_neg (by decide)]
theorem S_length (s : List UInt8) : (S s).length ≤ s.length + 1 := by
  have h : ∀ s : List UInt8, (sp s).length ≤ s.length + 1 := by
    intro s
    induction s with
    | nil => simp [sp]
    | cons c l ih =>
      by_cases hc : c = 47
      · rw [sp, if_pos hc]; simp only [List.length_cons]; omega
      · obtain ⟨x, t, e1, e2⟩ := sp_cons c l hc
        rw [e1] at ih
        rw [e2]; simp only [List.length_cons] at ih ⊢; omega
  unfold S
  split
  · simp
  · exact h s
theorem lessf (k : Nat) (a b : ByteArray) (ha : a.size ≤ 1001) (hb : b.size ≤ 1001) (hk : a.size + 3 ≤ k) : QPathBlocks.path_Less.f k a b = some (less (S a.data.toList) (S b.data.toList)) := by
  obtain ⟨l, e1, e2⟩ := split a (by omega)
  obtain ⟨m, e3, e4⟩ := split b (by omega)
  have hl : l.length ≤ a.size + 1 := by
    have := S_length a.data.toList
    rw [← e2, List.length_map] at this
    simpa using this
  unfold QPathBlocks.path_Less.f QPathBlocks.slices_Compare_string_string.f
  have := compare_at l m (by omega) l.length 0 k (by omega) (by omega)
  rw [e1, Option.bind_some, e3, Option.bind_some]
  change (QPathBlocks.slices_Compare_string_string.l0 k l m l (l.length : Int) ((0 : Nat) : Int)).bind _ = _
  rw [this, Option.bind_some, List.drop_zero, List.drop_zero, e2, e4]
  rfl
theorem prefixf (a b : ByteArray) (hb : b.size ≤ 2000) : QPathBlocks.strings_HasPrefix.f a b = some (b.data.toList.isPrefixOf a.data.toList) := by
  unfold QPathBlocks.strings_HasPrefix.f QPathBlocks.stringslite_HasPrefix.f
  have hs : b.data.toList.length = b.size := by simp
  have hs' : a.data.toList.length = a.size := by simp
  by_cases h : (a.size : Int) ≥ (b.size : Int)
  · rw [if_pos h, if_pos (by omega), if_pos (by omega), Option.bind_some]
    congr 1
    rw [toL, toL, show ((b.size : Int)).toNat = b.size from rfl, extract_from_zero]
    rw [Bool.eq_iff_iff, beq_iff_eq, List.isPrefixOf_iff_prefix]
    constructor
    · intro he
      rw [← he]
      exact List.take_prefix _ _
    · rintro ⟨t, ht⟩
      rw [← ht, ← hs]
      simp
  · rw [if_neg h, Option.bind_some]
    congr 1
    symm
    rw [Bool.eq_false_iff]
    intro he
    have := (List.isPrefixOf_iff_prefix.mp he).length_le
    omega
theorem underf (p d : ByteArray) (hd : d.size ≤ 1001) : QPathBlocks.path_Under.f p d = some (if d.data.toList = [] then (p.data.toList != []) else (d.data.toList ++ [47]).isPrefixOf p.data.toList) := by
  unfold QPathBlocks.path_Under.f
  rw [toL, toL]
  have h1 : (d ++ (⟨#[47]⟩ : ByteArray)).size = d.size + 1 := by
    have : (⟨#[47]⟩ : ByteArray).size = 1 := rfl
    rw [ByteArray.size_append, this]
  by_cases h : d.data.toList = []
  · rw [if_pos h, if_pos h]
  · rw [if_neg h, if_neg h, if_pos (by omega), prefixf _ _ (by omega), Option.bind_some]
    have : (d ++ (⟨#[47]⟩ : ByteArray)).data.toList = d.data.toList ++ [47] := by simp
    rw [this]
theorem pre_iff (p d : List UInt8) : ((d ++ [47]).isPrefixOf p = true) ↔ ∃ t, p = d ++ 47 :: t := by
  rw [List.isPrefixOf_iff_prefix]
  constructor
  · rintro ⟨t, ht⟩
    exact ⟨t, by rw [← ht]; simp⟩
  · rintro ⟨t, ht⟩
    exact ⟨t, by rw [ht]; simp⟩
theorem checkf (s : ByteArray) (r : Int) (h : QPathBlocks.path_Check.f s = some r) (hr : r = 0) : s.size ≤ 128 ∧ s.data.toList ≠ [] := by
  unfold QPathBlocks.path_Check.f at h
  by_cases h0 : (s.size : Int) > 128
  · rw [if_pos h0] at h
    have := Option.some.inj h
    omega
  · refine ⟨by omega, fun he => ?_⟩
    rw [if_neg h0] at h
    unfold QPathBlocks.path_Split.f at h
    rw [toL, if_pos he, Option.bind_some] at h
    have h' : some (6 : Int) = some r := h
    have := Option.some.inj h'
    omega
theorem check_some (s : ByteArray) : ∃ r, QPathBlocks.path_Check.f s = some r := by
  unfold QPathBlocks.path_Check.f
  by_cases h0 : (s.size : Int) > 128
  · exact ⟨5, by rw [if_pos h0]⟩
  · obtain ⟨l, e, _⟩ := split s (by omega)
    rw [if_neg h0, e, Option.bind_some]
    split
    · exact ⟨_, rfl⟩
    · split
      · exact ⟨_, rfl⟩
      · split <;> exact ⟨_, rfl⟩
end PathBlocksP
open PathBlocksP
theorem PathBlocks : sumpterlaw07_PathBlocks.Pure2 := by
  intro d p q _ _ _
  refine ⟨140 + 1 + 9, ?_⟩
  have aw : sumpterlaw07_awake.f (140 + 9) = some true := awake 140
  have hj : sumpterlaw07_PathBlocks.j0 (140 + 1 + 9) d p q true = some true := by
    rw [show (140 + 1 + 9 : Nat) = 140 + 9 + 1 from rfl]
    simp only [sumpterlaw07_PathBlocks.j0]
    rw [if_true, aw]; rfl
  unfold sumpterlaw07_PathBlocks.f
  obtain ⟨r1, e1⟩ := check_some d
  rw [e1, Option.bind_some]
  by_cases h1 : r1 ≠ 0
  · rw [if_neg h1, hj]
  replace h1 : r1 = 0 := by omega
  rw [if_pos h1]
  obtain ⟨r2, e2⟩ := check_some p
  rw [e2, Option.bind_some]
  by_cases h2 : r2 ≠ 0
  · rw [if_neg h2, hj]
  replace h2 : r2 = 0 := by omega
  rw [if_pos h2]
  obtain ⟨r3, e3⟩ := check_some q
  rw [e3, Option.bind_some]
  by_cases h3 : r3 ≠ 0
  · rw [if_neg h3, hj]
  replace h3 : r3 = 0 := by omega
  rw [if_pos h3]
  obtain ⟨s1, n1⟩ := checkf d r1 e1 h1
  obtain ⟨s2, n2⟩ := checkf p r2 e2 h2
  obtain ⟨s3, n3⟩ := checkf q r3 e3 h3
  rw [underf q d (by omega), Option.bind_some, if_neg n1]
  by_cases hu : (d.data.toList ++ [47]).isPrefixOf q.data.toList = false
  · rw [hu]
    exact hj
  replace hu : (d.data.toList ++ [47]).isPrefixOf q.data.toList = true := by simpa using hu
  rw [hu]
  obtain ⟨t, ht⟩ := (pre_iff _ _).mp hu
  have hS (x : ByteArray) (hx : x.data.toList ≠ []) : S x.data.toList = sp x.data.toList := by unfold S; rw [if_neg hx]
  have hq : sp q.data.toList = sp d.data.toList ++ sp t := by rw [ht, sp_slash]
  rw [show (140 + 1 + 9 : Nat) = 140 + 9 + 1 from rfl]
  simp only [sumpterlaw07_PathBlocks.j0]
  rw [if_neg (by decide), lessf _ d p (by omega) (by omega) (by omega), lessf _ p q (by omega) (by omega) (by omega), lessf _ d q (by omega) (by omega) (by omega), hS d n1, hS p n2, hS q n3, Option.bind_some, hq,
    less_app _ _ (sp_ne t)]
  simp only [Option.bind_some, if_true]
  by_cases hdp : less (sp d.data.toList) (sp p.data.toList) = true
  · rw [if_pos hdp]
    by_cases hpq : less (sp p.data.toList) (sp d.data.toList ++ sp t) = true
    · rw [if_pos hpq, underf p d (by omega), Option.bind_some, if_neg n1]
      obtain ⟨r', x1, x2⟩ := between _ _ _ hdp hpq
      rw [(pre_iff _ _).mpr (under_of_app x1 x2), if_pos rfl, aw]
      rfl
    · rw [if_neg hpq, aw]; rfl
  · rw [if_neg hdp, aw]; rfl
end Go.Proofs.YtfndfkekihacdaaDoor.Pure
