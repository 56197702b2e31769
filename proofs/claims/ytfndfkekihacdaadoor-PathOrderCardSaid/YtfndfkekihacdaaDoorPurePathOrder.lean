import Derived.Test.YtfndfkekihacdaaDoorRPathOrder
import Derived.Test.YtfndfkekihacdaaDoorPureSp
import Derived.OpenShut
namespace Go.Proofs.YtfndfkekihacdaaDoor.Pure
open Go Go.Lib Go.RowKit Go.WideShapes Go.Proofs.YtfndfkekihacdaaDoor.QPathOrder Go.Proofs.YtfndfkekihacdaaDoorW.PrintWords Go.Proofs.YtfndfkekihacdaaDoorW.PrintLast Go.Proofs.YtfndfkekihacdaaDoor.PureSp

namespace PathOrderP
theorem toL (s : ByteArray) : s.toList = s.data.toList := toList_data s
theorem awake : ∀ k : Nat, sumpterlaw07_awake.f (k + 9) = some true
  | 0 => by decide +kernel
  | k + 1 => sumpterlaw07_awake.mono (k + 9) _ (awake k)
theorem split (s : ByteArray) (hs : s.size < 4294967281) : ∃ l : List ByteArray, QPathOrder.path_Split.f s = some l ∧ l.map (·.data.toList) = S s.data.toList := by
  unfold QPathOrder.path_Split.f S
  rw [toL]
  by_cases h : s.data.toList = []
  · rw [if_pos h, if_pos h]
    exact ⟨[], rfl, rfl⟩
  · rw [if_neg h, if_neg h]
    unfold QPathOrder.strings_Split.f
    rw [if_pos hs, if_pos (by decide), Option.bind_some]
    refine ⟨_, rfl, ?_⟩
    rw [splitB_data]
    exact splitK_sp _ _ (count_one 47 _).symm
theorem cmpf (a b : ByteArray) : QPathOrder.cmp_Compare_string.f a b = if lt a.data.toList b.data.toList = true then some (-1) else (if a.data.toList = b.data.toList then some 0 else some 1) := by
  unfold QPathOrder.cmp_Compare_string.f
  rw [toL, toL]
  rfl
theorem compare_at (l m : List ByteArray) (hl : l.length < 4611686018427387904) : ∀ (n i k : Nat), n + i = l.length → n + 1 ≤ k →
    QPathOrder.slices_Compare_string_string.l0 k l m l (l.length : Int) (i : Int) = some (cmpP ((l.drop i).map (·.data.toList)) ((m.drop i).map (·.data.toList)))
  | 0, i, k, h, hk => by
    obtain ⟨k, rfl⟩ : ∃ j, k = j + 1 := ⟨k - 1, by omega⟩
    simp only [QPathOrder.slices_Compare_string_string.l0]
    rw [if_neg (by omega), List.drop_of_length_le (by omega)]
    by_cases hm : (l.length : Int) < (m.length : Int)
    · rw [if_pos hm, List.drop_eq_getElem_cons (l := m) (i := i) (by omega)]
      rfl
    · rw [if_neg hm, List.drop_of_length_le (l := m) (by omega)]
      rfl
  | n + 1, i, k, h, hk => by
    obtain ⟨k, rfl⟩ : ∃ j, k = j + 1 := ⟨k - 1, by omega⟩
    have hi : i < l.length := by omega
    simp only [QPathOrder.slices_Compare_string_string.l0]
    rw [if_pos (by omega), if_pos (by omega), if_pos (by omega), List.drop_eq_getElem_cons hi]
    by_cases hm : (i : Int) ≥ (m.length : Int)
    · rw [if_pos hm, List.drop_of_length_le (l := m) (by omega)]
      rfl
    · have hm' : i < m.length := by omega
      rw [if_neg hm, if_pos (by omega), List.drop_eq_getElem_cons hm']
      have e1 : rdOf ByteArray.empty l (i : Int) = l[i] := by simp [rdOf, List.getD, hi]
      have e2 : rdOf ByteArray.empty m (i : Int) = m[i] := by simp [rdOf, List.getD, hm']
      rw [e1, e2]
      rw [cmpf, List.map_cons, List.map_cons, cmpP]
      by_cases c1 : lt l[i].data.toList m[i].data.toList = true
      · rw [if_pos c1, if_pos c1, Option.bind_some, if_neg (by decide)]
      · rw [if_neg c1, if_neg c1]
        by_cases c2 : l[i].data.toList = m[i].data.toList
        · rw [if_pos c2, if_pos c2, Option.bind_some, if_pos rfl, PureSp.w64 (x := (i : Int) + 1) (by omega)]
          exact compare_at l m hl n (i + 1) k (by omega) (by omega)
        · rw [if_neg c2, if_neg c2, Option.bind_some, if_neg (by decide)]
theorem S_length (s : List UInt8) : (S s).length ≤ s.length + 1 := by
  have h : ∀ s : List UInt8, (sp s).length ≤ s.length + 1 := by
    intro s
    induction s with
    | nil => simp [sp]
    | cons c l ih =>
      by_cases hc : c = 47
      · rw [sp, if_pos hc]; simp only [List.length_cons]; omega
      · obtain ⟨x, t, e1, e2⟩ := sp_cons c l hc
        rw [e1] at ih
        rw [e2]; simp only [List.length_cons] at ih ⊢; omega
  unfold S
  split
  · simp
  · exact h s
theorem lessf (k : Nat) (a b : ByteArray) (ha : a.size ≤ 1001) (hb : b.size ≤ 1001) (hk : a.size + 3 ≤ k) : QPathOrder.path_Less.f k a b = some (less (S a.data.toList) (S b.data.toList)) := by
  obtain ⟨l, e1, e2⟩ := split a (by omega)
  obtain ⟨m, e3, e4⟩ := split b (by omega)
  have hl : l.length ≤ a.size + 1 := by
    have := S_length a.data.toList
    rw [← e2, List.length_map] at this
    simpa using this
  unfold QPathOrder.path_Less.f QPathOrder.slices_Compare_string_string.f
  have := compare_at l m (by omega) l.length 0 k (by omega) (by omega)
  rw [e1, Option.bind_some, e3, Option.bind_some]
  change (QPathOrder.slices_Compare_string_string.l0 k l m l (l.length : Int) ((0 : Nat) : Int)).bind _ = _
  rw [this, Option.bind_some, List.drop_zero, List.drop_zero, e2, e4]
  rfl
theorem checkf (s : ByteArray) (r : Int) (h : QPathOrder.path_Check.f s = some r) (hr : r = 0) : s.size ≤ 128 ∧ s.data.toList ≠ [] := by
  unfold QPathOrder.path_Check.f at h
  by_cases h0 : (s.size : Int) > 128
  · rw [if_pos h0] at h
    have := Option.some.inj h
    omega
  · refine ⟨by omega, fun he => ?_⟩
    rw [if_neg h0] at h
    unfold QPathOrder.path_Split.f at h
    rw [toL, if_pos he, Option.bind_some] at h
    have h' : some (6 : Int) = some r := h
    have := Option.some.inj h'
    omega
theorem check_some (s : ByteArray) : ∃ r, QPathOrder.path_Check.f s = some r := by
  unfold QPathOrder.path_Check.f
  by_cases h0 : (s.size : Int) > 128
  · exact ⟨5, by rw [if_pos h0]⟩
  · obtain ⟨l, e, _⟩ := split s (by omega)
    rw [if_neg h0, e, Option.bind_some]
    split
    · exact ⟨_, rfl⟩
    · split
      · exact ⟨_, rfl⟩
      · split <;> exact ⟨_, rfl⟩
end PathOrderP
open PathOrderP
theorem PathOrder : sumpterlaw07_PathOrder.Pure2 := by
  intro a b c _ _ _
  refine ⟨140 + 1 + 9, ?_⟩
  have aw : sumpterlaw07_awake.f (140 + 9) = some true := awake 140
  have hj : sumpterlaw07_PathOrder.j0 (140 + 1 + 9) a b c true = some true := by
    rw [show (140 + 1 + 9 : Nat) = 140 + 9 + 1 from rfl]
    simp only [sumpterlaw07_PathOrder.j0]
    rw [if_true, aw]; rfl
  unfold sumpterlaw07_PathOrder.f
  obtain ⟨r1, e1⟩ := check_some a
  rw [e1, Option.bind_some]
  by_cases h1 : r1 ≠ 0
  · rw [if_neg h1, hj]
  replace h1 : r1 = 0 := by omega
  rw [if_pos h1]
  obtain ⟨r2, e2⟩ := check_some b
  rw [e2, Option.bind_some]
  by_cases h2 : r2 ≠ 0
  · rw [if_neg h2, hj]
  replace h2 : r2 = 0 := by omega
  rw [if_pos h2]
  obtain ⟨r3, e3⟩ := check_some c
  rw [e3, Option.bind_some]
  by_cases h3 : r3 ≠ 0
  · rw [show (r3 != 0) = true by simpa using h3, hj]
  replace h3 : r3 = 0 := by omega
  rw [show (r3 != 0) = false by simp [h3]]
  obtain ⟨s1, n1⟩ := checkf a r1 e1 h1
  obtain ⟨s2, n2⟩ := checkf b r2 e2 h2
  obtain ⟨s3, n3⟩ := checkf c r3 e3 h3
  have hS (x : ByteArray) (hx : x.data.toList ≠ []) : S x.data.toList = sp x.data.toList := by unfold S; rw [if_neg hx]
  rw [show (140 + 1 + 9 : Nat) = 140 + 9 + 1 from rfl]
  simp only [sumpterlaw07_PathOrder.j0]
  rw [if_neg (by decide), lessf _ a b (by omega) (by omega) (by omega), lessf _ b a (by omega) (by omega) (by omega), lessf _ b c (by omega) (by omega) (by omega), lessf _ a c (by omega) (by omega) (by omega), hS a n1, hS b n2, hS c n3, toL, toL, aw]
  generalize ha : sp a.data.toList = A
  generalize hb : sp b.data.toList = B
  generalize sp c.data.toList = C
  have hab : (a.data.toList != b.data.toList) = (A != B) := by
    rw [← ha, ← hb, Bool.eq_iff_iff]
    simp only [bne_iff_ne, ne_eq]
    exact ⟨fun h e => h (sp_inj e), fun h e => h (by rw [e])⟩
  rw [hab]
  clear ha hb hab
  by_cases x1 : less A B = true
  · have x2 := less_asymm A B x1
    have x3 : A ≠ B := by rintro rfl; rw [less_irr] at x1; cases x1
    have x4 : less B C = true → less A C = true := fun h => less_trans A B C x1 h
    have x5 : (A != B) = true := by simpa using x3
    simp only [Option.bind_some, x1, x2, x5, if_true]
    by_cases x6 : less B C = true
    · simp [x6, x4 x6]
    · simp [x6]
  · have x1' : less A B = false := by simpa using x1
    by_cases x2 : less B A = true
    · have x3 : (A != B) = true := by
        have : A ≠ B := by rintro rfl; rw [less_irr] at x2; cases x2
        simpa using this
      simp [x1', x2, x3]
    · have x2' : less B A = false := by simpa using x2
      obtain rfl := less_tri A B x1' x2'
      simp [x1']
end Go.Proofs.YtfndfkekihacdaaDoor.Pure
