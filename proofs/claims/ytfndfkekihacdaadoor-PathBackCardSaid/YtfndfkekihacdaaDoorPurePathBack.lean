import Derived.Test.YtfndfkekihacdaaDoorRPathBack
import Derived.Test.YtfndfkekihacdaaDoorPureSp
import Derived.OpenShut
namespace Go.Proofs.YtfndfkekihacdaaDoor.Pure
open Go Go.Lib Go.RowKit Go.WideShapes Go.Proofs.YtfndfkekihacdaaDoor.QPathBack Go.Proofs.YtfndfkekihacdaaDoorW.PrintWords Go.Proofs.YtfndfkekihacdaaDoorW.PrintLast Go.Proofs.YtfndfkekihacdaaDoor.PureSp

namespace PathBackP
theorem toL (s : ByteArray) : s.toList = s.data.toList := toList_data s
theorem awake : ∀ k : Nat, sumpterlaw07_awake.f (k + 9) = some true
  | 0 => by decide +kernel
  | k + 1 => sumpterlaw07_awake.mono (k + 9) _ (awake k)
theorem split (s : ByteArray) (hs : s.size < 4294967281) : ∃ l : List ByteArray, QPathBack.path_Split.f s = some l ∧ l.map (·.data.toList) = S s.data.toList := by
  unfold QPathBack.path_Split.f S
  rw [toL]
  by_cases h : s.data.toList = []
  · rw [if_pos h, if_pos h]
    exact ⟨[], rfl, rfl⟩
  · rw [if_neg h, if_neg h]
    unfold QPathBack.strings_Split.f
    rw [if_pos hs, if_pos (by decide), Option.bind_some]
    refine ⟨_, rfl, ?_⟩
    rw [splitB_data]
    exact splitK_sp _ _ (count_one 47 _).symm
theorem cmpf (a b : ByteArray) : QPathBack.cmp_Compare_string.f a b = if lt a.data.toList b.data.toList = true then some (-1) else (if a.data.toList = b.data.toList then some 0 else some 1) := by
  unfold QPathBack.cmp_Compare_string.f
  rw [toL, toL]
  rfl
theorem compare_at (l m : List ByteArray) (hl : l.length < 4611686018427387904) : ∀ (n i k : Nat), n + i = l.length → n + 1 ≤ k →
    QPathBack.slices_Compare_string_string.l0 k l m l (l.length : Int) (i : Int) = some (cmpP ((l.drop i).map (·.data.toList)) ((m.drop i).map (·.data.toList)))
  | 0, i, k, h, hk => by
    obtain ⟨k, rfl⟩ : ∃ j, k = j + 1 := ⟨k - 1, by omega⟩
    simp only [QPathBack.slices_Compare_string_string.l0]
    rw [if_neg (by omega), List.drop_of_length_le (by omega)]
    by_cases hm : (l.length : Int) < (m.length : Int)
    · rw [if_pos hm, List.drop_eq_getElem_cons (l := m) (i := i) (by omega)]
      rfl
    · rw [if_neg hm, List.drop_of_length_le (l := m) (by omega)]
      rfl
  | n + 1, i, k, h, hk => by
    obtain ⟨k, rfl⟩ : ∃ j, k = j + 1 := ⟨k - 1, by omega⟩
    have hi : i < l.length := by omega
    simp only [QPathBack.slices_Compare_string_string.l0]
    rw [if_pos (by omega), if_pos (by omega), if_pos (by omega), List.drop_eq_getElem_cons hi]
    by_cases hm : (i : Int) ≥ (m.length : Int)
    · rw [if_pos hm, List.drop_of_length_le (l := m) (by omega)]
      rfl
    · have hm' : i < m.length := by omega
      rw [if_neg hm, if_pos (by omega), List.drop_eq_getElem_cons hm']
      have e1 : rdOf ByteArray.empty l (i : Int) = l[i] := by simp [rdOf, List.getD, hi]
      have e2 : rdOf ByteArray.empty m (i : Int) = m[i] := by simp [rdOf, List.getD, hm']
      rw [e1, e2]
      rw [cmpf, List.map_cons, List.map_cons, cmpP]
      by_cases c1 : lt l[i].data.toList m[i].data.toList = true
      · rw [if_pos c1, if_pos c1, Option.bind_some, if_neg (by decide)]
      · rw [if_neg c1, if_neg c1]
        by_cases c2 : l[i].data.toList = m[i].data.toList
        · rw [if_pos c2, if_pos c2, Option.bind_some, if_pos rfl, PureSp.w64 (x := (i : Int) + 1) (by omega)]
          exact compare_at l m hl n (i + 1) k (by omega) (by omega)
        · rw [if_neg c2, if_neg c2, Option.bind_some, if_neg (by decide)]
theorem S_length (s : List UInt8) : (S s).length ≤ s.length + 1 := by
  have h : ∀ s : List UInt8, (sp s).length ≤ s.length + 1 := by
    intro s
    induction s with
    | nil => simp [sp]
    | cons c l ih =>
      by_cases hc : c = 47
      · rw [sp, if_pos hc]; simp only [List.length_cons]; omega
      · obtain ⟨x, t, e1, e2⟩ := sp_cons c l hc
        rw [e1] at ih
        rw [e2]; simp only [List.length_cons] at ih ⊢; omega
  unfold S
  split
  · simp
  · exact h s
theorem lessf (k : Nat) (a b : ByteArray) (ha : a.size ≤ 1001) (hb : b.size ≤ 1001) (hk : a.size + 3 ≤ k) : QPathBack.path_Less.f k a b = some (less (S a.data.toList) (S b.data.toList)) := by
  obtain ⟨l, e1, e2⟩ := split a (by omega)
  obtain ⟨m, e3, e4⟩ := split b (by omega)
  have hl : l.length ≤ a.size + 1 := by
    have := S_length a.data.toList
    rw [← e2, List.length_map] at this
    simpa using this
  unfold QPathBack.path_Less.f QPathBack.slices_Compare_string_string.f
  have := compare_at l m (by omega) l.length 0 k (by omega) (by omega)
  rw [e1, Option.bind_some, e3, Option.bind_some]
  change (QPathBack.slices_Compare_string_string.l0 k l m l (l.length : Int) ((0 : Nat) : Int)).bind _ = _
  rw [this, Option.bind_some, List.drop_zero, List.drop_zero, e2, e4]
  rfl
theorem prefixf (a b : ByteArray) (hb : b.size ≤ 2000) : QPathBack.strings_HasPrefix.f a b = some (b.data.toList.isPrefixOf a.data.toList) := by
  unfold QPathBack.strings_HasPrefix.f QPathBack.stringslite_HasPrefix.f
  have hs : b.data.toList.length = b.size := by simp
  have hs' : a.data.toList.length = a.size := by simp
  by_cases h : (a.size : Int) ≥ (b.size : Int)
  · rw [if_pos h, if_pos (by omega), if_pos (by omega), Option.bind_some]
    congr 1
    rw [toL, toL, show ((b.size : Int)).toNat = b.size from rfl, extract_from_zero]
    rw [Bool.eq_iff_iff, beq_iff_eq, List.isPrefixOf_iff_prefix]
    constructor
    · intro he
      rw [← he]
      exact List.take_prefix _ _
    · rintro ⟨t, ht⟩
      rw [← ht, ← hs]
      simp
  · rw [if_neg h, Option.bind_some]
    congr 1
    symm
    rw [Bool.eq_false_iff]
    intro he
    have := (List.isPrefixOf_iff_prefix.mp he).length_le
    omega
theorem underf (p d : ByteArray) (hd : d.size ≤ 1001) : QPathBack.path_Under.f p d = some (if d.data.toList = [] then (p.data.toList != []) else (d.data.toList ++ [47]).isPrefixOf p.data.toList) := by
  unfold QPathBack.path_Under.f
  rw [toL, toL]
  have h1 : (d ++ (⟨#[47]⟩ : ByteArray)).size = d.size + 1 := by
    have : (⟨#[47]⟩ : ByteArray).size = 1 := rfl
    rw [ByteArray.size_append, this]
  by_cases h : d.data.toList = []
  · rw [if_pos h, if_pos h]
  · rw [if_neg h, if_neg h, if_pos (by omega), prefixf _ _ (by omega), Option.bind_some]
    have : (d ++ (⟨#[47]⟩ : ByteArray)).data.toList = d.data.toList ++ [47] := by simp
    rw [this]
theorem pre_iff (p d : List UInt8) : ((d ++ [47]).isPrefixOf p = true) ↔ ∃ t, p = d ++ 47 :: t := by
  rw [List.isPrefixOf_iff_prefix]
  constructor
  · rintro ⟨t, ht⟩
    exact ⟨t, by rw [← ht]; simp⟩
  · rintro ⟨t, ht⟩
    exact ⟨t, by rw [ht]; simp⟩
theorem checkf (s : ByteArray) (r : Int) (h : QPathBack.path_Check.f s = some r) (hr : r = 0) : s.size ≤ 128 ∧ s.data.toList ≠ [] := by
  unfold QPathBack.path_Check.f at h
  by_cases h0 : (s.size : Int) > 128
  · rw [if_pos h0] at h
    have := Option.some.inj h
    omega
  · refine ⟨by omega, fun he => ?_⟩
    rw [if_neg h0] at h
    unfold QPathBack.path_Split.f at h
    rw [toL, if_pos he, Option.bind_some] at h
    have h' : some (6 : Int) = some r := h
    have := Option.some.inj h'
    omega
theorem check_some (s : ByteArray) : ∃ r, QPathBack.path_Check.f s = some r := by
  unfold QPathBack.path_Check.f
  by_cases h0 : (s.size : Int) > 128
  · exact ⟨5, by rw [if_pos h0]⟩
  · obtain ⟨l, e, _⟩ := split s (by omega)
    rw [if_neg h0, e, Option.bind_some]
    split
    · exact ⟨_, rfl⟩
    · split
      · exact ⟨_, rfl⟩
      · split <;> exact ⟨_, rfl⟩
theorem lastI (s : List UInt8) : Lib.lastIndex s [47] = lastOcc s [47] s.length := by
  unfold Lib.lastIndex
  cases s with
  | nil => rfl
  | cons c l => rw [if_pos (by simp)]; simp
theorem lastB (s : List UInt8) (n : Nat) : -1 ≤ lastOcc s [47] n ∧ lastOcc s [47] n < n := by
  induction n with
  | zero => simp [lastOcc]
  | succ n ih => unfold lastOcc; split <;> omega
theorem cutf (a : ByteArray) (ha : a.size ≤ 2000) : QPathBack.path_cut.f a = some (a.extract 0 (lastOcc a.data.toList [47] a.size).toNat, a.extract (lastOcc a.data.toList [47] a.size + 1).toNat a.size) := by
  have hb := lastB a.data.toList a.size
  have hl : a.data.toList.length = a.size := by simp
  unfold QPathBack.path_cut.f QPathBack.strings_LastIndex.f
  rw [if_pos (by omega), Option.bind_some]
  change (if 0 ≤ mx (Lib.lastIndex a.data.toList [47]) 0 then _ else _) = _
  rw [lastI, hl]
  generalize lastOcc a.data.toList [47] a.size = L at hb
  have hm : mx L 0 = (L.toNat : Int) := by unfold mx; split <;> omega
  rw [hm, if_pos (by omega), if_pos (by omega), PureSp.w64 (x := L + 1) (by omega), if_pos (by omega), if_pos (by omega)]
  rfl
theorem occ_at (s : List UInt8) (i : Nat) : occAt s [47] i = (s[i]? == some 47) := by
  unfold occAt
  rw [Bool.eq_iff_iff, List.isPrefixOf_iff_prefix, beq_iff_eq, ← List.head?_drop]
  cases s.drop i with
  | nil => simp
  | cons c l => simp [eq_comm]
theorem last_congr (s t : List UInt8) : ∀ n : Nat, (∀ j, j < n → s[j]? = t[j]?) → lastOcc s [47] n = lastOcc t [47] n
  | 0, _ => rfl
  | n + 1, h => by
    unfold lastOcc
    rw [occ_at, occ_at, h n (by omega), last_congr s t n (fun j hj => h j (by omega))]
theorem jn_len : ∀ xs : List (List UInt8), (∀ x ∈ xs, x.length ≤ 1000) → (jn xs).length ≤ 1001 * xs.length
  | [], _ => by simp [jn]
  | [x], h => by
    have := h x (by simp)
    simp only [jn, List.length_singleton]; omega
  | x :: y :: r, h => by
    have h1 := h x (by simp)
    have h2 := jn_len (y :: r) (fun z hz => h z (by simp [hz]))
    rw [jn_cons x (y :: r) (by simp)]
    simp only [List.length_append, List.length_cons] at h2 ⊢
    omega
theorem joinf (l : List ByteArray) (hl : l.length ≤ 1000) (hx : ∀ x ∈ l, x.size ≤ 1000) : ∃ r, QPathBack.path_Join.f l = some r ∧ r.data.toList = jn (l.map (·.data.toList)) := by
  unfold QPathBack.path_Join.f QPathBack.strings_Join.f
  have e : Lib.join (l.map (·.data.toList)) (⟨#[47]⟩ : ByteArray).data.toList = jn (l.map (·.data.toList)) := join_jn _
  have hb := jn_len (l.map (·.data.toList)) (fun x hx' => by
    obtain ⟨y, hy, rfl⟩ := List.mem_map.mp hx'
    have := hx y hy
    simpa using this)
  rw [List.length_map] at hb
  rw [e, if_pos (by omega), if_pos (by omega)]
  exact ⟨_, rfl, rfl⟩
theorem last_sp (s : List UInt8) : (lastOcc s [47] s.length = -1 ∧ sp s = [s]) ∨ (∃ i : Nat, i < s.length ∧ lastOcc s [47] s.length = i ∧ sp s = sp (s.take i) ++ [s.drop (i + 1)] ∧ s = s.take i ++ 47 :: s.drop (i + 1)) := by
  rcases lastOcc_spec s [47] s.length with ⟨e, hn⟩ | ⟨i, hi, e, hc, hn⟩
  · refine .inl ⟨e, sp_none s ?_⟩
    rw [List.count_eq_zero]
    intro hm
    obtain ⟨j, hj, he⟩ := List.getElem_of_mem hm
    have := hn j hj
    rw [occ_at, List.getElem?_eq_getElem hj, he] at this
    simp at this
  · have h47 : s[i] = 47 := by
      rw [occ_at, List.getElem?_eq_getElem hi] at hc
      simpa using hc
    have hs : s = s.take i ++ 47 :: s.drop (i + 1) := by
      conv => lhs; rw [← List.take_append_drop i s, List.drop_eq_getElem_cons hi, h47]
    refine .inr ⟨i, hi, e, ?_, hs⟩
    conv => lhs; rw [hs]
    rw [sp_slash, sp_none (s.drop (i + 1))]
    rw [List.count_eq_zero]
    intro hm
    obtain ⟨j, hj, he⟩ := List.getElem_of_mem hm
    rw [List.getElem_drop] at he
    have hj' : i + 1 + j < s.length := by rw [List.length_drop] at hj; omega
    have := hn (i + 1 + j) (by omega) hj'
    rw [occ_at, List.getElem?_eq_getElem hj', he] at this
    simp at this
end PathBackP
open PathBackP
theorem check_all (s : ByteArray) (l : List ByteArray) (hl : QPathBack.path_Split.f s = some l) (h : QPathBack.path_Check.f s = some 0) : l.length ≤ 8 ∧ ∀ x ∈ l, badName x = false := by
  unfold QPathBack.path_Check.f at h
  by_cases h0 : (s.size : Int) > 128
  · rw [if_pos h0] at h
    have := Option.some.inj h
    omega
  rw [if_neg h0, hl, Option.bind_some] at h
  by_cases h1 : (l.length : Int) = 0
  · rw [if_pos h1] at h
    have := Option.some.inj h
    omega
  rw [if_neg h1] at h
  by_cases h2 : l.any badName = true
  · rw [if_pos h2] at h
    have := Option.some.inj h
    omega
  rw [if_neg h2] at h
  by_cases h3 : (l.length : Int) > 8
  · rw [if_pos h3] at h
    have := Option.some.inj h
    omega
  refine ⟨by omega, fun x hx => ?_⟩
  have := h2
  rw [List.any_eq_true] at this
  rw [Bool.eq_false_iff]
  exact fun e => this ⟨x, hx, e⟩
theorem name_true (x : ByteArray) (h : badName x = false) : ∀ k : Nat, QPathBack.path_Name.f (k + 39) x = some true
  | 0 => by
    obtain ⟨b, hb⟩ := name_total x
    unfold badName at h
    rw [hb] at h
    have : b = true := by simpa using h
    rw [this] at hb
    exact hb
  | k + 1 => QPathBack.path_Name.mono x (k + 39) _ (name_true x h k)
theorem back_l0 (p : ByteArray) (l : List ByteArray) (hb : ∀ x ∈ l, badName x = false) (hl : l.length ≤ 8)
    (hu : ∃ d, QPathBack.path_Parent.f p = some d ∧ QPathBack.path_Under.f p d = some true) : ∀ (n i k : Nat), n + i = l.length → n + 200 ≤ k → sumpterlaw07_PathBack.l0 k p l (i : Int) = some true
  | 0, i, k, h, hk => by
    obtain ⟨k, rfl⟩ : ∃ j, k = j + 1 + 9 := ⟨k - 10, by omega⟩
    have aw : sumpterlaw07_awake.f (k + 9) = some true := awake k
    obtain ⟨d, d1, d2⟩ := hu
    rw [show k + 1 + 9 = k + 9 + 1 from rfl]
    simp only [sumpterlaw07_PathBack.l0]
    rw [if_neg (by omega), d1, Option.bind_some, d2, Option.bind_some, if_pos rfl, aw]
    rfl
  | n + 1, i, k, h, hk => by
    obtain ⟨k, rfl⟩ : ∃ j, k = j + 39 + 1 := ⟨k - 40, by omega⟩
    have hi : i < l.length := by omega
    have e1 : rdOf ByteArray.empty l (i : Int) = l[i] := by simp [rdOf, List.getD, hi]
    simp only [sumpterlaw07_PathBack.l0]
    rw [if_pos (by omega), if_pos (by omega), e1, name_true _ (hb _ (List.getElem_mem hi)) k, Option.bind_some, if_pos rfl, PureSp.w64 (x := (i : Int) + 1) (by omega)]
    exact back_l0 p l hb hl hu n (i + 1) (k + 39) (by omega) (by omega)
theorem PathBack : sumpterlaw07_PathBack.Pure2 := by
  intro p _
  refine ⟨1000 + 1 + 9, ?_⟩
  have aw : sumpterlaw07_awake.f (1000 + 1 + 9) = some true := awake (1000 + 1)
  unfold sumpterlaw07_PathBack.f
  obtain ⟨r, e⟩ := check_some p
  rw [e, Option.bind_some]
  by_cases h1 : r ≠ 0
  · rw [if_neg h1, aw]; rfl
  replace h1 : r = 0 := by omega
  subst h1
  obtain ⟨s1, n1⟩ := checkf p 0 e rfl
  obtain ⟨l, l1, l2⟩ := split p (by omega)
  obtain ⟨c1, c2⟩ := check_all p l l1 e
  have hS : S p.data.toList = sp p.data.toList := by unfold S; rw [if_neg n1]
  rw [hS] at l2
  have hpl : p.data.toList.length = p.size := by simp
  have hsz : ∀ x ∈ l, x.size ≤ 1000 := by
    intro x hx
    have hm : x.data.toList ∈ sp p.data.toList := by rw [← l2]; exact List.mem_map_of_mem hx
    have hbd : ∀ (s : List UInt8), ∀ y ∈ sp s, y.length ≤ s.length := by
      intro s
      induction s with
      | nil => intro y hy; simp [sp] at hy; subst hy; simp
      | cons c t ih =>
        intro y hy
        by_cases hc : c = 47
        · rw [sp, if_pos hc] at hy
          rcases List.mem_cons.mp hy with rfl | hy
          · simp
          · have := ih y hy; simp only [List.length_cons]; omega
        · obtain ⟨x', t', e1, e2⟩ := sp_cons c t hc
          rw [e2] at hy
          rw [e1] at ih
          rcases List.mem_cons.mp hy with rfl | hy
          · have := ih x' (by simp); simp only [List.length_cons]; omega
          · have := ih y (by simp [hy]); simp only [List.length_cons]; omega
    have := hbd _ _ hm
    have h2 : x.data.toList.length = x.size := by simp
    omega
  have hlen : l.length = (sp p.data.toList).length := by rw [← l2, List.length_map]
  have hpos : 0 < l.length := by
    rw [hlen]; exact List.length_pos_iff.mpr (sp_ne _)
  rw [if_pos rfl, l1, Option.bind_some]
  obtain ⟨j, j1, j2⟩ := joinf l (by omega) hsz
  obtain ⟨j', j3, j4⟩ := joinf (l.take (l.length - 1)) (by simp; omega) (fun x hx => hsz x (List.mem_of_mem_take hx))
  rw [j1, Option.bind_some, toL, toL, if_pos (by rw [j2, l2, jn_sp]), if_neg (by omega), PureSp.w64 (x := (l.length : Int) - 1) (by omega), if_pos (by omega), if_pos (by omega)]
  have hL : ((l.length : Int) - 1).toNat = l.length - 1 := by omega
  have hlast : rdOf ByteArray.empty l ((l.length : Int) - 1) = l[l.length - 1] := by
    unfold rdOf
    rw [hL]
    simp only [List.getD]
    rw [List.getElem?_eq_getElem (by omega)]
    rfl
  have hld : l[l.length - 1].data.toList = (sp p.data.toList)[(sp p.data.toList).length - 1]'(by omega) := by
    have : (l.map (·.data.toList))[l.length - 1]'(by rw [List.length_map]; omega) = l[l.length - 1].data.toList := by simp
    rw [← this]
    simp only [l2, hlen]
  have htk : (l.take (l.length - 1)).map (·.data.toList) = (sp p.data.toList).take ((sp p.data.toList).length - 1) := by
    rw [List.map_take, l2, hlen]
  rw [hlast, hL]
  obtain ⟨b, b1, b2⟩ : ∃ b, QPathBack.path_Base.f p = some b ∧ b.data.toList = (p.data.toList.drop (lastOcc p.data.toList [47] p.size + 1).toNat) := by
    unfold QPathBack.path_Base.f
    rw [cutf p (by omega)]
    refine ⟨_, rfl, ?_⟩
    rw [extract_data, List.take_of_length_le (by rw [List.length_drop]; omega)]
  obtain ⟨d, d1, d2⟩ : ∃ d, QPathBack.path_Parent.f p = some d ∧ d.data.toList = (p.data.toList.take (lastOcc p.data.toList [47] p.size).toNat) := by
    unfold QPathBack.path_Parent.f
    rw [cutf p (by omega)]
    refine ⟨_, rfl, ?_⟩
    rw [extract_from_zero]
  have hds : d.size ≤ 1001 := by
    have h3 : d.data.toList.length = d.size := by simp
    rw [d2, List.length_take] at h3
    omega
  have key : l[l.length - 1].data.toList = b.data.toList ∧ jn ((sp p.data.toList).take ((sp p.data.toList).length - 1)) = d.data.toList ∧ QPathBack.path_Under.f p d = some true := by
    rw [hld, b2, underf p d hds]
    rcases last_sp p.data.toList with ⟨q1, q2⟩ | ⟨i, hi, q1, q2, q3⟩
    · rw [hpl] at q1
      have hd0 : d.data.toList = [] := by rw [d2, q1]; rfl
      refine ⟨?_, ?_, ?_⟩
      · simp only [q2, q1]; rfl
      · rw [q2, hd0]; rfl
      · rw [if_pos hd0]
        congr 1
        simpa using n1
    · rw [hpl] at q1
      have hdi : d.data.toList = p.data.toList.take i := by rw [d2, q1]; rfl
      refine ⟨?_, ?_, ?_⟩
      · simp only [q2, q1]
        simp only [List.length_append, List.length_singleton, Nat.add_sub_cancel, List.getElem_append_right (Nat.le_refl _), Nat.sub_self]
        rfl
      · rw [q2, hdi]
        simp only [List.length_append, List.length_singleton, Nat.add_sub_cancel, List.take_left]
        exact jn_sp _
      · by_cases hd0 : d.data.toList = []
        · rw [if_pos hd0]
          congr 1
          simpa using n1
        · rw [if_neg hd0]
          congr 1
          rw [pre_iff, hdi]
          exact ⟨_, q3⟩
  obtain ⟨k1, k2, k3⟩ := key
  rw [b1, Option.bind_some, toL, toL, if_pos k1, if_pos (by omega), j3, Option.bind_some, d1, Option.bind_some, toL, toL]
  have hne : (j'.data.toList != d.data.toList) = false := by rw [j4, htk, k2]; simp
  rw [hne, show (1000 + 1 + 9 : Nat) = 1000 + 9 + 1 from rfl]
  simp only [sumpterlaw07_PathBack.j0]
  rw [if_neg (by decide)]
  exact back_l0 p l c2 c1 ⟨d, d1, k3⟩ l.length 0 (1000 + 9) (by omega) (by omega)
end Go.Proofs.YtfndfkekihacdaaDoor.Pure
