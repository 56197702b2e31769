import Derived.Test.YtfndfkekihacdaaDoorRPathKept
import Derived.Test.YtfndfkekihacdaaDoorPureSp
import Derived.OpenShut
namespace Go.Proofs.YtfndfkekihacdaaDoor.Pure
open Go Go.Lib Go.RowKit Go.WideShapes Go.Proofs.YtfndfkekihacdaaDoor.QPathKept Go.Proofs.YtfndfkekihacdaaDoorW.PrintWords Go.Proofs.YtfndfkekihacdaaDoorW.PrintLast Go.Proofs.YtfndfkekihacdaaDoor.PureSp

namespace PathKeptP
theorem toL (s : ByteArray) : s.toList = s.data.toList := toList_data s
theorem awake : ∀ k : Nat, sumpterlaw07_awake.f (k + 9) = some true
  | 0 => by decide +kernel
  | k + 1 => sumpterlaw07_awake.mono (k + 9) _ (awake k)
theorem split (s : ByteArray) (hs : s.size < 4294967281) : ∃ l : List ByteArray, QPathKept.path_Split.f s = some l ∧ l.map (·.data.toList) = S s.data.toList := by
  unfold QPathKept.path_Split.f S
  rw [toL]
  by_cases h : s.data.toList = []
  · rw [if_pos h, if_pos h]
    exact ⟨[], rfl, rfl⟩
  · rw [if_neg h, if_neg h]
    unfold QPathKept.strings_Split.f
    rw [if_pos hs, if_pos (by decide), Option.bind_some]
    refine ⟨_, rfl, ?_⟩
    rw [splitB_data]
    exact splitK_sp _ _ (count_one 47 _).symm
theorem prefixf (a b : ByteArray) (hb : b.size ≤ 2000) : QPathKept.strings_HasPrefix.f a b = some (b.data.toList.isPrefixOf a.data.toList) := by
  unfold QPathKept.strings_HasPrefix.f QPathKept.stringslite_HasPrefix.f
  have hs : b.data.toList.length = b.size := by simp
  have hs' : a.data.toList.length = a.size := by simp
  by_cases h : (a.size : Int) ≥ (b.size : Int)
  · rw [if_pos h, if_pos (by omega), if_pos (by omega), Option.bind_some]
    congr 1
    rw [toL, toL, show ((b.size : Int)).toNat = b.size from rfl, extract_from_zero]
    rw [Bool.eq_iff_iff, beq_iff_eq, List.isPrefixOf_iff_prefix]
    constructor
    · intro he
      rw [← he]
      exact List.take_prefix _ _
    · rintro ⟨t, ht⟩
      rw [← ht, ← hs]
      simp
  · rw [if_neg h, Option.bind_some]
    congr 1
    symm
    rw [Bool.eq_false_iff]
    intro he
    have := (List.isPrefixOf_iff_prefix.mp he).length_le
    omega
theorem underf (p d : ByteArray) (hd : d.size ≤ 1001) : QPathKept.path_Under.f p d = some (if d.data.toList = [] then (p.data.toList != []) else (d.data.toList ++ [47]).isPrefixOf p.data.toList) := by
  unfold QPathKept.path_Under.f
  rw [toL, toL]
  have h1 : (d ++ (⟨#[47]⟩ : ByteArray)).size = d.size + 1 := by
    have : (⟨#[47]⟩ : ByteArray).size = 1 := rfl
    rw [ByteArray.size_append, this]
  by_cases h : d.data.toList = []
  · rw [if_pos h, if_pos h]
  · rw [if_neg h, if_neg h, if_pos (by omega), prefixf _ _ (by omega), Option.bind_some]
    have : (d ++ (⟨#[47]⟩ : ByteArray)).data.toList = d.data.toList ++ [47] := by simp
    rw [this]
theorem pre_iff (p d : List UInt8) : ((d ++ [47]).isPrefixOf p = true) ↔ ∃ t, p = d ++ 47 :: t := by
  rw [List.isPrefixOf_iff_prefix]
  constructor
  · rintro ⟨t, ht⟩
    exact ⟨t, by rw [← ht]; simp⟩
  · rintro ⟨t, ht⟩
    exact ⟨t, by rw [ht]; simp⟩
theorem checkf (s : ByteArray) (r : Int) (h : QPathKept.path_Check.f s = some r) (hr : r = 0) : s.size ≤ 128 ∧ s.data.toList ≠ [] := by
  unfold QPathKept.path_Check.f at h
  by_cases h0 : (s.size : Int) > 128
  · rw [if_pos h0] at h
    have := Option.some.inj h
    omega
  · refine ⟨by omega, fun he => ?_⟩
    rw [if_neg h0] at h
    unfold QPathKept.path_Split.f at h
    rw [toL, if_pos he, Option.bind_some] at h
    have h' : some (6 : Int) = some r := h
    have := Option.some.inj h'
    omega
theorem check_some (s : ByteArray) : ∃ r, QPathKept.path_Check.f s = some r := by
  unfold QPathKept.path_Check.f
  by_cases h0 : (s.size : Int) > 128
  · exact ⟨5, by rw [if_pos h0]⟩
  · obtain ⟨l, e, _⟩ := split s (by omega)
    rw [if_neg h0, e, Option.bind_some]
    split
    · exact ⟨_, rfl⟩
    · split
      · exact ⟨_, rfl⟩
      · split <;> exact ⟨_, rfl⟩
theorem lastI (s : List UInt8) : Lib.lastIndex s [47] = lastOcc s [47] s.length := by
  unfold Lib.lastIndex
  cases s with
  | nil => rfl
  | cons c l => rw [if_pos (by simp)]; simp
theorem lastB (s : List UInt8) (n : Nat) : -1 ≤ lastOcc s [47] n ∧ lastOcc s [47] n < n := by
  induction n with
  | zero => simp [lastOcc]
  | succ n ih => unfold lastOcc; split <;> omega
theorem cutf (a : ByteArray) (ha : a.size ≤ 2000) : QPathKept.path_cut.f a = some (a.extract 0 (lastOcc a.data.toList [47] a.size).toNat, a.extract (lastOcc a.data.toList [47] a.size + 1).toNat a.size) := by
  have hb := lastB a.data.toList a.size
  have hl : a.data.toList.length = a.size := by simp
  unfold QPathKept.path_cut.f QPathKept.strings_LastIndex.f
  rw [if_pos (by omega), Option.bind_some]
  change (if 0 ≤ mx (Lib.lastIndex a.data.toList [47]) 0 then _ else _) = _
  rw [lastI, hl]
  generalize lastOcc a.data.toList [47] a.size = L at hb
  have hm : mx L 0 = (L.toNat : Int) := by unfold mx; split <;> omega
  rw [hm, if_pos (by omega), if_pos (by omega), PureSp.w64 (x := L + 1) (by omega), if_pos (by omega), if_pos (by omega)]
  rfl
theorem occ_at (s : List UInt8) (i : Nat) : occAt s [47] i = (s[i]? == some 47) := by
  unfold occAt
  rw [Bool.eq_iff_iff, List.isPrefixOf_iff_prefix, beq_iff_eq, ← List.head?_drop]
  cases s.drop i with
  | nil => simp
  | cons c l => simp [eq_comm]
theorem last_congr (s t : List UInt8) : ∀ n : Nat, (∀ j, j < n → s[j]? = t[j]?) → lastOcc s [47] n = lastOcc t [47] n
  | 0, _ => rfl
  | n + 1, h => by
    unfold lastOcc
    rw [occ_at, occ_at, h n (by omega), last_congr s t n (fun j hj => h j (by omega))]
end PathKeptP
open PathKeptP
theorem tilde (p : ByteArray) : (p ++ (⟨#[126]⟩ : ByteArray)).data.toList = p.data.toList ++ [126] := by simp
theorem tilde_size (p : ByteArray) : (p ++ (⟨#[126]⟩ : ByteArray)).size = p.size + 1 := by
  have : (⟨#[126]⟩ : ByteArray).size = 1 := rfl
  rw [ByteArray.size_append, this]
theorem suffixf (a : ByteArray) (ha : a.size ≤ 2000) : QPathKept.strings_HasSuffix.f a (⟨#[126]⟩ : ByteArray) = some (a.data.toList.drop (a.size - 1) == [126]) := by
  unfold QPathKept.strings_HasSuffix.f QPathKept.stringslite_HasSuffix.f
  have h1 : ((⟨#[126]⟩ : ByteArray).size : Int) = 1 := rfl
  have hl : a.data.toList.length = a.size := by simp
  rw [h1]
  by_cases h : (a.size : Int) ≥ 1
  · rw [if_pos h, PureSp.w64 (x := (a.size : Int) - 1) (by omega), if_pos (by omega), if_pos (by omega), Option.bind_some]
    congr 1
    rw [toL, toL, show ((a.size : Int) - 1).toNat = a.size - 1 by omega, extract_data, List.take_of_length_le (by rw [List.length_drop]; omega)]
  · rw [if_neg h, Option.bind_some]
    congr 1
    have : a.data.toList = [] := List.eq_nil_of_length_eq_zero (by omega)
    rw [this]
    simp
theorem keptf (p : ByteArray) (hp : p.size ≤ 1000) : ∃ r, QPathKept.path_Kept.f p = some r ∧ (r.data.toList = [] ∨ (r = p ++ (⟨#[126]⟩ : ByteArray) ∧ QPathKept.path_Check.f (p ++ (⟨#[126]⟩ : ByteArray)) = some 0)) := by
  unfold QPathKept.path_Kept.f
  rw [suffixf p (by omega), Option.bind_some]
  by_cases h : (p.data.toList.drop (p.size - 1) == [126]) = true
  · rw [if_pos h]
    exact ⟨_, rfl, .inl rfl⟩
  · rw [if_neg h, if_pos (by omega)]
    obtain ⟨r, e⟩ := check_some (p ++ (⟨#[126]⟩ : ByteArray))
    rw [e, Option.bind_some]
    by_cases h0 : r = 0
    · rw [if_pos h0]
      split
      · exact ⟨_, rfl, .inl rfl⟩
      · exact ⟨_, rfl, .inr ⟨rfl, by rw [h0]⟩⟩
    · rw [if_neg h0]
      exact ⟨_, rfl, .inl rfl⟩
theorem kept_kept (p : ByteArray) (hp : p.size ≤ 1000) : QPathKept.path_Kept.f (p ++ (⟨#[126]⟩ : ByteArray)) = some (⟨#[]⟩ : ByteArray) := by
  unfold QPathKept.path_Kept.f
  have hl : p.data.toList.length = p.size := by simp
  rw [suffixf _ (by rw [tilde_size]; omega), Option.bind_some, tilde, tilde_size, if_pos]
  rw [Nat.add_sub_cancel, ← hl, List.drop_left]
  rfl
theorem parent_kept (p : ByteArray) (hp : p.size ≤ 1000) : ∃ x y, QPathKept.path_Parent.f (p ++ (⟨#[126]⟩ : ByteArray)) = some x ∧ QPathKept.path_Parent.f p = some y ∧ x.toList = y.toList := by
  unfold QPathKept.path_Parent.f
  have hl : p.data.toList.length = p.size := by simp
  rw [cutf _ (by rw [tilde_size]; omega), cutf p (by omega)]
  refine ⟨_, _, rfl, rfl, ?_⟩
  rw [toL, toL, extract_from_zero, extract_from_zero, tilde, tilde_size]
  have e : lastOcc (p.data.toList ++ [126]) [47] (p.size + 1) = lastOcc p.data.toList [47] p.size := by
    rw [lastOcc, occ_at, List.getElem?_append_right (by omega), hl, Nat.sub_self, if_neg (by decide)]
    exact last_congr _ _ _ (fun j hj => List.getElem?_append_left (by omega))
  rw [e]
  have hb := lastB p.data.toList p.size
  rw [List.take_append_of_le_length (by omega)]
theorem pre_tilde : ∀ (pre l : List UInt8), (126 : UInt8) ∉ pre → pre.isPrefixOf (l ++ [126]) = pre.isPrefixOf l
  | [], l, _ => by simp
  | c :: pre, [], h => by
    have hc : (c == 126) = false := by
      rw [beq_eq_false_iff_ne]
      exact fun e => h (by simp [e])
    change (c == 126 && pre.isPrefixOf []) = false
    rw [hc]
    rfl
  | c :: pre, d :: l, h => by
    rw [List.cons_append]
    simp only [List.isPrefixOf]
    rw [pre_tilde pre l (fun hh => h (by simp [hh]))]
theorem reserved_kept (p : ByteArray) : ∃ x, QPathKept.path_Reserved.f (p ++ (⟨#[126]⟩ : ByteArray)) = some x ∧ QPathKept.path_Reserved.f p = some x := by
  unfold QPathKept.path_Reserved.f
  rw [prefixf _ _ (by decide), prefixf _ _ (by decide)]
  refine ⟨_, rfl, ?_⟩
  rw [tilde, pre_tilde _ _ (by decide)]
  rfl
theorem PathKept : sumpterlaw07_PathKept.Pure2 := by
  intro p q _ _
  refine ⟨140 + 1 + 9, ?_⟩
  have aw : sumpterlaw07_awake.f (140 + 9) = some true := awake 140
  have hj : sumpterlaw07_PathKept.j0 (140 + 1 + 9) p q true = some true := by
    rw [show (140 + 1 + 9 : Nat) = 140 + 9 + 1 from rfl]
    simp only [sumpterlaw07_PathKept.j0]
    rw [if_true, aw]; rfl
  unfold sumpterlaw07_PathKept.f
  obtain ⟨r1, e1⟩ := check_some p
  rw [e1, Option.bind_some]
  by_cases h1 : r1 ≠ 0
  · rw [if_neg h1, hj]
  replace h1 : r1 = 0 := by omega
  rw [if_pos h1]
  obtain ⟨r2, e2⟩ := check_some q
  rw [e2, Option.bind_some]
  by_cases h2 : r2 ≠ 0
  · rw [show (r2 != 0) = true by simpa using h2, hj]
  replace h2 : r2 = 0 := by omega
  rw [show (r2 != 0) = false by simp [h2]]
  obtain ⟨s1, n1⟩ := checkf p r1 e1 h1
  obtain ⟨s2, n2⟩ := checkf q r2 e2 h2
  rw [show (140 + 1 + 9 : Nat) = 140 + 9 + 1 from rfl]
  simp only [sumpterlaw07_PathKept.j0]
  obtain ⟨x, k1, hx⟩ := keptf p (by omega)
  obtain ⟨y, k2, hy⟩ := keptf q (by omega)
  rw [if_neg (by decide), k1, Option.bind_some, k2, Option.bind_some, toL x]
  rcases hx with hx | ⟨rfl, hc⟩
  · rw [if_pos hx, aw]; rfl
  have hne : (p ++ (⟨#[126]⟩ : ByteArray)).data.toList ≠ [] := by rw [tilde]; simp
  obtain ⟨u, v, p1, p2, p3⟩ := parent_kept p (by omega)
  obtain ⟨z, z1, z2⟩ := reserved_kept p
  rw [if_neg hne, hc, Option.bind_some, if_pos rfl, p1, Option.bind_some, p2, Option.bind_some, if_pos p3, kept_kept p (by omega), Option.bind_some, toL, if_pos rfl, toL, toL, toL]
  have hq : (((p ++ (⟨#[126]⟩ : ByteArray)).data.toList == y.data.toList) == (p.data.toList == q.data.toList)) = true := by
    by_cases hpq : p.data.toList = q.data.toList
    · have : p = q := data_ext hpq
      subst this
      have : y = p ++ (⟨#[126]⟩ : ByteArray) := Option.some.inj (k2.symm.trans k1)
      rw [this]
      simp
    · have h3 : ¬ ((p ++ (⟨#[126]⟩ : ByteArray)).data.toList = y.data.toList) := by
        intro he
        rcases hy with hy | ⟨rfl, _⟩
        · exact hne (he.trans hy)
        · rw [tilde, tilde] at he
          exact hpq (List.append_cancel_right he)
      rw [beq_eq_false_iff_ne.mpr h3, beq_eq_false_iff_ne.mpr hpq]
      rfl
  rw [if_pos hq, z1, Option.bind_some, z2, Option.bind_some, if_pos (by simp), aw]
  rfl
end Go.Proofs.YtfndfkekihacdaaDoor.Pure
