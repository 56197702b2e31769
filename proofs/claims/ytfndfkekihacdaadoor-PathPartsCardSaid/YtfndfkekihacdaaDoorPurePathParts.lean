import Derived.Test.YtfndfkekihacdaaDoorRPathParts
import Derived.Test.YtfndfkekihacdaaDoorPureSp
import Derived.OpenShut
namespace Go.Proofs.YtfndfkekihacdaaDoor.Pure
open Go Go.Lib Go.RowKit Go.WideShapes Go.Proofs.YtfndfkekihacdaaDoor.QPathParts Go.Proofs.YtfndfkekihacdaaDoorW.PrintWords Go.Proofs.YtfndfkekihacdaaDoorW.PrintLast Go.Proofs.YtfndfkekihacdaaDoor.PureSp

namespace PathPartsP
theorem toL (s : ByteArray) : s.toList = s.data.toList := toList_data s
theorem awake : ∀ k : Nat, sumpterlaw07_awake.f (k + 9) = some true
  | 0 => by decide +kernel
  | k + 1 => sumpterlaw07_awake.mono (k + 9) _ (awake k)
theorem split (s : ByteArray) (hs : s.size < 4294967281) : ∃ l : List ByteArray, QPathParts.path_Split.f s = some l ∧ l.map (·.data.toList) = S s.data.toList := by
  unfold QPathParts.path_Split.f S
  rw [toL]
  by_cases h : s.data.toList = []
  · rw [if_pos h, if_pos h]
    exact ⟨[], rfl, rfl⟩
  · rw [if_neg h, if_neg h]
    unfold QPathParts.strings_Split.f
    rw [if_pos hs, if_pos (by decide), Option.bind_some]
    refine ⟨_, rfl, ?_⟩
    rw [splitB_data]
    exact splitK_sp _ _ (count_one 47 _).symm
theorem cmpf (a b : ByteArray) : QPathParts.cmp_Compare_string.f a b = if lt a.data.toList b.data.toList = true then some (-1) else (if a.data.toList = b.data.toList then some 0 else some 1) := by
  unfold QPathParts.cmp_Compare_string.f
  rw [toL, toL]
  rfl
theorem compare_at (l m : List ByteArray) (hl : l.length < 4611686018427387904) : ∀ (n i k : Nat), n + i = l.length → n + 1 ≤ k →
    QPathParts.slices_Compare_string_string.l0 k l m l (l.length : Int) (i : Int) = some (cmpP ((l.drop i).map (·.data.toList)) ((m.drop i).map (·.data.toList)))
  | 0, i, k, h, hk => by
    obtain ⟨k, rfl⟩ : ∃ j, k = j + 1 := ⟨k - 1, by omega⟩
    simp only [QPathParts.slices_Compare_string_string.l0]
    rw [if_neg (by omega), List.drop_of_length_le (by omega)]
    by_cases hm : (l.length : Int) < (m.length : Int)
    · rw [if_pos hm, List.drop_eq_getElem_cons (l := m) (i := i) (by omega)]
      rfl
    · rw [if_neg hm, List.drop_of_length_le (l := m) (by omega)]
      rfl
  | n + 1, i, k, h, hk => by
    obtain ⟨k, rfl⟩ : ∃ j, k = j + 1 := ⟨k - 1, by omega⟩
    have hi : i < l.length := by omega
    simp only [QPathParts.slices_Compare_string_string.l0]
    rw [if_pos (by omega), if_pos (by omega), if_pos (by omega), List.drop_eq_getElem_cons hi]
    by_cases hm : (i : Int) ≥ (m.length : Int)
    · rw [if_pos hm, List.drop_of_length_le (l := m) (by omega)]
      rfl
    · have hm' : i < m.length := by omega
      rw [if_neg hm, if_pos (by omega), List.drop_eq_getElem_cons hm']
      have e1 : rdOf ByteArray.empty l (i : Int) = l[i] := by simp [rdOf, List.getD, hi]
      have e2 : rdOf ByteArray.empty m (i : Int) = m[i] := by simp [rdOf, List.getD, hm']
      rw [e1, e2]
      rw [cmpf, List.map_cons, List.map_cons, cmpP]
      by_cases c1 : lt l[i].data.toList m[i].data.toList = true
      · rw [if_pos c1, if_pos c1, Option.bind_some, if_neg (by decide)]
      · rw [if_neg c1, if_neg c1]
        by_cases c2 : l[i].data.toList = m[i].data.toList
        · rw [if_pos c2, if_pos c2, Option.bind_some, if_pos rfl, PureSp.w64 (x := (i : Int) + 1) (by omega)]
          exact compare_at l m hl n (i + 1) k (by omega) (by omega)
        · rw [if_neg c2, if_neg c2, Option.bind_some, if_neg (by decide)]
theorem S_length (s : List UInt8) : (S s).length ≤ s.length + 1 := by
  have h : ∀ s : List UInt8, (sp s).length ≤ s.length + 1 := by
    intro s
    induction s with
    | nil => simp [sp]
    | cons c l ih =>
      by_cases hc : c = 47
      · rw [sp, if_pos hc]; simp only [List.length_cons]; omega
      · obtain ⟨x, t, e1, e2⟩ := sp_cons c l hc
        rw [e1] at ih
        rw [e2]; simp only [List.length_cons] at ih ⊢; omega
  unfold S
  split
  · simp
  · exact h s
theorem lessf (k : Nat) (a b : ByteArray) (ha : a.size ≤ 1001) (hb : b.size ≤ 1001) (hk : a.size + 3 ≤ k) : QPathParts.path_Less.f k a b = some (less (S a.data.toList) (S b.data.toList)) := by
  obtain ⟨l, e1, e2⟩ := split a (by omega)
  obtain ⟨m, e3, e4⟩ := split b (by omega)
  have hl : l.length ≤ a.size + 1 := by
    have := S_length a.data.toList
    rw [← e2, List.length_map] at this
    simpa using this
  unfold QPathParts.path_Less.f QPathParts.slices_Compare_string_string.f
  have := compare_at l m (by omega) l.length 0 k (by omega) (by omega)
  rw [e1, Option.bind_some, e3, Option.bind_some]
  change (QPathParts.slices_Compare_string_string.l0 k l m l (l.length : Int) ((0 : Nat) : Int)).bind _ = _
  rw [this, Option.bind_some, List.drop_zero, List.drop_zero, e2, e4]
  rfl
theorem prefixf (a b : ByteArray) (hb : b.size ≤ 2000) : QPathParts.strings_HasPrefix.f a b = some (b.data.toList.isPrefixOf a.data.toList) := by
  unfold QPathParts.strings_HasPrefix.f QPathParts.stringslite_HasPrefix.f
  have hs : b.data.toList.length = b.size := by simp
  have hs' : a.data.toList.length = a.size := by simp
  by_cases h : (a.size : Int) ≥ (b.size : Int)
  · rw [if_pos h, if_pos (by omega), if_pos (by omega), Option.bind_some]
    congr 1
    rw [toL, toL, show ((b.size : Int)).toNat = b.size from rfl, extract_from_zero]
    rw [Bool.eq_iff_iff, beq_iff_eq, List.isPrefixOf_iff_prefix]
    constructor
    · intro he
      rw [← he]
      exact List.take_prefix _ _
    · rintro ⟨t, ht⟩
      rw [← ht, ← hs]
      simp
  · rw [if_neg h, Option.bind_some]
    congr 1
    symm
    rw [Bool.eq_false_iff]
    intro he
    have := (List.isPrefixOf_iff_prefix.mp he).length_le
    omega
theorem underf (p d : ByteArray) (hd : d.size ≤ 1001) : QPathParts.path_Under.f p d = some (if d.data.toList = [] then (p.data.toList != []) else (d.data.toList ++ [47]).isPrefixOf p.data.toList) := by
  unfold QPathParts.path_Under.f
  rw [toL, toL]
  have h1 : (d ++ (⟨#[47]⟩ : ByteArray)).size = d.size + 1 := by
    have : (⟨#[47]⟩ : ByteArray).size = 1 := rfl
    rw [ByteArray.size_append, this]
  by_cases h : d.data.toList = []
  · rw [if_pos h, if_pos h]
  · rw [if_neg h, if_neg h, if_pos (by omega), prefixf _ _ (by omega), Option.bind_some]
    have : (d ++ (⟨#[47]⟩ : ByteArray)).data.toList = d.data.toList ++ [47] := by simp
    rw [this]
theorem pre_iff (p d : List UInt8) : ((d ++ [47]).isPrefixOf p = true) ↔ ∃ t, p = d ++ 47 :: t := by
  rw [List.isPrefixOf_iff_prefix]
  constructor
  · rintro ⟨t, ht⟩
    exact ⟨t, by rw [← ht]; simp⟩
  · rintro ⟨t, ht⟩
    exact ⟨t, by rw [ht]; simp⟩
def glue (p : List UInt8) : List (List UInt8) → List (List UInt8)
  | [] => [p]
  | h :: t => (p ++ h) :: t
theorem bt_at' (s : ByteArray) (i : Nat) (h : i < s.size) : bt s (i : Int) = (s.data.toList[i]'(by simpa using h)).toNat := by
  unfold bt
  rw [dif_pos (by simpa using h)]
  simp
  rfl
theorem bt_47 (s : ByteArray) (i : Nat) (h : i < s.size) : (bt s (i : Int) = 47) ↔ s.data.toList[i]'(by simpa using h) = 47 := by
  rw [bt_at' s i h]
  constructor
  · intro e
    apply UInt8.toNat_inj.mp
    have : (47 : UInt8).toNat = 47 := rfl
    omega
  · intro e
    rw [e]; rfl
theorem refsplit_at (s : ByteArray) (hs : s.size ≤ 1001) : ∀ (n i f k : Nat) (out : List ByteArray), n + i = s.size → f ≤ i → out.length ≤ i → n + 2 ≤ k →
    ∃ l, QPathParts.sumpterref07_Split.l0 k s out (f : Int) (i : Int) = some l ∧ l.map (·.data.toList) = out.map (·.data.toList) ++ glue ((s.data.toList.drop f).take (i - f)) (sp (s.data.toList.drop i))
  | 0, i, f, k, out, h, hf, ho, hk => by
    obtain ⟨k, rfl⟩ : ∃ j, k = j + 2 := ⟨k - 2, by omega⟩
    have hd : s.data.toList.drop i = [] := List.drop_of_length_le (by simp; omega)
    simp only [QPathParts.sumpterref07_Split.l0]
    rw [if_pos (by omega), if_pos (by omega), if_pos (by omega), if_pos (by omega), if_pos (by omega), PureSp.w64 (x := (i : Int) + 1) (by omega), if_neg (by omega)]
    refine ⟨_, rfl, ?_⟩
    rw [hd, List.map_append]
    simp [sp, glue]
  | n + 1, i, f, k, out, h, hf, ho, hk => by
    obtain ⟨k, rfl⟩ : ∃ j, k = j + 1 := ⟨k - 1, by omega⟩
    have hi : i < s.size := by omega
    have hil : i < s.data.toList.length := by simpa using hi
    simp only [QPathParts.sumpterref07_Split.l0]
    rw [if_pos (by omega), if_neg (by omega), if_pos (by omega), if_pos (by omega)]
    have hd : s.data.toList.drop i = s.data.toList[i] :: s.data.toList.drop (i + 1) := List.drop_eq_getElem_cons hil
    by_cases hc : bt s (i : Int) = 47
    · rw [if_pos hc, if_pos (by omega), if_pos (by omega), if_pos (by omega), PureSp.w64 (x := (i : Int) + 1) (by omega)]
      obtain ⟨l, e1, e2⟩ := refsplit_at s hs n (i + 1) (i + 1) k (out ++ [s.extract ((f : Int)).toNat ((i : Int)).toNat]) (by omega) (by omega) (by simp; omega) (by omega)
      refine ⟨l, e1, ?_⟩
      rw [e2, hd, (bt_47 s i hi).mp hc, sp, if_pos rfl]
      cases hq : sp (s.data.toList.drop (i + 1)) with
      | nil => exact absurd hq (sp_ne _)
      | cons x t => simp [glue]
    · rw [if_neg hc, PureSp.w64 (x := (i : Int) + 1) (by omega)]
      obtain ⟨l, e1, e2⟩ := refsplit_at s hs n (i + 1) f k out (by omega) (by omega) (by omega) (by omega)
      refine ⟨l, e1, ?_⟩
      obtain ⟨x, t, e3, e4⟩ := sp_cons s.data.toList[i] (s.data.toList.drop (i + 1)) (fun e => hc ((bt_47 s i hi).mpr e))
      rw [e2, hd, e3, e4]
      congr 1
      simp only [glue]
      congr 1
      have h1 : i - f < (s.data.toList.drop f).length := by rw [List.length_drop]; omega
      have h2 : (s.data.toList.drop f)[i - f] = s.data.toList[i] := by rw [List.getElem_drop]; congr 1; omega
      rw [show i + 1 - f = (i - f) + 1 by omega, List.take_succ_eq_append_getElem h1, h2]
      simp
theorem refsplit (k : Nat) (s : ByteArray) (hs : s.size ≤ 1001) (hk : s.size + 2 ≤ k) : ∃ l : List ByteArray, QPathParts.sumpterref07_Split.f k s = some l ∧ l.map (·.data.toList) = S s.data.toList := by
  unfold QPathParts.sumpterref07_Split.f S
  rw [toL]
  by_cases h : s.data.toList = []
  · rw [if_pos h, if_pos h]
    exact ⟨[], rfl, rfl⟩
  · rw [if_neg h, if_neg h]
    obtain ⟨l, e1, e2⟩ := refsplit_at s hs s.size 0 0 k [] (by omega) (by omega) (by simp) (by omega)
    refine ⟨l, e1, ?_⟩
    rw [e2]
    cases hq : sp s.data.toList with
    | nil => exact absurd hq (sp_ne _)
    | cons x t => simp [glue, hq]
theorem lastI (s : List UInt8) : Lib.lastIndex s [47] = lastOcc s [47] s.length := by
  unfold Lib.lastIndex
  cases s with
  | nil => rfl
  | cons c l => rw [if_pos (by simp)]; simp
theorem lastB (s : List UInt8) (n : Nat) : -1 ≤ lastOcc s [47] n ∧ lastOcc s [47] n < n := by
  induction n with
  | zero => simp [lastOcc]
  | succ n ih => unfold lastOcc; split <;> omega
theorem cutf (a : ByteArray) (ha : a.size ≤ 2000) : QPathParts.path_cut.f a = some (a.extract 0 (lastOcc a.data.toList [47] a.size).toNat, a.extract (lastOcc a.data.toList [47] a.size + 1).toNat a.size) := by
  have hb := lastB a.data.toList a.size
  have hl : a.data.toList.length = a.size := by simp
  unfold QPathParts.path_cut.f QPathParts.strings_LastIndex.f
  rw [if_pos (by omega), Option.bind_some]
  change (if 0 ≤ mx (Lib.lastIndex a.data.toList [47]) 0 then _ else _) = _
  rw [lastI, hl]
  generalize lastOcc a.data.toList [47] a.size = L at hb
  have hm : mx L 0 = (L.toNat : Int) := by unfold mx; split <;> omega
  rw [hm, if_pos (by omega), if_pos (by omega), PureSp.w64 (x := L + 1) (by omega), if_pos (by omega), if_pos (by omega)]
  rfl
theorem occ_at (s : List UInt8) (i : Nat) : occAt s [47] i = (s[i]? == some 47) := by
  unfold occAt
  rw [Bool.eq_iff_iff, List.isPrefixOf_iff_prefix, beq_iff_eq, ← List.head?_drop]
  cases s.drop i with
  | nil => simp
  | cons c l => simp [eq_comm]
theorem last_congr (s t : List UInt8) : ∀ n : Nat, (∀ j, j < n → s[j]? = t[j]?) → lastOcc s [47] n = lastOcc t [47] n
  | 0, _ => rfl
  | n + 1, h => by
    unfold lastOcc
    rw [occ_at, occ_at, h n (by omega), last_congr s t n (fun j hj => h j (by omega))]
theorem jn_len : ∀ xs : List (List UInt8), (∀ x ∈ xs, x.length ≤ 1000) → (jn xs).length ≤ 1001 * xs.length
  | [], _ => by simp [jn]
  | [x], h => by
    have := h x (by simp)
    simp only [jn, List.length_singleton]; omega
  | x :: y :: r, h => by
    have h1 := h x (by simp)
    have h2 := jn_len (y :: r) (fun z hz => h z (by simp [hz]))
    rw [jn_cons x (y :: r) (by simp)]
    simp only [List.length_append, List.length_cons] at h2 ⊢
    omega
theorem joinf (l : List ByteArray) (hl : l.length ≤ 1000) (hx : ∀ x ∈ l, x.size ≤ 1000) : ∃ r, QPathParts.path_Join.f l = some r ∧ r.data.toList = jn (l.map (·.data.toList)) := by
  unfold QPathParts.path_Join.f QPathParts.strings_Join.f
  have e : Lib.join (l.map (·.data.toList)) (⟨#[47]⟩ : ByteArray).data.toList = jn (l.map (·.data.toList)) := join_jn _
  have hb := jn_len (l.map (·.data.toList)) (fun x hx' => by
    obtain ⟨y, hy, rfl⟩ := List.mem_map.mp hx'
    have := hx y hy
    simpa using this)
  rw [List.length_map] at hb
  rw [e, if_pos (by omega), if_pos (by omega)]
  exact ⟨_, rfl, rfl⟩
def tailJ : List (List UInt8) → List UInt8
  | [] => []
  | x :: r => 47 :: x ++ tailJ r
theorem jn_tail (x : List UInt8) : ∀ r, jn (x :: r) = x ++ tailJ r
  | [] => by simp [jn, tailJ]
  | y :: r => by rw [jn_cons x (y :: r) (by simp), jn_tail y r, tailJ]; simp
theorem refjoin_at (l : List ByteArray) (hl : l.length ≤ 1000) (hx : ∀ x ∈ l, x.size ≤ 1000) : ∀ (n i k : Nat) (acc : ByteArray), n + i = l.length → 1 ≤ i → acc.size ≤ 1001 * i → n + 1 ≤ k →
    ∃ r, QPathParts.sumpterref07_Join.l0 k l acc (i : Int) = some r ∧ r.data.toList = acc.data.toList ++ tailJ ((l.drop i).map (·.data.toList))
  | 0, i, k, acc, h, h1, ha, hk => by
    obtain ⟨k, rfl⟩ : ∃ j, k = j + 1 := ⟨k - 1, by omega⟩
    simp only [QPathParts.sumpterref07_Join.l0]
    rw [if_neg (by omega), List.drop_of_length_le (by omega)]
    exact ⟨_, rfl, by simp [tailJ]⟩
  | n + 1, i, k, acc, h, h1, ha, hk => by
    obtain ⟨k, rfl⟩ : ∃ j, k = j + 1 := ⟨k - 1, by omega⟩
    have hi : i < l.length := by omega
    have e1 : rdOf ByteArray.empty l (i : Int) = l[i] := by simp [rdOf, List.getD, hi]
    have hs := hx l[i] (List.getElem_mem hi)
    have h47 : (acc ++ (⟨#[47]⟩ : ByteArray)).size = acc.size + 1 := by
      have : (⟨#[47]⟩ : ByteArray).size = 1 := rfl
      rw [ByteArray.size_append, this]
    simp only [QPathParts.sumpterref07_Join.l0]
    rw [if_pos (by omega), if_pos (by omega), if_pos (by omega), if_pos (by omega), e1, h47, if_pos (by omega), PureSp.w64 (x := (i : Int) + 1) (by omega)]
    obtain ⟨r, e2, e3⟩ := refjoin_at l hl hx n (i + 1) k (acc ++ (⟨#[47]⟩ : ByteArray) ++ l[i]) (by omega) (by omega) (by rw [ByteArray.size_append, h47]; omega) (by omega)
    refine ⟨r, e2, ?_⟩
    rw [e3, List.drop_eq_getElem_cons hi, List.map_cons, tailJ]
    simp
theorem refjoin (k : Nat) (l : List ByteArray) (hl : l.length ≤ 1000) (hx : ∀ x ∈ l, x.size ≤ 1000) (hk : l.length + 2 ≤ k) : ∃ r, QPathParts.sumpterref07_Join.f k l = some r ∧ r.data.toList = jn (l.map (·.data.toList)) := by
  unfold QPathParts.sumpterref07_Join.f
  obtain ⟨k, rfl⟩ : ∃ j, k = j + 1 := ⟨k - 1, by omega⟩
  cases l with
  | nil =>
    simp only [QPathParts.sumpterref07_Join.l0]
    rw [if_neg (by simp)]
    exact ⟨_, rfl, rfl⟩
  | cons x r =>
    have hs := hx x (by simp)
    have e1 : rdOf ByteArray.empty (x :: r) 0 = x := rfl
    have h0 : (⟨#[]⟩ : ByteArray).size = 0 := rfl
    simp only [QPathParts.sumpterref07_Join.l0]
    rw [if_pos (by simp), if_neg (by decide), if_pos (by decide), e1, h0, if_pos (by omega), PureSp.w64 (x := (0 : Int) + 1) (by decide)]
    obtain ⟨z, e2, e3⟩ := refjoin_at (x :: r) hl hx r.length 1 k ((⟨#[]⟩ : ByteArray) ++ x) (by simp) (by omega) (by rw [ByteArray.size_append, h0]; omega) (by simp at hk; omega)
    refine ⟨z, e2, ?_⟩
    rw [e3, List.map_cons, jn_tail]
    simp
theorem slash_at (a : ByteArray) (ha : a.size ≤ 2000) : ∀ (i k : Nat), i ≤ a.size → i + 1 ≤ k → QPathParts.sumpterref07_slash.l0 k a ((i : Int) - 1) = some (lastOcc a.data.toList [47] i)
  | 0, k, _, hk => by
    obtain ⟨k, rfl⟩ : ∃ j, k = j + 1 := ⟨k - 1, by omega⟩
    simp only [QPathParts.sumpterref07_slash.l0]
    rw [if_neg (by omega)]
    rfl
  | i + 1, k, h, hk => by
    obtain ⟨k, rfl⟩ : ∃ j, k = j + 1 := ⟨k - 1, by omega⟩
    have hl : i < a.data.toList.length := by simp; omega
    simp only [QPathParts.sumpterref07_slash.l0]
    have e : (((i + 1 : Nat) : Int) - 1) = (i : Int) := by omega
    rw [e, if_pos (by omega), if_pos (by omega), if_pos (by omega), lastOcc, occ_at, List.getElem?_eq_getElem hl]
    by_cases hc : bt a (i : Int) = 47
    · rw [if_pos hc, if_pos (by rw [(bt_47 a i (by omega)).mp hc]; rfl)]
    · rw [if_neg hc, if_neg (by
        intro hh
        exact hc ((bt_47 a i (by omega)).mpr (by simpa using hh))), PureSp.w64 (x := (i : Int) - 1) (by omega)]
      exact slash_at a ha i k (by omega) (by omega)
theorem slashf (k : Nat) (a : ByteArray) (ha : a.size ≤ 2000) (hk : a.size + 1 ≤ k) : QPathParts.sumpterref07_slash.f k a = some (lastOcc a.data.toList [47] a.size) := by
  unfold QPathParts.sumpterref07_slash.f
  rw [PureSp.w64 (x := (a.size : Int) - 1) (by omega)]
  exact slash_at a ha a.size k (by omega) hk
theorem parents (k : Nat) (a : ByteArray) (ha : a.size ≤ 2000) (hk : a.size + 1 ≤ k) : ∃ x y, QPathParts.path_Parent.f a = some x ∧ QPathParts.sumpterref07_Parent.f k a = some y ∧ x.toList = y.toList := by
  unfold QPathParts.path_Parent.f QPathParts.sumpterref07_Parent.f
  have hb := lastB a.data.toList a.size
  rw [cutf a ha, slashf k a ha hk, Option.bind_some, Option.bind_some]
  generalize lastOcc a.data.toList [47] a.size = L at hb
  by_cases h : L < 0
  · rw [if_pos h]
    refine ⟨_, _, rfl, rfl, ?_⟩
    rw [toL, toL, extract_from_zero, show L.toNat = 0 by omega]
    rfl
  · rw [if_neg h, Option.bind_some, if_pos (by omega), if_pos (by omega)]
    exact ⟨_, _, rfl, rfl, rfl⟩
theorem bases (k : Nat) (a : ByteArray) (ha : a.size ≤ 2000) (hk : a.size + 1 ≤ k) : ∃ x, QPathParts.path_Base.f a = some x ∧ QPathParts.sumpterref07_Base.f k a = some x := by
  unfold QPathParts.path_Base.f QPathParts.sumpterref07_Base.f
  have hb := lastB a.data.toList a.size
  rw [cutf a ha, slashf k a ha hk, Option.bind_some, Option.bind_some, PureSp.w64 (by omega), if_pos (by omega), if_pos (by omega)]
  exact ⟨_, rfl, rfl⟩
end PathPartsP
open PathPartsP
theorem parts_l1 (p : ByteArray) (names t u : List ByteArray) (hp : p.size ≤ 1000) (hn : names.length ≤ 40) (hx : ∀ x ∈ names, x.size ≤ 1000) (htu : t.map (·.data.toList) = u.map (·.data.toList)) (ht : t.length ≤ 100000) :
    ∀ (n i k : Nat), n + i = t.length → n + 2000 ≤ k → sumpterlaw07_PathParts.l1 k p names t u (i : Int) = some true
  | 0, i, k, h, hk => by
    obtain ⟨k, rfl⟩ : ∃ j, k = j + 1 + 9 := ⟨k - 10, by omega⟩
    have aw : sumpterlaw07_awake.f (k + 9) = some true := awake k
    rw [show k + 1 + 9 = k + 9 + 1 from rfl]
    simp only [sumpterlaw07_PathParts.l1]
    obtain ⟨x, j1, j2⟩ := joinf names (by omega) hx
    obtain ⟨y, j3, j4⟩ := refjoin (k + 9) names (by omega) hx (by omega)
    obtain ⟨u1, v1, p1, p2, p3⟩ := parents (k + 9) p (by omega) (by omega)
    obtain ⟨b, b1, b2⟩ := bases (k + 9) p (by omega) (by omega)
    rw [if_neg (by omega), j1, Option.bind_some, j3, Option.bind_some, toL, toL, if_pos (j2.trans j4.symm), p1, Option.bind_some, p2, Option.bind_some, if_pos p3, b1, Option.bind_some, b2, Option.bind_some, if_pos rfl, aw]
    rfl
  | n + 1, i, k, h, hk => by
    obtain ⟨k, rfl⟩ : ∃ j, k = j + 1 := ⟨k - 1, by omega⟩
    have hl : t.length = u.length := by simpa using congrArg List.length htu
    have hi : i < t.length := by omega
    have hi' : i < u.length := by omega
    simp only [sumpterlaw07_PathParts.l1]
    have e1 : rdOf ByteArray.empty t (i : Int) = t[i] := by simp [rdOf, List.getD, hi]
    have e2 : rdOf ByteArray.empty u (i : Int) = u[i] := by simp [rdOf, List.getD, hi']
    have e3 : t[i].data.toList = u[i].data.toList := by
      have := congrArg (fun z => z[i]?) htu
      simpa [hi, hi'] using this
    rw [if_pos (by omega), if_pos (by omega), if_pos (by omega), e1, e2, toL, toL, if_pos e3, PureSp.w64 (x := (i : Int) + 1) (by omega)]
    exact parts_l1 p names t u hp hn hx htu ht n (i + 1) k (by omega) (by omega)
theorem parts_l0 (p : ByteArray) (names : List ByteArray) (hp : p.size ≤ 1000) (hn : names.length ≤ 40) :
    ∀ (n i k : Nat), n + i = names.length → (∀ j, (h : j < i) → (h' : j < names.length) → names[j].size ≤ 1000) → n + 5000 ≤ k → sumpterlaw07_PathParts.l0 k p names (i : Int) = some true
  | 0, i, k, h, hx, hk => by
    obtain ⟨k, rfl⟩ : ∃ j, k = j + 1 := ⟨k - 1, by omega⟩
    have hx' : ∀ x ∈ names, x.size ≤ 1000 := by
      intro x hm
      obtain ⟨j, hj, rfl⟩ := List.getElem_of_mem hm
      exact hx j (by omega) hj
    obtain ⟨t, t1, t2⟩ := split p (by omega)
    obtain ⟨u, u1, u2⟩ := refsplit k p (by omega) (by omega)
    have htu : t.map (·.data.toList) = u.map (·.data.toList) := t2.trans u2.symm
    have hl : t.length = u.length := by simpa using congrArg List.length htu
    have hlen : t.length ≤ p.size + 1 := by
      have := S_length p.data.toList
      rw [← t2, List.length_map] at this
      simpa using this
    simp only [sumpterlaw07_PathParts.l0]
    rw [if_neg (by omega), t1, Option.bind_some, u1, Option.bind_some, if_pos (by omega)]
    exact parts_l1 p names t u hp hn hx' htu (by omega) t.length 0 k (by omega) (by omega)
  | n + 1, i, k, h, hx, hk => by
    obtain ⟨k, rfl⟩ : ∃ j, k = j + 1 + 9 := ⟨k - 10, by omega⟩
    have aw : sumpterlaw07_awake.f (k + 9) = some true := awake k
    have hi : i < names.length := by omega
    rw [show k + 1 + 9 = k + 9 + 1 from rfl]
    simp only [sumpterlaw07_PathParts.l0]
    have e1 : rdOf ByteArray.empty names (i : Int) = names[i] := by simp [rdOf, List.getD, hi]
    rw [if_pos (by omega), if_pos (by omega), e1]
    by_cases hc : (names[i].size : Int) > 1000
    · rw [if_pos hc, aw]; rfl
    · rw [if_neg hc, PureSp.w64 (x := (i : Int) + 1) (by omega)]
      exact parts_l0 p names hp hn n (i + 1) (k + 9) (by omega) (fun j h1 h2 => by
        by_cases hj : j = i
        · subst hj; omega
        · exact hx j (by omega) h2) (by omega)
theorem PathParts : sumpterlaw07_PathParts.Pure2 := by
  intro p names _ _
  refine ⟨6000 + 1 + 9, ?_⟩
  have aw : sumpterlaw07_awake.f (6000 + 9) = some true := awake 6000
  have hj : sumpterlaw07_PathParts.j0 (6000 + 1 + 9) p names true = some true := by
    rw [show (6000 + 1 + 9 : Nat) = 6000 + 9 + 1 from rfl]
    simp only [sumpterlaw07_PathParts.j0]
    rw [if_true, aw]; rfl
  unfold sumpterlaw07_PathParts.f
  by_cases h1 : (p.size : Int) > 1000
  · rw [if_pos h1, hj]
  rw [if_neg h1]
  by_cases h2 : (names.length : Int) > 40
  · rw [decide_eq_true h2, hj]
  rw [decide_eq_false h2, show (6000 + 1 + 9 : Nat) = 6000 + 9 + 1 from rfl]
  simp only [sumpterlaw07_PathParts.j0]
  rw [if_neg (by decide)]
  exact parts_l0 p names (by omega) (by omega) names.length 0 (6000 + 9) (by omega) (fun j h => by omega) (by omega)
end Go.Proofs.YtfndfkekihacdaaDoor.Pure
