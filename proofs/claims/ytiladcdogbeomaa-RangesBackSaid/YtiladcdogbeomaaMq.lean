/- Law 17 (ranges): contracts of functions that its statements reach, and plain laws behind them (further part 5). No condition. -/
import Derived.Test.YtiladcdogbeomaaMl
import Derived.Laws.BitsLemmas
import Derived.Test.YtiladcdogbeomaaMm
namespace Go.Proofs.Ytiladcdogbeomaa.QRangesPlays
open Go.RowKit Go.Proofs.YtiladcdogbeomaaW.PrintWords Go.Proofs.YtiladcdogbeomaaW.PrintLast Go.Proofs.YtiladcdogbeomaaW.PrintMore
theorem or_byte (a c : Int) (h0 : 0 ≤ a) (h1 : a < 36028797018963968) (hc : 0 ≤ c) (hc2 : c < 256) : Go.bits .or .i64 (wrap64 (a * 256)) (wrap64 c) = a * 256 + c := by
  rw [w64i (by omega), w64i (by omega)]
  exact bits_join .i64 63 (by decide) (fun n h h2 => by rw [IntKind.wrap_i64]; omega) 8 (a * 256) c (by omega) (by omega) (by omega) (by omega) (by omega) (by omega)
theorem wraps63 (n : Int) (h0 : 0 ≤ n) (h1 : n < 9223372036854775808) : wrap64 n = n := w64i (by omega)
theorem shl_w (t : Int) (h : t = 0 ∨ t = 1 ∨ t = 2 ∨ t = 3) : shl .i64 1 t = if t = 0 then 1 else if t = 1 then 2 else if t = 2 then 4 else 8 := by
  rcases h with rfl | rfl | rfl | rfl <;> rfl
/-- A number's bytes, whatever stands behind them. -/
theorem get_1 (x : Int) (rest : List Int) (h0 : 0 ≤ x) (h1 : x < 64) : varint_Get.f 10 ([x] ++ rest) = some (x, 1, 0) := by
  have e1 : x / 64 = 0 := by omega
  have e2 : Go.bits .and .u8 x 63 = x := by rw [u8_and63 x h0 (by omega)]; omega
  have e3 := shl_w 0 (.inl rfl)
  simp only [if_pos] at e3
  unfold varint_Get.f
  simp [rd, e1, e2, e3, varint_Get.l0, wraps63 x h0 (by omega)]
  rw [if_neg (by omega), if_neg (by omega), if_pos (by omega)]
theorem get_2 (x : Int) (rest : List Int) (h0 : 64 ≤ x) (h1 : x < 16384) : varint_Get.f 10 ([64 + x / 256, x % 256] ++ rest) = some (x, 2, 0) := by
  obtain ⟨b, hb⟩ : ∃ b, 64 + x / 256 = b := ⟨_, rfl⟩
  have e1 : b / 64 = 1 := by omega
  have e2 : Go.bits .and .u8 b 63 = x / 256 := by rw [u8_and63 b (by omega) (by omega)]; omega
  have e3 : shl .i64 1 1 = 2 := shl_w 1 (by omega)
  have e4 := wraps63 (x / 256) (by omega) (by omega)
  have o1 : Go.bits .or .i64 (wrap64 (x / 256 * 256)) (wrap64 (x % 256)) = x := by rw [or_byte (x / 256) (x % 256) (by omega) (by omega) (by omega) (by omega)]; omega
  rw [hb]
  unfold varint_Get.f
  simp [rd, e1, e2, e3, e4, varint_Get.l0, o1, show wrap64 1 = 1 from w64i (by omega)]
  repeat (first | rw [if_pos (by omega)] | rw [if_neg (by omega)])
theorem get_4 (x : Int) (rest : List Int) (h0 : 16384 ≤ x) (h1 : x < 1073741824) : varint_Get.f 10 ([128 + x / 16777216, x / 65536 % 256, x / 256 % 256, x % 256] ++ rest) = some (x, 4, 0) := by
  obtain ⟨b, hb⟩ : ∃ b, 128 + x / 16777216 = b := ⟨_, rfl⟩
  have e1 : b / 64 = 2 := by omega
  have e2 : Go.bits .and .u8 b 63 = x / 16777216 := by rw [u8_and63 b (by omega) (by omega)]; omega
  have e3 : shl .i64 1 2 = 4 := shl_w 2 (by omega)
  have e4 := wraps63 (x / 16777216) (by omega) (by omega)
  have o1 : Go.bits .or .i64 (wrap64 (x / 16777216 * 256)) (wrap64 (x / 65536 % 256)) = x / 65536 := by rw [or_byte (x / 16777216) (x / 65536 % 256) (by omega) (by omega) (by omega) (by omega)]; omega
  have o2 : Go.bits .or .i64 (wrap64 (x / 65536 * 256)) (wrap64 (x / 256 % 256)) = x / 256 := by rw [or_byte (x / 65536) (x / 256 % 256) (by omega) (by omega) (by omega) (by omega)]; omega
  have o3 : Go.bits .or .i64 (wrap64 (x / 256 * 256)) (wrap64 (x % 256)) = x := by rw [or_byte (x / 256) (x % 256) (by omega) (by omega) (by omega) (by omega)]; omega
  rw [hb]
  unfold varint_Get.f
  simp [rd, e1, e2, e3, e4, varint_Get.l0, o1, o2, o3, show wrap64 1 = 1 from w64i (by omega), show wrap64 2 = 2 from w64i (by omega), show wrap64 3 = 3 from w64i (by omega)]
  repeat (first | rw [if_pos (by omega)] | rw [if_neg (by omega)])
theorem get_8 (x : Int) (rest : List Int) (h0 : 1073741824 ≤ x) (h1 : x < 4611686018427387904) : varint_Get.f 10 ([192 + x / 72057594037927936, x / 281474976710656 % 256, x / 1099511627776 % 256, x / 4294967296 % 256, x / 16777216 % 256, x / 65536 % 256, x / 256 % 256, x % 256] ++ rest) = some (x, 8, 0) := by
  obtain ⟨b, hb⟩ : ∃ b, 192 + x / 72057594037927936 = b := ⟨_, rfl⟩
  have e1 : b / 64 = 3 := by omega
  have e2 : Go.bits .and .u8 b 63 = x / 72057594037927936 := by rw [u8_and63 b (by omega) (by omega)]; omega
  have e3 : shl .i64 1 3 = 8 := shl_w 3 (by omega)
  have e4 := wraps63 (x / 72057594037927936) (by omega) (by omega)
  have o1 : Go.bits .or .i64 (wrap64 (x / 72057594037927936 * 256)) (wrap64 (x / 281474976710656 % 256)) = x / 281474976710656 := by rw [or_byte (x / 72057594037927936) (x / 281474976710656 % 256) (by omega) (by omega) (by omega) (by omega)]; omega
  have o2 : Go.bits .or .i64 (wrap64 (x / 281474976710656 * 256)) (wrap64 (x / 1099511627776 % 256)) = x / 1099511627776 := by rw [or_byte (x / 281474976710656) (x / 1099511627776 % 256) (by omega) (by omega) (by omega) (by omega)]; omega
  have o3 : Go.bits .or .i64 (wrap64 (x / 1099511627776 * 256)) (wrap64 (x / 4294967296 % 256)) = x / 4294967296 := by rw [or_byte (x / 1099511627776) (x / 4294967296 % 256) (by omega) (by omega) (by omega) (by omega)]; omega
  have o4 : Go.bits .or .i64 (wrap64 (x / 4294967296 * 256)) (wrap64 (x / 16777216 % 256)) = x / 16777216 := by rw [or_byte (x / 4294967296) (x / 16777216 % 256) (by omega) (by omega) (by omega) (by omega)]; omega
  have o5 : Go.bits .or .i64 (wrap64 (x / 16777216 * 256)) (wrap64 (x / 65536 % 256)) = x / 65536 := by rw [or_byte (x / 16777216) (x / 65536 % 256) (by omega) (by omega) (by omega) (by omega)]; omega
  have o6 : Go.bits .or .i64 (wrap64 (x / 65536 * 256)) (wrap64 (x / 256 % 256)) = x / 256 := by rw [or_byte (x / 65536) (x / 256 % 256) (by omega) (by omega) (by omega) (by omega)]; omega
  have o7 : Go.bits .or .i64 (wrap64 (x / 256 * 256)) (wrap64 (x % 256)) = x := by rw [or_byte (x / 256) (x % 256) (by omega) (by omega) (by omega) (by omega)]; omega
  rw [hb]
  unfold varint_Get.f
  simp [rd, e1, e2, e3, e4, varint_Get.l0, o1, o2, o3, o4, o5, o6, o7, show wrap64 1 = 1 from w64i (by omega), show wrap64 2 = 2 from w64i (by omega), show wrap64 3 = 3 from w64i (by omega), show wrap64 4 = 4 from w64i (by omega), show wrap64 5 = 5 from w64i (by omega), show wrap64 6 = 6 from w64i (by omega), show wrap64 7 = 7 from w64i (by omega)]
  repeat (first | rw [if_pos (by omega)] | rw [if_neg (by omega)])
theorem len_w (x : Int) (h : 0 ≤ x) (h2 : x < 4611686018427387904) : varint_Len.f x = some ((numL x).length : Int) := by
  unfold varint_Len.f numL
  rw [if_pos (by omega), if_neg (by omega)]
  by_cases h1 : x < 64
  · rw [if_pos h1, if_pos h1]; rfl
  · rw [if_neg h1, if_neg h1]
    by_cases h3 : x < 16384
    · rw [if_pos h3, if_pos h3]; rfl
    · rw [if_neg h3, if_neg h3]
      by_cases h4 : x < 1073741824
      · rw [if_pos h4, if_pos h4]; rfl
      · rw [if_neg h4, if_neg h4, if_pos h2]; rfl
theorem get_num (x : Int) (rest : List Int) (h : 0 ≤ x) (h2 : x < 4611686018427387904) : varint_Get.f 10 (numL x ++ rest) = some (x, ((numL x).length : Int), 0) := by
  unfold numL
  by_cases h1 : x < 64
  · simp only [if_pos h1]; exact get_1 x rest h h1
  · simp only [if_neg h1]
    by_cases h3 : x < 16384
    · simp only [if_pos h3]; exact get_2 x rest (by omega) h3
    · simp only [if_neg h3]
      by_cases h4 : x < 1073741824
      · simp only [if_pos h4]; exact get_4 x rest (by omega) h4
      · simp only [if_neg h4]; exact get_8 x rest (by omega) h2
theorem short_num (x : Int) (rest : List Int) (h : 0 ≤ x) (h2 : x < 4611686018427387904) : varint_Shortest.f 10 (numL x ++ rest) = some (x, ((numL x).length : Int), 0) := by
  unfold varint_Shortest.f
  rw [get_num x rest h h2]
  simp only [Option.bind_some, if_pos]
  rw [len_w x h h2]
  simp
theorem get_short (b w : Int) (r : List Int) (hb : b / 64 = 0 ∨ b / 64 = 1 ∨ b / 64 = 2 ∨ b / 64 = 3) (hs : shl .i64 1 (b / 64) = w) (hl : (r.length : Int) + 1 < w) : varint_Get.f 10 (b :: r) = some (0, 0, 3) := by
  unfold varint_Get.f
  have e0 : rd (b :: r) 0 = b := rfl
  rw [e0, hs, List.length_cons, if_neg (by omega), if_pos (by omega), if_pos (by omega), if_pos (by omega)]
theorem get_cut (x : Int) (h : 0 ≤ x) (h2 : x < 4611686018427387904) (j : Nat) (hj : j < (numL x).length) : varint_Get.f 10 ((numL x).take j) = some (0, 0, 3) := by
  cases j with
  | zero => rfl
  | succ j =>
    have key : ∀ b r w, numL x = b :: r → (b / 64 = 0 ∨ b / 64 = 1 ∨ b / 64 = 2 ∨ b / 64 = 3) → shl .i64 1 (b / 64) = w → ((numL x).length : Int) = w → varint_Get.f 10 ((numL x).take (j + 1)) = some (0, 0, 3) := by
      intro b r w e hb hs hw
      rw [e] at hj hw ⊢
      rw [List.take_succ_cons]
      refine get_short b w _ hb hs ?_
      rw [List.length_take]
      simp only [List.length_cons] at hj hw
      omega
    unfold numL at key hj ⊢
    by_cases h1 : x < 64
    · simp only [if_pos h1] at hj; simp at hj
    · simp only [if_neg h1] at key hj ⊢
      by_cases h3 : x < 16384
      · simp only [if_pos h3] at key hj ⊢
        have e : (64 + x / 256) / 64 = 1 := by omega
        exact key _ _ 2 rfl (by omega) (by rw [e]; exact shl_w 1 (by omega)) rfl
      · simp only [if_neg h3] at key hj ⊢
        by_cases h4 : x < 1073741824
        · simp only [if_pos h4] at key hj ⊢
          have e : (128 + x / 16777216) / 64 = 2 := by omega
          exact key _ _ 4 rfl (by omega) (by rw [e]; exact shl_w 2 (by omega)) rfl
        · simp only [if_neg h4] at key hj ⊢
          have e : (192 + x / 72057594037927936) / 64 = 3 := by omega
          exact key _ _ 8 rfl (by omega) (by rw [e]; exact shl_w 3 (by omega)) rfl
theorem short_cut (x : Int) (h : 0 ≤ x) (h2 : x < 4611686018427387904) (j : Nat) (hj : j < (numL x).length) : varint_Shortest.f 10 ((numL x).take j) = some (0, 0, 3) := by
  unfold varint_Shortest.f
  rw [get_cut x h h2 j hj]
  rfl
theorem short_up {l : List Int} {r : Int × Int × Int} (h : varint_Shortest.f 10 l = some r) : varint_Shortest.f 40 l = some r := by
  have key : ∀ n, varint_Shortest.f (10 + n) l = some r := by
    intro n
    induction n with
    | zero => exact h
    | succ n ih => exact varint_Shortest.mono l (10 + n) r ih
  exact key 30
/-- 'next' at a number that is whole, that is cut, behind an error. -/
theorem next_ok {bs rest : List Int} {u most x : Int} (hb : bs.drop u.toNat = numL x ++ rest) (h : 0 ≤ x) (h2 : x < 4611686018427387904) (hm : x ≤ most) (hu : 0 ≤ u) (hl : u + ((numL x).length : Int) ≤ 4611686018427387904) : nextF 40 bs u 0 most = some (x, u + ((numL x).length : Int), 0) := by
  unfold nextF
  rw [if_pos rfl, hb, short_up (short_num x rest h h2)]
  simp only [Option.bind_some, if_pos]
  rw [if_neg (by omega), w64i (by omega)]
theorem next_cut {bs : List Int} {u most x : Int} {j : Nat} (hb : bs.drop u.toNat = (numL x).take j) (h : 0 ≤ x) (h2 : x < 4611686018427387904) (hj : j < (numL x).length) : nextF 40 bs u 0 most = some (0, u, 3) := by
  unfold nextF
  rw [if_pos rfl, hb, short_up (short_cut x h h2 j hj)]
  rfl
theorem next_err {bs : List Int} {u e most : Int} (he : e ≠ 0) : nextF 40 bs u e most = some (0, u, e) := by
  unfold nextF
  rw [if_neg he]
/-! ### Reverse -/
theorem rev_loop (xs : List S95) (hn : xs.length ≤ 1000) : ∀ (k i : Nat) (s : List S95), s.length = xs.length → 2 * i ≤ xs.length + 1 → xs.length + 1 < 2 * (i + k) →
    (∀ j (h : j < s.length), s[j]? = if j < i ∨ xs.length - i ≤ j then xs[xs.length - 1 - j]? else xs[j]?) → api_Span_85.l0 k s (i : Int) ((xs.length : Int) - 1 - i) = some xs.reverse
  | 0, i, s, _, h1, h2, _ => by omega
  | k + 1, i, s, hs, h1, h2, hg => by
    unfold api_Span_85.l0
    by_cases hlt : (i : Int) < (xs.length : Int) - 1 - i
    · rw [if_pos hlt, if_pos (by omega), if_pos (by omega), if_pos (by omega), if_pos (by omega), w64i (by omega), w64i (by omega)]
      have e1 : ((xs.length : Int) - 1 - i).toNat = xs.length - 1 - i := by omega
      have e2 : (i : Int) + 1 = ((i + 1 : Nat) : Int) := by omega
      have e3 : (xs.length : Int) - 1 - i - 1 = (xs.length : Int) - 1 - ((i + 1 : Nat) : Int) := by omega
      rw [e1, Int.toNat_natCast, e2, e3]
      refine rev_loop xs hn k (i + 1) _ (by simp [hs]) (by omega) (by omega) (fun j hj => ?_)
      have g1 := hg i (by omega)
      have g2 := hg (xs.length - 1 - i) (by omega)
      rw [if_neg (by omega)] at g1 g2
      have r1 : rd_T95 s (i : Int) = xs[i]'(by omega) := by
        unfold rd_T95; rw [Int.toNat_natCast, List.getD_eq_getElem?_getD, g1, List.getElem?_eq_getElem (by omega)]; rfl
      have r2 : rd_T95 s ((xs.length : Int) - 1 - i) = xs[xs.length - 1 - i]'(by omega) := by
        unfold rd_T95; rw [e1, List.getD_eq_getElem?_getD, g2, List.getElem?_eq_getElem (by omega)]; rfl
      rw [r1, r2]
      have hjl : j < xs.length := by simpa [hs] using hj
      rw [List.getElem?_set]
      by_cases c1 : xs.length - 1 - i = j
      · rw [if_pos c1, if_pos (by simp [hs]; omega), if_pos (by omega)]
        have : xs.length - 1 - j = i := by omega
        rw [this, List.getElem?_eq_getElem (by omega)]
      · rw [if_neg c1, List.getElem?_set]
        by_cases c2 : i = j
        · rw [if_pos c2, if_pos (by omega), if_pos (by omega)]
          subst c2
          rw [List.getElem?_eq_getElem (by omega)]
        · rw [if_neg c2, hg j (by omega)]
          by_cases c3 : j < i ∨ xs.length - i ≤ j
          · rw [if_pos c3, if_pos (by omega)]
          · rw [if_neg c3, if_neg (by omega)]
    · rw [if_neg hlt]
      congr 1
      apply List.ext_getElem?
      intro j
      by_cases hj : j < s.length
      · rw [hg j hj, List.getElem?_reverse (by omega)]
        by_cases c3 : j < i ∨ xs.length - i ≤ j
        · rw [if_pos c3]
        · rw [if_neg c3]
          congr 1; omega
      · rw [List.getElem?_eq_none (by omega), List.getElem?_eq_none (by rw [List.length_reverse]; omega)]
theorem rev_all (xs : List S95) (hn : xs.length ≤ 64) : api_Span_85.f 40 xs = some xs.reverse := by
  unfold api_Span_85.f
  by_cases h0 : xs.length = 0
  · obtain rfl := List.eq_nil_of_length_eq_zero h0
    have e : wrap64 (-1) = -1 := w64i (by omega)
    simp [api_Span_85.l0, e]
  · rw [w64i (by omega)]
    have := rev_loop xs (by omega) 40 0 xs rfl (by omega) (by omega) (fun j hj => by rw [if_neg (by omega)])
    simpa using this
/-! ### Put and Get -/
abbrev gapN (l : List S95) (m : Nat) : Int := (sp l (l.length - 2 - m + 1)).f0 - (sp l (l.length - 2 - m)).f1 - 2
abbrev wid (l : List S95) (m : Nat) : Int := (sp l (l.length - 2 - m)).f1 - (sp l (l.length - 2 - m)).f0
theorem put_split (l : List S95) (m : Nat) : ∀ n, m < n → ∃ R, putTo numL l n = putTo numL l m ++ (numL (gapN l m) ++ (numL (wid l m) ++ R)) := by
  intro n
  induction n with
  | zero => intro h; omega
  | succ n ih =>
    intro h
    by_cases e : m = n
    · subst e
      exact ⟨[], by simp [putTo]⟩
    · obtain ⟨R, hR⟩ := ih (by omega)
      refine ⟨R ++ (numL (gapN l n) ++ numL (wid l n)), ?_⟩
      simp only [putTo, hR, List.append_assoc]
theorem put_head (l : List S95) : ∀ n, ∃ R, putTo numL l n = numL (sp l (l.length - 1)).f1 ++ (numL ((l.length : Int) - 1) ++ (numL ((sp l (l.length - 1)).f1 - (sp l (l.length - 1)).f0) ++ R)) := by
  intro n
  induction n with
  | zero => exact ⟨[], by simp [putTo]⟩
  | succ n ih =>
    obtain ⟨R, hR⟩ := ih
    exact ⟨R ++ (numL (gapN l n) ++ numL (wid l n)), by simp only [putTo, hR, List.append_assoc]⟩
/-- What has been read behind m rounds. -/
def rv (l : List S95) : Nat → List S95
  | 0 => [sp l (l.length - 1)]
  | m + 1 => rv l m ++ [sp l (l.length - 2 - m)]
theorem rv_len (l : List S95) : ∀ m, (rv l m).length = m + 1
  | 0 => rfl
  | m + 1 => by simp [rv, rv_len l m]
theorem rv_sp (l : List S95) (h : 0 < l.length) : ∀ m, m < l.length → sp (rv l m) m = sp l (l.length - 1 - m)
  | 0, _ => rfl
  | m + 1, hm => by
    have e : l.length - 1 - (m + 1) = l.length - 2 - m := by omega
    rw [e]
    simp [sp, rv, rv_len l m]
theorem rv_get (l : List S95) (h : 0 < l.length) : ∀ m, m < l.length → ∀ j, j ≤ m → (rv l m)[j]? = some (sp l (l.length - 1 - j))
  | 0, _, j, hj => by
    obtain rfl : j = 0 := by omega
    rfl
  | m + 1, hm, j, hj => by
    by_cases e : j = m + 1
    · subst e
      have := rv_len l m
      have e2 : l.length - 1 - (m + 1) = l.length - 2 - m := by omega
      rw [e2]
      simp [rv, this]
    · have := rv_get l h m (by omega) j (by omega)
      simp only [rv]
      rw [List.getElem?_append_left (by rw [rv_len]; omega), this]
theorem rv_all (l : List S95) (h : 0 < l.length) : rv l (l.length - 1) = l.reverse := by
  apply List.ext_getElem?
  intro j
  by_cases hj : j < l.length
  · rw [rv_get l h (l.length - 1) (by omega) j (by omega), List.getElem?_reverse hj, List.getElem?_eq_getElem (by omega), sp_get (by omega)]
  · rw [List.getElem?_eq_none (by rw [rv_len]; omega), List.getElem?_eq_none (by rw [List.length_reverse]; omega)]
theorem next_at {bs A R : List Int} {x most : Int} (hb : bs = A ++ (numL x ++ R)) (h : 0 ≤ x) (h2 : x < 4611686018427387904) (hm : x ≤ most) (hl : bs.length ≤ 200000000000000) : nextF 40 bs (A.length : Int) 0 most = some (x, ((A ++ numL x).length : Int), 0) := by
  have hl2 : A.length + (numL x).length ≤ 200000000000000 := by rw [hb] at hl; simp only [List.length_append] at hl; omega
  rw [next_ok (rest := R) (by rw [hb, Int.toNat_natCast, List.drop_left]) h h2 hm (by omega) (by omega), List.length_append]
  simp
theorem next_in {full A R : List Int} {c : Nat} {x most : Int} (hb : full = A ++ (numL x ++ R)) (h : 0 ≤ x) (h2 : x < 4611686018427387904) (hm : x ≤ most) (hl : full.length ≤ 200000000000000) (hA : A.length ≤ c) (hc : c < full.length) :
    nextF 40 (full.take c) (A.length : Int) 0 most = if (A ++ numL x).length ≤ c then some (x, ((A ++ numL x).length : Int), 0) else some (0, (A.length : Int), 3) := by
  have hl2 : A.length + ((numL x).length + R.length) ≤ 200000000000000 := by rw [hb] at hl; simp only [List.length_append] at hl; omega
  have hc2 : c < A.length + ((numL x).length + R.length) := by rw [hb] at hc; simp only [List.length_append] at hc; omega
  split
  · rename_i hle
    rw [List.length_append] at hle
    refine next_at (R := R.take (c - A.length - (numL x).length)) ?_ h h2 hm (by rw [List.length_take]; omega)
    rw [hb, List.take_append, List.take_of_length_le hA, List.take_append, List.take_of_length_le (by omega)]
  · rename_i hle
    rw [List.length_append] at hle
    refine next_cut (x := x) (j := c - A.length) ?_ h h2 (by omega)
    rw [hb, Int.toNat_natCast, List.take_append, List.take_of_length_le hA, List.drop_left, List.take_append_of_le_length (by omega)]
/-- What the spans of a set say of the numbers that are put. -/
theorem nums_in {l : List S95} (hw : wf 0 l) {m : Nat} (hm : m + 1 < l.length) :
    0 ≤ gapN l m ∧ 0 ≤ wid l m ∧ gapN l m ≤ (sp l (l.length - 1 - m)).f0 - 2 ∧ wid l m ≤ (sp l (l.length - 2 - m)).f1 ∧ (sp l (l.length - 1 - m)).f0 ≤ 1099511627776 ∧ (sp l (l.length - 2 - m)).f1 ≤ 1099511627776 ∧
      (sp l (l.length - 1 - m)).f0 - 2 - gapN l m = (sp l (l.length - 2 - m)).f1 ∧ (sp l (l.length - 2 - m)).f1 - wid l m = (sp l (l.length - 2 - m)).f0 ∧ 2 ≤ (sp l (l.length - 1 - m)).f0 := by
  have e : l.length - 2 - m + 1 = l.length - 1 - m := by omega
  have h1 := wf_sp hw (l.length - 2 - m) (by omega)
  have h2 := wf_sp hw (l.length - 1 - m) (by omega)
  have h3 := wf_next hw (l.length - 2 - m) (by omega)
  rw [e] at h3
  simp only [gapN, wid, e]
  omega
theorem getL_ok {l : List S95} (hw : wf 0 l) (h0 : 0 < l.length) (bs B : List Int) (hb : bs = putTo numL l (l.length - 1) ++ B) (hl : bs.length ≤ 200000000000000) : ∀ (q m : Nat), m + 1 ≤ l.length → l.length ≤ m + q →
    getL 40 bs q (m : Int) ((l.length : Int) - 1) (rv l m) ((putTo numL l m).length : Int) 0 = some (rv l (l.length - 1), ((putTo numL l (l.length - 1)).length : Int), 0)
  | 0, m, h1, h2 => by omega
  | q + 1, m, h1, h2 => by
    unfold getL
    by_cases hm : m + 1 = l.length
    · rw [if_neg (by omega)]
      have e : l.length - 1 = m := by omega
      rw [e]
    · rw [if_pos (by omega)]
      obtain ⟨R, hR⟩ := put_split l m (l.length - 1) (by omega)
      obtain ⟨n1, n2, n3, n4, n5, n6, n7, n8, n9⟩ := nums_in hw (m := m) (by omega)
      rw [Int.toNat_natCast, rv_sp l h0 m (by omega), w64i (by omega)]
      rw [next_at (A := putTo numL l m) (R := numL (wid l m) ++ R ++ B) (by rw [hb, hR]; simp) n1 (by omega) n3 hl]
      simp only [Option.bind_some]
      rw [n7, w64i (by omega)]
      rw [next_at (A := putTo numL l m ++ numL (gapN l m)) (R := R ++ B) (by rw [hb, hR]; simp) n2 (by omega) n4 hl]
      simp only [Option.bind_some]
      rw [n8, w64i (by have := wf_sp hw (l.length - 2 - m) (by omega); omega)]
      have e1 : putTo numL l m ++ numL (gapN l m) ++ numL (wid l m) = putTo numL l (m + 1) := by simp only [putTo, List.append_assoc]
      rw [e1]
      have := getL_ok hw h0 bs B hb hl q (m + 1) (by omega) (by omega)
      rw [← this]
      congr 1
theorem getF_ok {l : List S95} (hw : wf 0 l) (h0 : 0 < l.length) (h64 : l.length ≤ 64) (B : List Int) (hl : (putTo numL l (l.length - 1) ++ B).length ≤ 200000000000000) :
    getF 40 (putTo numL l (l.length - 1) ++ B) = some (l, ((putTo numL l (l.length - 1)).length : Int), 0) := by
  obtain ⟨R, hR⟩ := put_head l (l.length - 1)
  have hs := wf_sp hw (l.length - 1) (by omega)
  obtain ⟨bs, hb⟩ : ∃ bs, putTo numL l (l.length - 1) ++ B = bs := ⟨_, rfl⟩
  rw [hb] at hl ⊢
  unfold getF
  have a1 := next_at (bs := bs) (A := []) (x := (sp l (l.length - 1)).f1) (most := 1099511627776) (R := numL ((l.length : Int) - 1) ++ (numL ((sp l (l.length - 1)).f1 - (sp l (l.length - 1)).f0) ++ R) ++ B) (by rw [← hb, hR]; simp) (by omega) (by omega) (by omega) hl
  rw [show ((([] : List Int).length : Nat) : Int) = 0 from rfl, List.nil_append] at a1
  rw [a1]
  simp only [Option.bind_some]
  rw [next_at (A := numL (sp l (l.length - 1)).f1) (x := (l.length : Int) - 1) (R := numL ((sp l (l.length - 1)).f1 - (sp l (l.length - 1)).f0) ++ R ++ B) (by rw [← hb, hR]; simp) (by omega) (by omega) (by omega) hl]
  simp only [Option.bind_some]
  rw [next_at (A := numL (sp l (l.length - 1)).f1 ++ numL ((l.length : Int) - 1)) (x := (sp l (l.length - 1)).f1 - (sp l (l.length - 1)).f0) (R := R ++ B) (by rw [← hb, hR]; simp) (by omega) (by omega) (by omega) hl]
  simp only [Option.bind_some]
  have e1 : (sp l (l.length - 1)).f1 - ((sp l (l.length - 1)).f1 - (sp l (l.length - 1)).f0) = (sp l (l.length - 1)).f0 := by omega
  rw [e1, w64i (by omega)]
  have := getL_ok hw h0 bs B hb.symm hl 66 0 (by omega) (by omega)
  rw [show (rv l 0) = [⟨(sp l (l.length - 1)).f0, (sp l (l.length - 1)).f1⟩] from rfl, show putTo numL l 0 = numL (sp l (l.length - 1)).f1 ++ numL ((l.length : Int) - 1) ++ numL ((sp l (l.length - 1)).f1 - (sp l (l.length - 1)).f0) from rfl] at this
  rw [show ((0 : Nat) : Int) = 0 from rfl] at this
  rw [this]
  simp only [Option.bind_some, if_pos]
  rw [rv_all l h0, rev_all _ (by rw [List.length_reverse]; exact h64), List.reverse_reverse]
  rfl
theorem getL_err {bs : List Int} {q : Nat} {i n u e : Int} {l : List S95} (he : e ≠ 0) : getL 40 bs (q + 1) i n l u e = some (l, u, e) := by
  unfold getL
  rw [if_neg (fun h => he h.2)]
theorem getL_cut {l : List S95} (hw : wf 0 l) (h0 : 0 < l.length) (c : Nat) (hc : c < (putTo numL l (l.length - 1)).length) (hl : (putTo numL l (l.length - 1)).length ≤ 200000000000000) : ∀ (q m : Nat), m + 1 ≤ l.length → l.length ≤ m + q → (putTo numL l m).length ≤ c →
    ∃ l' u', getL 40 ((putTo numL l (l.length - 1)).take c) (q + 1) (m : Int) ((l.length : Int) - 1) (rv l m) ((putTo numL l m).length : Int) 0 = some (l', u', 3)
  | 0, m, h1, h2, _ => by omega
  | q + 1, m, h1, h2, h3 => by
    by_cases hm : m + 1 = l.length
    · have e : l.length - 1 = m := by omega
      rw [e] at hc
      omega
    · unfold getL
      rw [if_pos (by omega)]
      obtain ⟨R, hR⟩ := put_split l m (l.length - 1) (by omega)
      obtain ⟨n1, n2, n3, n4, n5, n6, n7, n8, n9⟩ := nums_in hw (m := m) (by omega)
      rw [Int.toNat_natCast, rv_sp l h0 m (by omega), w64i (by omega)]
      rw [next_in (full := putTo numL l (l.length - 1)) (A := putTo numL l m) (R := numL (wid l m) ++ R) hR n1 (by omega) n3 hl h3 hc]
      by_cases c1 : (putTo numL l m ++ numL (gapN l m)).length ≤ c
      · rw [if_pos c1]
        simp only [Option.bind_some]
        rw [n7, w64i (by omega)]
        rw [next_in (full := putTo numL l (l.length - 1)) (A := putTo numL l m ++ numL (gapN l m)) (R := R) (by rw [hR]; simp) n2 (by omega) n4 hl c1 hc]
        have e1 : putTo numL l m ++ numL (gapN l m) ++ numL (wid l m) = putTo numL l (m + 1) := by simp only [putTo, List.append_assoc]
        rw [e1]
        by_cases c2 : (putTo numL l (m + 1)).length ≤ c
        · rw [if_pos c2]
          simp only [Option.bind_some]
          rw [n8, w64i (by have := wf_sp hw (l.length - 2 - m) (by omega); omega)]
          exact getL_cut hw h0 c hc hl q (m + 1) (by omega) (by omega) c2
        · rw [if_neg c2]
          simp only [Option.bind_some]
          exact ⟨_, _, getL_err (by decide)⟩
      · rw [if_neg c1]
        simp only [Option.bind_some]
        rw [next_err (by decide)]
        simp only [Option.bind_some]
        exact ⟨_, _, getL_err (by decide)⟩
theorem getF_cut {l : List S95} (hw : wf 0 l) (h0 : 0 < l.length) (h64 : l.length ≤ 64) (c : Nat) (hc : c < (putTo numL l (l.length - 1)).length) (hl : (putTo numL l (l.length - 1)).length ≤ 200000000000000) :
    getF 40 ((putTo numL l (l.length - 1)).take c) = some ([], 0, 3) := by
  obtain ⟨R, hR⟩ := put_head l (l.length - 1)
  have hs := wf_sp hw (l.length - 1) (by omega)
  unfold getF
  have a1 := next_in (full := putTo numL l (l.length - 1)) (A := []) (c := c) (x := (sp l (l.length - 1)).f1) (most := 1099511627776) (R := numL ((l.length : Int) - 1) ++ (numL ((sp l (l.length - 1)).f1 - (sp l (l.length - 1)).f0) ++ R)) (by rw [hR]; rfl) (by omega) (by omega) (by omega) hl (Nat.zero_le _) hc
  rw [show ((([] : List Int).length : Nat) : Int) = 0 from rfl, List.nil_append] at a1
  rw [a1]
  by_cases c1 : (numL (sp l (l.length - 1)).f1).length ≤ c
  · rw [if_pos c1]
    simp only [Option.bind_some]
    rw [next_in (full := putTo numL l (l.length - 1)) (A := numL (sp l (l.length - 1)).f1) (x := (l.length : Int) - 1) (R := numL ((sp l (l.length - 1)).f1 - (sp l (l.length - 1)).f0) ++ R) (by rw [hR]) (by omega) (by omega) (by omega) hl c1 hc]
    by_cases c2 : (numL (sp l (l.length - 1)).f1 ++ numL ((l.length : Int) - 1)).length ≤ c
    · rw [if_pos c2]
      simp only [Option.bind_some]
      rw [next_in (full := putTo numL l (l.length - 1)) (A := numL (sp l (l.length - 1)).f1 ++ numL ((l.length : Int) - 1)) (x := (sp l (l.length - 1)).f1 - (sp l (l.length - 1)).f0) (R := R) (by rw [hR]; simp) (by omega) (by omega) (by omega) hl c2 hc]
      by_cases c3 : (numL (sp l (l.length - 1)).f1 ++ numL ((l.length : Int) - 1) ++ numL ((sp l (l.length - 1)).f1 - (sp l (l.length - 1)).f0)).length ≤ c
      · rw [if_pos c3]
        simp only [Option.bind_some]
        have e1 : (sp l (l.length - 1)).f1 - ((sp l (l.length - 1)).f1 - (sp l (l.length - 1)).f0) = (sp l (l.length - 1)).f0 := by omega
        rw [e1, w64i (by omega)]
        obtain ⟨l', u', h⟩ := getL_cut hw h0 c hc hl 65 0 (by omega) (by omega) c3
        rw [show (rv l 0) = [⟨(sp l (l.length - 1)).f0, (sp l (l.length - 1)).f1⟩] from rfl, show putTo numL l 0 = numL (sp l (l.length - 1)).f1 ++ numL ((l.length : Int) - 1) ++ numL ((sp l (l.length - 1)).f1 - (sp l (l.length - 1)).f0) from rfl] at h
        rw [show ((0 : Nat) : Int) = 0 from rfl] at h
        rw [h]
        simp
      · rw [if_neg c3]
        simp only [Option.bind_some]
        rw [getL_err (by decide)]
        simp
    · rw [if_neg c2]
      simp only [Option.bind_some]
      rw [next_err (by decide)]
      simp only [Option.bind_some]
      rw [getL_err (by decide)]
      simp
  · rw [if_neg c1]
    simp only [Option.bind_some]
    rw [next_err (by decide)]
    simp only [Option.bind_some]
    rw [next_err (by decide)]
    simp only [Option.bind_some]
    rw [getL_err (by decide)]
    simp
/-! ### Check -/
theorem chk_loop (l : List S95) (h64 : l.length ≤ 64) (h0 : 0 < l.length) : ∀ (k i : Nat) (a lo : Int), wf lo (l.drop i) → 0 ≤ lo → a + 2 ≤ lo → -2 ≤ a → a ≤ 1099511627776 → l.length < i + k → i ≤ l.length → ranges_Check.l0 k l a l (l.length : Int) (i : Int) = some 0
  | 0, i, a, lo, _, _, _, _, _, h1, h2 => by omega
  | k + 1, i, a, lo, hw, hlo, ha, ha2, ha3, h1, h2 => by
    unfold ranges_Check.l0
    by_cases hi : i < l.length
    · rw [if_pos (by omega), if_pos (by omega), if_pos (by omega)]
      have hd : l.drop i = l[i] :: l.drop (i + 1) := List.drop_eq_getElem_cons hi
      rw [hd] at hw
      obtain ⟨w1, w2, w3, w4⟩ := hw
      have hr : rd_T95 l (i : Int) = l[i] := by unfold rd_T95; rw [Int.toNat_natCast, List.getD_eq_getElem?_getD, List.getElem?_eq_getElem hi]; rfl
      rw [hr]
      have hm : ranges_may.f l[i].f0 l[i].f1 = some true := by
        unfold ranges_may.f
        rw [if_pos (by omega), if_pos w2]
        simp [w3]
      rw [hm]
      simp only [Option.bind_some, if_pos]
      rw [w64i (by omega), if_neg (by omega), w64i (by omega), show (i : Int) + 1 = ((i + 1 : Nat) : Int) by omega]
      exact chk_loop l h64 h0 k (i + 1) l[i].f1 (l[i].f1 + 2) w4 (by omega) (by omega) (by omega) (by omega) (by omega) (by omega)
    · rw [if_neg (by omega), if_neg (by omega)]
theorem chk_ok {l : List S95} (hw : wf 0 l) (h0 : 0 < l.length) (h64 : l.length ≤ 64) : ranges_Check.f 66 l = some 0 := by
  unfold ranges_Check.f
  rw [if_neg (by omega)]
  exact chk_loop l h64 h0 66 0 (-2) 0 (by simpa using hw) (by omega) (by omega) (by omega) (by omega) (by omega) (by omega)
theorem chk_none : ranges_Check.f 66 [] = some 4 := by kernel_rfl
theorem chk_long {l : List S95} (h : 64 < l.length) : ranges_Check.f 66 l = some 5 := by unfold ranges_Check.f; rw [if_pos (by omega)]
theorem put_pos (l : List S95) (n : Nat) : 0 < (putTo numL l n).length := by
  obtain ⟨R, hR⟩ := put_head l n
  have : 0 < (numL (sp l (l.length - 1)).f1).length := by unfold numL; split; simp; split; simp; split <;> simp
  rw [hR]; simp only [List.length_append]; omega
end Go.Proofs.Ytiladcdogbeomaa.QRangesPlays

namespace Go.Proofs.Ytiladcdogbeomaa.QRangesPlays
open Go.RowKit Go.Shelf Go.Proofs.YtiladcdogbeomaaW.PrintWords Go.Proofs.YtiladcdogbeomaaW.PrintLast Go.Proofs.YtiladcdogbeomaaW.PrintMore Go.Proofs.Ytiladcdogbeomaa.RowLaws Go.Proofs.Ytiladcdogbeomaa.Lazy
attribute [local go_sem] Oper.semAt_some
abbrev bk7_ops : List Oper := [{ dst := some 31, op := .move (.tmp 7), type := 70, pos := "own.go:38", after := #[], guard := none },
  { dst := some 32, op := .load 80 (.tmp 8), type := 80, pos := "own.go:38", after := #[], guard := none },
  { dst := some 33, op := .move (.tmp 0), type := 78, pos := "own.go:38", after := #[], guard := none },
  { dst := some 34, op := .move (.tmp 9), type := 3, pos := "own.go:38", after := #[], guard := none },
  { dst := some 35, op := .indexAddr 78 (.tmp 33) (.tmp 34), type := 0, pos := "own.go:38", after := #[⟨2, .data⟩, ⟨3, .data⟩], guard := none },
  { dst := some 36, op := .load 84 (.tmp 35), type := 84, pos := "own.go:38", after := #[⟨4, .data⟩], guard := none },
  { dst := some 37, op := .call { callee := .value (.func 41), args := #[.tmp 31, .tmp 32, .tmp 36], argTypes := #[70, 80, 84] }, type := 81, pos := "own.go:38", after := #[⟨0, .data⟩, ⟨1, .data⟩, ⟨5, .data⟩], guard := none },
  { dst := some 30, op := .move (.tmp 37), type := 81, pos := "own.go:38", after := #[⟨6, .data⟩], guard := none },
  { dst := some 38, op := .extract (.tmp 30) 0, type := 80, pos := "own.go:38", after := #[⟨7, .data⟩], guard := none },
  { dst := some 39, op := .extract (.tmp 30) 1, type := 4, pos := "own.go:38", after := #[⟨7, .data⟩, ⟨10, .gcOnly .lateStores⟩], guard := none },
  { dst := none, op := .store 80 (.tmp 8) (.tmp 38), type := 0, pos := "own.go:38", after := #[⟨8, .data⟩, ⟨6, .chain⟩, ⟨0, .phase⟩, ⟨1, .phase⟩, ⟨2, .phase⟩, ⟨3, .phase⟩, ⟨4, .phase⟩, ⟨5, .phase⟩, ⟨6, .phase⟩, ⟨7, .phase⟩, ⟨8, .phase⟩, ⟨9, .textOnly .lateStores⟩], guard := none }]
abbrev bk7_tab : List (Option Nat) := [none, none, none, none, none, none, none, none, none, none, none, none, none, none, none, none, none, none, none, none, none, none, none, none, none, none, none, none, none, none, some 7, some 0, some 1, some 2, some 3, some 4, some 5, some 6, some 8, some 9, none, none, none, none, none, none, none, none, none, none, none, none, none, none, none, none, none, none, none, none, none, none, none, none, none, none, none, none, none, none, none, none, none, none, none, none, none, none, none, none, none, none, none, none, none, none, none, none, none, none, none, none, none, none, none, none, none, none, none, none, none, none, none, none, none, none, none, none, none, none, none, none, none, none, none, none, none]

def bk7_val (g b0 o0 n c0 i : Nat) (k f t : Int) (A : Option Addr) (c : Nat) (l : List S95) : Nat → Value → World → Prop := fun j v W => match j with
  | 0 => v = .pointer (some ⟨g, 0, none⟩)
  | 1 => v = .agg #[.slice A l.length c]
  | 2 => v = .slice (some ⟨b0, o0, none⟩) n c0
  | 3 => v = .int .i64 (i : Int)
  | 4 => v = .pointer (some ⟨b0, o0 + i * 3, none⟩)
  | 5 => v = .agg #[.int .u8 k, .int .i64 f, .int .i64 t]
  | 6 => ∃ u, v = .tuple #[u, .bool true] ∧ RS W u (stepL k f t l)
  | 7 => ∃ u, v = .tuple #[u, .bool true] ∧ RS W u (stepL k f t l)
  | 8 => RS W v (stepL k f t l)
  | 9 => v = .bool true
  | 10 => True
  | _ => True
set_option maxRecDepth 100000 in
set_option maxHeartbeats 4000000 in
theorem Back_r7 (g b6 b0 o0 n c0 i : Nat) (k f t : Int) (A : Option Addr) (c : Nat) (l : List S95) (t0 : List Value) (d0 : List Deferred) (w : World) (Q : Exit → Act → World → Prop) (hl : t0.length = bk7_tab.length)
    (t0_ : t0[0]? = some (.slice (some ⟨b0, o0, none⟩) n c0)) (t7_ : t0[7]? = some (.pointer (some ⟨g, 0, none⟩))) (t8_ : t0[8]? = some (.pointer (some ⟨b6, 0, none⟩))) (t9_ : t0[9]? = some (.int .i64 (i : Int))) (hi : i < n) (hn : n ≤ 100)
    (hJ0 : J8 g b6 b0 o0 i k f t A c l w (fun _ => false) w) (hw : wf 0 l) (hlc : l.length ≤ c) (hf : f ≤ 9223372036854775807) (hk0 : 0 ≤ k) (hk1 : k < 256) (hg6 : g ≠ b6) (hg0 : b0 ≠ g) (h06 : b0 ≠ b6)
    (hQ : ∀ σ W, Two g b6 w W → SetAt W g (stepL k f t l) → Fin1 b6 (stepL k f t l) W → Q .normal (lazyA (fun _ => true) σ t0 bk7_tab d0) W) :
    (Code.region 7 bk7_ops.toArray true).wp Try.prog Q { tmps := t0.toArray, defers := d0 } w := by
  refine wp_region_valsL (by kernel_rfl) bk7_tab (by kernel_rfl) hl (fun W W' => ∀ v, RS W v (stepL k f t l) → RS W' v (stepL k f t l)) (J8 g b6 b0 o0 i k f t A c l w) (bk7_val g b0 o0 n c0 i k f t A c l) ?hj ?hst ⟨(fun j b h => by cases h), (fun j b h => by cases h), (fun j b h => by cases h), (fun j b h => by cases h), (fun j b h => by cases h), (fun j b h => by cases h), (fun j b h => by cases h), (fun j b h => by cases h), (fun j b h => by cases h), (fun j b h => by cases h), (fun j b h => by cases h), trivial⟩ ⟨?s0, ?s1, ?s2, ?s3, ?s4, ?s5, ?s6, ?s7, ?s8, ?s9, ?s10, trivial⟩ ?hdone
  case hj =>
    have b := below_drew (Below.refl w.heap.size w)
    exact ⟨⟨rfl, rfl, rfl, Nat.le_refl _, fun _ _ _ _ => rfl⟩, hJ0.c0, hJ0.c1, hJ0.c2, fun _ => (hJ0.set0 rfl).below b, (fun e => by cases e), fun _ => ⟨(hJ0.old rfl).1, Kd.C_drew (hJ0.old rfl).2⟩, (fun e => by cases e), hJ0.one⟩
  case hst =>
    intro j v W W' hR h
    match j with
    | 0 => exact h
    | 1 => exact h
    | 2 => exact h
    | 3 => exact h
    | 4 => exact h
    | 5 => exact h
    | 6 => exact (let ⟨u, h1, h2⟩ := h; ⟨u, h1, hR u h2⟩)
    | 7 => exact (let ⟨u, h1, h2⟩ := h; ⟨u, h1, hR u h2⟩)
    | 8 => exact hR v h
    | 9 => exact h
    | 10 => exact h
    | n + 11 => trivial
  case s0 =>
    intro L ρ W hL hcl hJ hT
    have q7 := hT.2.1 7 _ t7_ rfl
    refine Op1.of_run (v := .pointer (some ⟨g, 0, none⟩)) (W' := W) (by clear hT hJ hcl; go_simp) ⟨fun _ h => h, hJ.skip (by decide) (by decide), rfl⟩
  case s1 =>
    intro L ρ W hL hcl hJ hT
    have q8 := hT.2.1 8 _ t8_ rfl
    have e10 : L 10 = false := Bool.eq_false_iff.2 fun e => by rw [hcl 6 1 (by rfl) (hcl 7 6 (by rfl) (hcl 8 7 (by rfl) (hcl 10 8 (by rfl) e)))] at hL; cases hL
    have cc := cell_of_one (hJ.old e10).1
    refine Op1.of_run (v := .agg #[.slice A l.length c]) (W' := W) (by clear hT hJ hcl; go_simp) ⟨fun _ h => h, hJ.skip (by decide) (by decide), rfl⟩
  case s2 =>
    intro L ρ W hL hcl hJ hT
    have q0 := hT.2.1 0 _ t0_ rfl
    refine Op1.of_run (v := .slice (some ⟨b0, o0, none⟩) n c0) (W' := W) (by clear hT hJ hcl; go_simp) ⟨fun _ h => h, hJ.skip (by decide) (by decide), rfl⟩
  case s3 =>
    intro L ρ W hL hcl hJ hT
    have q9 := hT.2.1 9 _ t9_ rfl
    refine Op1.of_run (v := .int .i64 (i : Int)) (W' := W) (by clear hT hJ hcl; go_simp) ⟨fun _ h => h, hJ.skip (by decide) (by decide), rfl⟩
  case s4 =>
    intro L ρ W hL hcl hJ hT
    have q33 : ρ (.tmp 33) = .slice (some ⟨b0, o0, none⟩) n c0 := hT.1 33 2 rfl rfl
    have q34 : ρ (.tmp 34) = .int .i64 (i : Int) := hT.1 34 3 rfl rfl
    have i1 : (i : Int) < (n : Int) := by omega
    refine Op1.of_run (v := .pointer (some ⟨b0, o0 + i * 3, none⟩)) (W' := W) (by clear hT hJ hcl; go_simp) ⟨fun _ h => h, hJ.skip (by decide) (by decide), rfl⟩
  case s5 =>
    intro L ρ W hL hcl hJ hT
    have q35 : ρ (.tmp 35) = .pointer (some ⟨b0, o0 + i * 3, none⟩) := hT.1 35 4 rfl rfl
    have z0 := hJ.c0
    have z1 := hJ.c1
    have z2 := hJ.c2
    refine Op1.of_run (v := .agg #[.int .u8 k, .int .i64 f, .int .i64 t]) (W' := W) (by clear hT hJ hcl; go_simp) ⟨fun _ h => h, hJ.skip (by decide) (by decide), rfl⟩
  case s6 =>
    intro L ρ W hL hcl hJ hT
    have q31 : ρ (.tmp 31) = .pointer (some ⟨g, 0, none⟩) := hT.1 31 0 rfl rfl
    have q32 : ρ (.tmp 32) = .agg #[.slice A l.length c] := hT.1 32 1 rfl rfl
    have q36 : ρ (.tmp 36) = .agg #[.int .u8 k, .int .i64 f, .int .i64 t] := hT.1 36 5 rfl rfl
    have e10 : L 10 = false := Bool.eq_false_iff.2 fun e => by rw [hcl 7 6 (by rfl) (hcl 8 7 (by rfl) (hcl 10 8 (by rfl) e))] at hL; cases hL
    have qf := hT.2.2.2 41
    refine Op1.of_call (f := 41) (args := #[.pointer (some ⟨g, 0, none⟩), .agg #[.slice A l.length c], .agg #[.int .u8 k, .int .i64 f, .int .i64 t]]) (W' := W) (by clear hT hJ hcl; go_simp) ?_
    refine (Do_calls g k f t l _ W (hJ.set0 hL) ⟨A, c, rfl, hlc, (hJ.old e10).2⟩ hw hf hk0 hk1).mono ?_
    rintro e W2 ⟨u, rfl, h1, h2, h3⟩
    exact ⟨_, rfl, fun v hv => hv.only (hJ.set0 hL) h3, hJ.call hL e10 h1 h3 hg6 hg0, u, rfl, h2⟩
  case s7 =>
    intro L ρ W hL hcl hJ hT
    obtain ⟨u, q28, hu⟩ := (show ∃ u, ρ (.tmp 37) = .tuple #[u, .bool true] ∧ RS W u (stepL k f t l) from hT.1 37 6 rfl rfl)
    exact Op1.of_run (v := .tuple #[u, .bool true]) (W' := W) (by clear hT hJ hcl; go_simp) ⟨fun _ h => h, hJ.skip (by decide) (by decide), u, rfl, hu⟩
  case s8 =>
    intro L ρ W hL hcl hJ hT
    obtain ⟨u, q21, hu⟩ := (show ∃ u, ρ (.tmp 30) = .tuple #[u, .bool true] ∧ RS W u (stepL k f t l) from hT.1 30 7 rfl rfl)
    exact Op1.of_run (v := u) (W' := W) (by clear hT hJ hcl; go_simp) ⟨fun _ h => h, hJ.skip (by decide) (by decide), hu⟩
  case s9 =>
    intro L ρ W hL hcl hJ hT
    obtain ⟨u, q21, hu⟩ := (show ∃ u, ρ (.tmp 30) = .tuple #[u, .bool true] ∧ RS W u (stepL k f t l) from hT.1 30 7 rfl rfl)
    refine Op1.of_run (v := .bool true) (W' := W) (by clear hT hJ hcl; go_simp) ⟨fun _ h => h, hJ.skip (by decide) (by decide), rfl⟩
  case s10 =>
    intro L ρ W hL hcl hJ hT
    have q8 := hT.2.1 8 _ t8_ rfl
    obtain ⟨A', c', q29, hlc', hC'⟩ := (show RS W (ρ (.tmp 38)) (stepL k f t l) from hT.1 38 8 rfl rfl)
    obtain ⟨B1, m1, e1, hb⟩ := hJ.one
    have cb := cell_of_one hb
    have fb := free_of_one hb
    exact Op1.of_skip (W' := W.setCell ⟨b6, 0, none⟩ (.slice A' (stepL k f t l).length c')) (by clear hT hJ hcl; go_simp) ⟨fun v hv => hv.sl1 ⟨_, _, _, hb⟩ ((Only.refl _ _).setCell rfl _), hJ.store hlc' hC' hg6 h06, trivial⟩
  case hdone =>
    intro σ L W hL hJ hV
    exact hQ σ W hJ.two (hJ.set1 (hL 6 (by decide))) (hJ.new (hL 10 (by decide)))
end Go.Proofs.Ytiladcdogbeomaa.QRangesPlays

namespace Go.Proofs.Ytiladcdogbeomaa.QRangesPlays
open Go.RowKit Go.Shelf Go.Proofs.YtiladcdogbeomaaW.PrintWords Go.Proofs.YtiladcdogbeomaaW.PrintLast Go.Proofs.YtiladcdogbeomaaW.PrintMore Go.Proofs.Ytiladcdogbeomaa.RowLaws Go.Proofs.Ytiladcdogbeomaa.Lazy
attribute [local go_sem] Oper.semAt_some
set_option maxRecDepth 100000 in
set_option maxHeartbeats 4000000 in
theorem Put_err (k : Nat) (A : Option Addr) (c : Nat) (l : List S95) (r : Int) (w : World) (hC : Kd.C k95 w A l.length l) (hc : l.length ≤ c) (hf : ranges_Check.f k l = some r) (hr : r ≠ 0) :
    Calls Try.prog 42 #[.slice A l.length c] w fun e w' => e = .returned (.tuple #[.slice none 0 0, .int .i64 r]) ∧ Below w.heap.size w w' := by
  have HK := Aside0.mk (ranges_Check.calls k A c l r w hC hc hf)
  have h1 : (r != 0) = true := by simp [hr]
  clear hC hc hf
  go_enter Try.func42, Try.ntmps42
  go_wp2_with (go_at_call 80; refine HK.out.mono ?_; rintro e w2 ⟨rfl, hb⟩; have HB := Aside0.mk hb; clear hb)
  go_ret2
  exact ⟨rfl, HB.out⟩
/-- A row of bytes that the call has made, read. -/
theorem R_bytes {W : World} {B : Nat} {ok : Nat → Prop} {A : Option Addr} {n c : Nat} {xs : List Int} (h : Kd.R (Kd.int .u8) 5 W B ok (.slice A n c) xs) : n = xs.length ∧ xs.length ≤ c ∧ Kd.C (Kd.int .u8) W A xs.length xs := by
  obtain ⟨h1, h2, h3⟩ := Kd.R_reads' h
  exact ⟨h1, by omega, h3⟩
set_option maxRecDepth 100000 in
set_option maxHeartbeats 4000000 in
theorem Back_walk (A : Option Addr) (c : Nat) (xs : List (Int × Int × Int)) (A' : Option Addr) (c' : Nat) (ys : List Int) (cut : Int) (w : World) (hA : ActRow w A xs) (hx : ActsOk xs) (hc : xs.length ≤ c) (hY : Kd.C (Kd.int .u8) w A' ys.length ys) (hc' : ys.length ≤ c') (hyl : ys.length ≤ 140737488351232) (hcut : 0 ≤ cut ∧ cut < 65536) :
    Calls Try.prog 7 #[.slice A xs.length c, .slice A' ys.length c', .int .u16 cut] w fun e w' => e = .returned (.bool true) ∧ Below w.heap.size w w' := by
  have HA := Aside0.mk hA
  have HX := Aside0.mk hx
  have HY := Aside0.mk (And.intro hY (And.intro hc' hyl))
  obtain ⟨n, hn⟩ : ∃ n, xs.length = n := ⟨_, rfl⟩
  rw [hn] at hc ⊢
  clear hA hx hY hc' hyl
  by_cases h60 : 60 < n
  · have e1 : (60 : Int) < (n : Int) := by omega
    go_enter Try.func7, Try.ntmps7
    go_wp2_with (go_at_call 35; refine (Awake_calls _).mono ?_; rintro e w2 ⟨rfl, hb⟩; have HB := Aside0.mk hb; clear hb)
    go_ret
    exact ⟨rfl, HB.out⟩
  · have e1 : ¬ (60 : Int) < (n : Int) := by omega
    go_enter Try.func7, Try.ntmps7
    go_wp2_with (go_at_call 36; refine (New_calls _).mono ?_; rintro e w2 ⟨g, rfl, hs, hb, hg⟩; have HS := Aside0.mk hs; have HB := Aside0.mk hb; have HG := Aside0.mk hg; clear hs hb hg)
    have hgw : g = w.heap.size := HG.out
    have HST := Aside0.mk (show StW g w2.heap.size w (w2.alloc (.cells #[.slice none 0 0] 80)) [] from ⟨HS.out.below (below_alloc (Below.refl _ w2) _), ⟨none, 0, heap_alloc_new w2 _, Nat.le_refl _, Kd.C_nil _ _⟩, below_step HB.out (below_alloc (Below.refl _ w2) _), trivial, Nat.le_of_eq hgw.symm, HB.out.size⟩)
    obtain ⟨b, hb⟩ : ∃ b, w2.heap.size = b := ⟨_, rfl⟩
    rw [hb] at HST ⊢
    clear hgw hb HS HB HG
    go_loopw [9] (fun i wr => ∃ j : Nat, j ≤ n ∧ i = .int .i64 j ∧ Aside0 (∃ l, StW g b w wr l)) (fun i _ => n - (intOf i).toNat)
    case atStart => exact ⟨0, Nat.zero_le _, rfl, ⟨⟨[], HST.out⟩⟩⟩
    case round =>
      obtain ⟨j, hj, rfl, HL⟩ := hrel
      obtain ⟨l, hl⟩ := HL.out
      by_cases hlt : j < n
      · have hlt2 : ((j : Nat) : Int) < (n : Int) := by omega
        obtain ⟨b0, o0, rfl, r0, r1, r2⟩ := HA.out j (by omega)
        have hok := HX.out xs[j] (List.getElem_mem _)
        have hbl : b0 < w.heap.size := World.block_lt_of_cell? _ _ r0
        obtain ⟨A6, c6, hF1, hF2, hF3⟩ := hl.hF
        have HLW := Aside0.mk hl
        have c0 := (hl.hb.cell (p := ⟨b0, o0 + j * 3, none⟩) hbl).trans r0
        have c1 := (hl.hb.cell (p := ⟨b0, o0 + j * 3 + 1, none⟩) hbl).trans r1
        have c2 := (hl.hb.cell (p := ⟨b0, o0 + j * 3 + 2, none⟩) hbl).trans r2
        go_wp2
        refine Back_r7 g b b0 o0 n c j xs[j].1 xs[j].2.1 xs[j].2.2 A6 c6 l _ _ _ _ (by rfl) (by rfl) (by rfl) (by rfl) (by rfl) hlt (by omega) ⟨Two.refl _ _ _, c0, c1, c2, fun _ => hl.hS, (fun e => by cases e), fun _ => ⟨hF1, hF3⟩, (fun e => by cases e), ⟨_, _, _, hF1⟩⟩ hl.hw hF2 hok.2.2 hok.1 hok.2.1 hl.ne (by have := hl.hg; omega) (by have := hl.hB; omega) ?_
        intro σ W6 h2 hS6 hF6
        have HL6 := Aside0.mk (HLW.out.two h2 hS6 hF6 (wf_step HLW.out.hw))
        simp only [lazyA, lazyT, bk7_tab, List.zipWith_cons_cons, List.zipWith_nil_left, cond_true]
        clear hl hF1 hF2 hF3 c0 c1 c2 h2 hS6 hF6
        rename_i K0 hK0
        refine hK0 _ _ ?_
        go_wp2
        go_roundw
        case rel => exact ⟨j + 1, by omega, by simp, ⟨⟨_, HL6.out⟩⟩⟩
        case measure => simp [intOf]; omega
      · have hj2 : j = n := by omega
        subst hj2
        have hll : l.length < 8796093022208 := by have := wf_len hl.hw (by omega); omega
        have HLL := Aside0.mk hll
        have HLW := Aside0.mk hl
        have hcl : slices_Clone.f l = some l := by unfold slices_Clone.f; rw [if_pos hll]
        have HSP := Aside0.mk (fun W (hb : Below wr.heap.size wr W) => Set_Spans.calls g l l W (HLW.out.hS.below hb).isSet hcl)
        have HLN := Aside0.mk (fun W (hb : Below wr.heap.size wr W) => Set_Len.calls g l W (HLW.out.hS.below hb).isSet HLL.out)
        clear HL hl hll hcl
        by_cases hbad : l.length = 0 ∨ 64 < l.length
        · rcases hbad with hbad | hbad
          · obtain rfl := List.eq_nil_of_length_eq_zero hbad
            clear hbad
            go_wp2_with (first
              | (go_at_call 39; refine (HSP.out wr (Below.refl _ _)).mono ?_; rintro e w4 ⟨v4, rfl, hr, hb⟩; obtain ⟨A4, c4, rfl, hc4, hC4⟩ := Kd.R_reads hr; have H4 := Aside0.mk (And.intro hc4 hC4); have HC := Aside0.mk hb; clear hr hb hc4 hC4)
              | (go_at_call 42; refine (Put_err 66 A4 c4 [] 4 _ H4.out.2 H4.out.1 chk_none (by decide)).mono ?_; rintro e w5 ⟨rfl, hb⟩; have HC5 := Aside0.mk (below_step HC.out hb); clear hb)
              | (go_at_call 43; refine (HLN.out _ HC5.out).mono ?_; rintro e w6 ⟨rfl, hb⟩; have HC6 := Aside0.mk (below_step HC5.out hb); clear hb)
              | (go_at_call 35; refine (Awake_calls _).mono ?_; rintro e w8 ⟨rfl, hb⟩; have HC8 := Aside0.mk (below_step HC6.out hb); clear hb))
            go_ret
            exact ⟨rfl, below_step HLW.out.hb HC8.out⟩
          · have e2 : ((l.length : Int) == 0) = false := beq_eq_false_iff_ne.2 (by omega)
            have e3 : (64 : Int) < (l.length : Int) := by omega
            have HCK := Aside0.mk (chk_long hbad)
            have HM : Mk_ 0 := rfl
            clear hbad
            go_wp2_with (first
              | (go_at_call 39; refine (HSP.out wr (Below.refl _ _)).mono ?_; rintro e w4 ⟨v4, rfl, hr, hb⟩; obtain ⟨A4, c4, rfl, hc4, hC4⟩ := Kd.R_reads hr; have H4 := Aside0.mk (And.intro hc4 hC4); have HC := Aside0.mk hb; clear hr hb hc4 hC4)
              | (go_at_call 42; refine (Put_err 66 A4 c4 l 5 _ H4.out.2 H4.out.1 HCK.out (by decide)).mono ?_; rintro e w5 ⟨rfl, hb⟩; have HC5 := Aside0.mk (below_step HC.out hb); clear hb)
              | (have hm_ := (HM : Mk_ 0); clear hm_ HM; have HM : Mk_ 1 := rfl; go_at_call 43; refine (HLN.out _ HC5.out).mono ?_; rintro e w6 ⟨rfl, hb⟩; have HC6 := Aside0.mk (below_step HC5.out hb); clear hb)
              | (have hm_ := (HM : Mk_ 1); clear hm_ HM; have HM : Mk_ 2 := rfl; go_at_call 43; refine (HLN.out _ HC6.out).mono ?_; rintro e w7 ⟨rfl, hb⟩; have HC7 := Aside0.mk (below_step HC6.out hb); clear hb)
              | (go_at_call 35; refine (Awake_calls _).mono ?_; rintro e w8 ⟨rfl, hb⟩; have HC8 := Aside0.mk (below_step HC7.out hb); clear hb))
            go_ret
            exact ⟨rfl, below_step HLW.out.hb HC8.out⟩
        · have h0 : 0 < l.length := by omega
          have h64 : l.length ≤ 64 := by omega
          have HPUT0 := fun W A c (hC : Kd.C k95 W A l.length l) (hc : l.length ≤ c) => Put_calls numL 10 66 numL_all A c l W hC hc HLW.out.hw h0 h64 (chk_ok HLW.out.hw h0 h64)
          have hpl := putTo_len HLW.out.hw (fun x hx => (numL_all x hx).2) h0 h64 (l.length - 1) (by omega)
          have hpp := put_pos l (l.length - 1)
          have hg1 := getF_ok HLW.out.hw h0 h64 ys (by have := HY.out.2.2; rw [List.length_append]; omega)
          have hg2 := fun q hq => getF_cut HLW.out.hw h0 h64 q hq (by omega)
          obtain ⟨P, hP⟩ : ∃ P, putTo numL l (l.length - 1) = P := ⟨_, rfl⟩
          rw [hP] at hpl hpp hg1 hg2
          simp only [hP] at HPUT0
          obtain ⟨Q, hQ⟩ : ∃ Q, P ++ ys = Q := ⟨_, rfl⟩
          rw [hQ] at hg1
          have hql : Q.length ≤ 140737488355328 := by have := HY.out.2.2; rw [← hQ, List.length_append]; omega
          have hq2 : P.length + ys.length ≤ 140737488355328 := by have := HY.out.2.2; omega
          have HPUT := Aside0.mk HPUT0
          have HG1 := Aside0.mk (fun W A c (hC : Kd.C (Kd.int .u8) W A Q.length Q) (hc : Q.length ≤ c) => Get_calls 40 A c Q l P.length 0 W hC hc (by omega) hg1)
          obtain ⟨qn, hqn⟩ : ∃ qn : Nat, cut % (P.length : Int) = (qn : Int) := ⟨(cut % (P.length : Int)).toNat, by have := Int.emod_nonneg cut (show (P.length : Int) ≠ 0 by omega); omega⟩
          have hqlt : qn < P.length := by have := Int.emod_lt_of_pos cut (show (0 : Int) < (P.length : Int) by omega); omega
          have eT : Int.tmod cut (P.length : Int) = (qn : Int) := by rw [Int.tmod_eq_emod_of_nonneg hcut.1]; exact hqn
          have eC : IntKind.i64.wrap cut = cut := IntWalk.i64_in _ (by omega)
          obtain ⟨T, hT⟩ : ∃ T, P.take qn = T := ⟨_, rfl⟩
          have hTl : T.length ≤ 4611686018427387904 := by rw [← hT, List.length_take]; omega
          have hg3 := hg2 qn hqlt
          rw [hT] at hg3
          obtain ⟨i010, hi010, _, hsz10, _⟩ := info_parts info5
          have HT := Aside0.mk hT
          have HQN := Aside0.mk hqlt
          have HG2 := Aside0.mk (fun W A c (hC : Kd.C (Kd.int .u8) W A T.length T) (hc : T.length ≤ c) => Get_calls 40 A c T [] 0 3 W hC hc hTl hg3)
          have HQ := Aside0.mk (And.intro hQ (And.intro hql hq2))
          have HPP := Aside0.mk (And.intro hpp (show P.length ≤ 2000 by omega))
          have hPne : ¬ P = [] := by rintro rfl; simp at hpp
          have e2 : ((P.length : Int) == 0) = false := beq_eq_false_iff_ne.2 (by omega)
          clear HPUT0 hg1 hg2 hg3 hP hQ hql hq2 hpp hpl hbad h0 h64 hT hTl hqlt hqn
          have HM : Mk_ 0 := rfl
          go_wp2_with (first
              | (have hm_ := (HM : Mk_ 0); clear hm_ HM; have HM : Mk_ 1 := rfl; go_at_call 39; refine (HSP.out wr (Below.refl _ _)).mono ?_; rintro e w4 ⟨v4, rfl, hr, hb⟩; obtain ⟨A4, c4, rfl, hc4, hC4⟩ := Kd.R_reads hr; have H4 := Aside0.mk (And.intro hc4 hC4); have HC := Aside0.mk hb; clear hr hb hc4 hC4)
              | (go_at_call 42; refine (HPUT.out _ A4 c4 H4.out.2 H4.out.1).mono ?_; rintro e w5 ⟨v5, rfl, hr, hb⟩; obtain ⟨A2, c2, rfl, hc2, hC2⟩ := Kd.R_reads hr; have H5 := Aside0.mk (And.intro hc2 hC2); have HC5 := Aside0.mk (below_step HC.out hb); obtain ⟨htk, htr, htc⟩ := print_take_of (P := Try.prog) (Value.int .u8) 0 23 5 .i64 Try.underlying23 hi010 hsz10 A2 c2 P (qn : Int) (by omega) (by have := HQN.out; omega) hc2; rw [Int.toNat_natCast, HT.out] at htk htr htc; have HTK := Aside0.mk htk; have HTR := Aside0.mk (And.intro (Kd.C_of_reads (h1 := fun _ => rfl) (htr w5 (Kd.reads_of_C hC2))) htc); clear hr hb hc2 hC2 htr htc)
              | ((with_reducible refine gate_builtin (b := .append) (xs := #[.tmp 75, .tmp 76]) rfl ?_); at_builtin; refine Kd.R_append_rows (Kd.int .u8) (w0 := w5) w5.heap.size rfl (.tmp 75) (.tmp 76) 23 5 (.int .u8 0) 1 rfl Try.underlying23 info5 rfl (by decide) (by omega) _ [] P _ _ _ (fun _ => True) (fun _ => False) rfl rfl ?aO ?aR (fun _ _ h => h) (fun _ h => h.elim) ?aF ?aB ?aS ?aL ?_; (case aO => exact R_of_empty (World.ownsRow_lit w5 #[] 0 (Nat.le_refl _) (by unfold maxLen; omega) rfl)); (case aR => exact Kd.C_below H5.out.2 (below_alloc (Below.refl _ _) _)); (case aF => exact (fun _ _ => trivial)); (case aB => exact below_alloc (Below.refl _ _) _); (case aS => exact (by simp)); (case aL => have := HPP.out.2; simp only [List.length_nil]; omega); intro v6 w6 ho hb hg hat; have HO6 := Aside0.mk ho; have HB6 := Aside0.mk hb; clear ho hb hg hat)
              | ((with_reducible refine gate_builtin (b := .append) (xs := #[.tmp 77, .tmp 78]) rfl ?_); at_builtin; refine Kd.R_append_rows (Kd.int .u8) (w0 := w5) w5.heap.size rfl (.tmp 77) (.tmp 78) 23 5 (.int .u8 0) 1 rfl Try.underlying23 info5 rfl (by decide) (by omega) _ ([] ++ P) ys _ _ _ (fun _ => True) (fun _ => False) rfl rfl ?aO ?aR (fun _ _ h => h) (fun _ h => h.elim) ?aF ?aB ?aS ?aL ?_; (case aO => exact HO6.out); (case aR => exact Kd.C_below HY.out.1 (below_step HLW.out.hb (below_step HC5.out HB6.out))); (case aF => exact (fun _ _ => trivial)); (case aB => exact HB6.out); (case aS => exact HB6.out.size); (case aL => have := HQ.out.2.2; simp only [List.nil_append]; omega); intro v7 w7 ho hb hg hat; rw [List.nil_append, HQ.out.1] at ho; obtain ⟨A7, c7, rfl, hc7, hC7⟩ := Kd.R_reads ho; have H7 := Aside0.mk (And.intro hc7 hC7); have HC7 := Aside0.mk (below_step HC5.out hb); have HB7 := Aside0.mk hb; clear ho hb hg hat hc7 hC7)
              | (have hm_ := (HM : Mk_ 1); clear hm_ HM; have HM : Mk_ 2 := rfl; go_at_call 44; refine (HG1.out _ A7 c7 H7.out.2 H7.out.1).mono ?_; rintro e w8 ⟨v8, rfl, hr, hb⟩; obtain ⟨A8, c8, rfl, hc8, hC8⟩ := Kd.R_reads hr; have H8 := Aside0.mk (And.intro hc8 hC8); have HC8 := Aside0.mk (below_step HC7.out hb); have HB8 := Aside0.mk (below_step HB7.out hb); have htk := HTK.out; clear hr hb hc8 hC8)
              | (have hm_ := (HM : Mk_ 2); clear hm_ HM; have HM : Mk_ 3 := rfl; go_at_call 44; refine (HG2.out _ A2 c2 (Kd.C_below HTR.out.1 HB8.out) HTR.out.2).mono ?_; rintro e w9 ⟨v9, rfl, hr, hb⟩; obtain ⟨A9, c9, rfl, hc9, hC9⟩ := Kd.R_reads hr; have HC9 := Aside0.mk (below_step HC8.out hb); have H89 := Aside0.mk (Kd.C_below H8.out.2 hb); clear hr hb hc9 hC9)
              | (have hm_ := (HM : Mk_ 3); clear hm_ HM; have HM : Mk_ 4 := rfl; go_at_call 39; refine (HSP.out _ HC9.out).mono ?_; rintro e wa ⟨va, rfl, hr, hb⟩; obtain ⟨Aa, ca, rfl, hca, hCa⟩ := Kd.R_reads hr; have Ha := Aside0.mk (And.intro hca hCa); have HCa := Aside0.mk (below_step HC9.out hb); have H8a := Aside0.mk (Kd.C_below H89.out hb); clear hr hb hca hCa)
              | (go_at_call 38; refine (RefSame_calls l _ rfl rfl H8a.out Ha.out.2 H8.out.1 Ha.out.1 HLL.out).mono ?_; rintro e wb ⟨rfl, hb⟩; have HCb := Aside0.mk (below_step HCa.out hb); clear hb)
              | (go_at_call 35; refine (Awake_calls _).mono ?_; rintro e wc ⟨rfl, hb⟩; have HCc := Aside0.mk (below_step HCb.out hb); clear hb))
          go_ret
          exact ⟨rfl, below_step HLW.out.hb HCc.out⟩
theorem u16_wf {x : Int} (h : (Lit.int .u16 x).wf = true) : 0 ≤ x ∧ x < 65536 := by
  have := h
  simp [Lit.wf, IntKind.min, IntKind.max, IntKind.signed, IntKind.bits] at this
  omega
end Go.Proofs.Ytiladcdogbeomaa.QRangesPlays
