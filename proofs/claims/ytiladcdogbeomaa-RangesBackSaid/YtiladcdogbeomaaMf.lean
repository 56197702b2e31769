/- Law 17 (ranges): contracts of functions that its statements reach, and plain laws behind them (part 6 of 12). No condition. -/
import Derived.Test.YtiladcdogbeomaaMd
import Derived.Test.YtiladcdogbeomaaMe
import Derived.Test.YtiladcdogbeomaaMc
namespace Go.Proofs.Ytiladcdogbeomaa.QRangesPlays
open Go.RowKit Go.Shelf Go.Proofs.YtiladcdogbeomaaW.PrintWords Go.Proofs.YtiladcdogbeomaaW.PrintLast Go.Proofs.YtiladcdogbeomaaW.PrintMore
open Iter
theorem rdT {l : List S95} {i : Nat} (h : i < l.length) : rd_T95 l (i : Int) = l[i] := by unfold rd_T95; simp [h]
theorem w64s {i : Nat} (h : i < 1152921504606846976) : wrap64 ((i : Int) + 1) = ((i + 1 : Nat) : Int) := by unfold wrap64; omega
theorem mn_min (a b : Int) : mn a b = min a b := by unfold mn; split <;> omega
theorem mx_max (a b : Int) : mx a b = max a b := by unfold mx; split <;> omega
theorem w64i {x : Int} (h : -9223372036854775808 ≤ x ∧ x < 9223372036854775808) : wrap64 x = x := by unfold wrap64; omega
theorem refCount_loop (l : List S95) (hl : l.length < 8796093022208) : ∀ (n i k : Nat) (c : Int), i + n = l.length → n < k → sumpterref17_Set_Count.l0 k c i l = some ((l.drop i).foldl (fun n x => wrap64 (n + cntOne x)) c) := by
  intro n
  induction n with
  | zero =>
    intro i k c hi hk
    obtain ⟨k, rfl⟩ : ∃ m, k = m + 1 := ⟨k - 1, by omega⟩
    unfold sumpterref17_Set_Count.l0
    rw [if_neg (by omega), List.drop_of_length_le (by omega)]; rfl
  | succ n ih =>
    intro i k c hi hk
    obtain ⟨k, rfl⟩ : ∃ m, k = m + 1 := ⟨k - 1, by omega⟩
    unfold sumpterref17_Set_Count.l0
    rw [if_pos (by omega), if_pos (by omega), rdT (by omega), w64s (by omega), ih _ _ _ (by omega) (by omega), List.drop_eq_getElem_cons (by omega : i < l.length), List.foldl_cons]
    rfl
theorem refCount (l : List S95) (hl : l.length < 8796093022208) : sumpterref17_Set_Count.f 8796093022208 l = some (cntF l) := by
  unfold sumpterref17_Set_Count.f
  exact refCount_loop l hl l.length 0 _ 0 (by omega) (by omega)
theorem refSame_loop (l : List S95) (hl : l.length < 8796093022208) : ∀ (n i k : Nat), i + n = l.length → n < k → sumpterref17_Same.l0 k l l i = some true := by
  intro n
  induction n with
  | zero =>
    intro i k hi hk
    obtain ⟨k, rfl⟩ : ∃ m, k = m + 1 := ⟨k - 1, by omega⟩
    unfold sumpterref17_Same.l0
    rw [if_neg (by omega)]
  | succ n ih =>
    intro i k hi hk
    obtain ⟨k, rfl⟩ : ∃ m, k = m + 1 := ⟨k - 1, by omega⟩
    unfold sumpterref17_Same.l0
    rw [if_pos (by omega), if_pos (by omega), if_pos (by omega), if_neg (by simp), w64s (by omega), ih _ _ (by omega) (by omega)]
theorem refSame (l : List S95) (hl : l.length < 8796093022208) : sumpterref17_Same.f 8796093022208 l l = some true := by
  unfold sumpterref17_Same.f
  rw [if_pos rfl]
  exact refSame_loop l hl l.length 0 _ (by omega) (by omega)
theorem refHas_loop (l : List S95) (m : Int) (hl : l.length < 8796093022208) : ∀ (n i k : Nat), i + n = l.length → n < k → sumpterref17_Set_Has.l0 k m i l = some (((l.drop i).map pr).any (tch m m)) := by
  intro n
  induction n with
  | zero =>
    intro i k hi hk
    obtain ⟨k, rfl⟩ : ∃ m, k = m + 1 := ⟨k - 1, by omega⟩
    unfold sumpterref17_Set_Has.l0
    rw [if_neg (by omega), List.drop_of_length_le (by omega)]; rfl
  | succ n ih =>
    intro i k hi hk
    obtain ⟨k, rfl⟩ : ∃ m, k = m + 1 := ⟨k - 1, by omega⟩
    unfold sumpterref17_Set_Has.l0
    rw [if_pos (by omega), if_pos (by omega), rdT (by omega), w64s (by omega), ih _ _ (by omega) (by omega), List.drop_eq_getElem_cons (by omega : i < l.length), List.map_cons, List.any_cons]
    have e : tch m m (pr l[i]) = (decide (m ≤ l[i].f1) && decide (l[i].f0 ≤ m)) := rfl
    rw [e]
    by_cases h1 : l[i].f0 ≤ m
    · by_cases h2 : m ≤ l[i].f1
      · simp [h1, h2]
      · simp [h1, h2]
    · simp [h1]
theorem refHas (l : List S95) (m : Int) (hl : l.length < 8796093022208) : sumpterref17_Set_Has.f 8796093022208 l m = some ((l.map pr).any (tch m m)) := by
  unfold sumpterref17_Set_Has.f
  exact refHas_loop l m hl l.length 0 _ (by omega) (by omega)
theorem refMay (f t : Int) : sumpterref17_May.f f t = some (may f t) := by
  unfold sumpterref17_May.f may
  by_cases h1 : f ≥ 0
  · by_cases h2 : f ≤ t
    · have h3 : 0 ≤ f := h1
      simp [h1, h2, h3]
    · simp [h1, h2]
  · have h3 : ¬ 0 ≤ f := h1
    simp [h3]
theorem refRem_loop (l : List S95) (hl : l.length < 4398046511104) (f t : Int) (hf : 0 ≤ f) (hft : f ≤ t) (ht : t ≤ 1099511627776) : ∀ (n i k : Nat) (acc : List S95), i + n = l.length → n < k → acc.length + 2 * n < 8796093022208 → sumpterref17_Set_Remove.l0 k f t acc i l = some (acc ++ rem f t (l.drop i)) := by
  intro n
  induction n with
  | zero =>
    intro i k acc hi hk hb
    obtain ⟨k, rfl⟩ : ∃ m, k = m + 1 := ⟨k - 1, by omega⟩
    unfold sumpterref17_Set_Remove.l0
    rw [if_neg (by omega), List.drop_of_length_le (by omega)]; simp [rem]
  | succ n ih =>
    intro i k acc hi hk hb
    obtain ⟨k, rfl⟩ : ∃ m, k = m + 1 := ⟨k - 1, by omega⟩
    unfold sumpterref17_Set_Remove.l0
    rw [if_pos (by omega), if_pos (by omega), rdT (by omega : i < l.length), List.drop_eq_getElem_cons (by omega : i < l.length), rem_cons, mn_min, mx_max, w64i (by omega : -9223372036854775808 ≤ f - 1 ∧ f - 1 < 9223372036854775808), w64i (by omega : -9223372036854775808 ≤ t + 1 ∧ t + 1 < 9223372036854775808), w64s (by omega : i < 1152921504606846976)]
    by_cases h1 : l[i].f0 < f
    · by_cases h2 : l[i].f1 > t
      · rw [if_pos h1, if_pos (by omega), Option.bind_some, if_pos h2, if_pos (by simp; omega), ih _ _ _ (by omega) (by omega) (by simp; omega), if_pos h1, if_pos h2]
        simp
      · rw [if_pos h1, if_pos (by omega), Option.bind_some, if_neg h2, ih _ _ _ (by omega) (by omega) (by simp; omega), if_pos h1, if_neg h2]
        simp
    · by_cases h2 : l[i].f1 > t
      · rw [if_neg h1, if_pos h2, if_pos (by omega), ih _ _ _ (by omega) (by omega) (by simp; omega), if_neg h1, if_pos h2]
        simp
      · rw [if_neg h1, if_neg h2, ih _ _ _ (by omega) (by omega) (by omega), if_neg h1, if_neg h2]
        simp
theorem refRem {k : Nat} (l : List S95) (f t : Int) (hl : l.length < 4398046511104) (hk : 4398046511104 ≤ k) (h : may f t = true) : sumpterref17_Set_Remove.f k l f t = some (rem f t l) := by
  unfold sumpterref17_Set_Remove.f
  rw [refMay, Option.bind_some, if_pos h]
  unfold may at h
  simp only [Bool.and_eq_true, decide_eq_true_eq] at h
  exact refRem_loop l hl f t h.1.1 h.1.2 h.2 l.length 0 _ [] (by omega) (by omega) (by simp; omega)
theorem refAdd_loop (l : List S95) (hl : l.length < 4398046511104) (hw : ∀ x ∈ l, 0 ≤ x.f0 ∧ x.f1 ≤ 1099511627776) : ∀ (n i k : Nat) (f t : Int) (a b : List S95), 0 ≤ f → f ≤ 1099511627776 → 0 ≤ t → t ≤ 1099511627776 → i + n = l.length → n < k → a.length + b.length + n + 1 < 8796093022208 → sumpterref17_Set_Add.l0 k f t a b i l = some (addR a b f t (l.drop i)) := by
  intro n
  induction n with
  | zero =>
    intro i k f t a b hf hf2 ht ht2 hi hk hb
    obtain ⟨k, rfl⟩ : ∃ m, k = m + 1 := ⟨k - 1, by omega⟩
    unfold sumpterref17_Set_Add.l0
    rw [if_neg (by omega), List.drop_of_length_le (by omega), if_pos (by omega), Option.bind_some, if_pos (by simp; omega)]; simp [addR]
  | succ n ih =>
    intro i k f t a b hf hf2 ht ht2 hi hk hb
    obtain ⟨k, rfl⟩ : ∃ m, k = m + 1 := ⟨k - 1, by omega⟩
    unfold sumpterref17_Set_Add.l0
    have hx := hw l[i] (List.getElem_mem _)
    rw [if_pos (by omega), if_pos (by omega), rdT (by omega : i < l.length), List.drop_eq_getElem_cons (by omega : i < l.length), mn_min, mx_max, w64i (by omega : -9223372036854775808 ≤ f - 1 ∧ f - 1 < 9223372036854775808), w64i (by omega : -9223372036854775808 ≤ t + 1 ∧ t + 1 < 9223372036854775808), w64s (by omega : i < 1152921504606846976)]
    unfold addR
    by_cases h1 : l[i].f1 < f - 1
    · rw [if_pos h1, if_pos (by omega), ih _ _ _ _ _ _ hf hf2 ht ht2 (by omega) (by omega) (by simp; omega), if_pos h1]
    · by_cases h2 : l[i].f0 > t + 1
      · rw [if_neg h1, if_pos h2, if_pos (by omega), ih _ _ _ _ _ _ hf hf2 ht ht2 (by omega) (by omega) (by simp; omega), if_neg h1, if_pos h2]
      · rw [if_neg h1, if_neg h2, ih _ _ _ _ _ _ (by omega) (by omega) (by omega) (by omega) (by omega) (by omega) (by omega), if_neg h1, if_neg h2]
theorem refAdd (l : List S95) (f t : Int) (hw : wf 0 l) (h : may f t = true) : sumpterref17_Set_Add.f 8796093022208 l f t = some (ins f t l) := by
  have hl : l.length ≤ 549755813890 := by have := wf_len hw (by omega); omega
  unfold sumpterref17_Set_Add.f
  rw [refMay, Option.bind_some, if_pos h]
  unfold may at h
  simp only [Bool.and_eq_true, decide_eq_true_eq] at h
  have := refAdd_loop l (by omega) (fun x hx => ⟨(wf_mem hw x hx).1, (wf_mem hw x hx).2.2⟩) l.length 0 8796093022208 f t [] [] h.1.1 (by omega) (by omega) h.2 (by omega) (by omega) (by simp; omega)
  refine this.trans ?_
  rw [List.drop_zero, addR_ins h.1.2 hw]; rfl
theorem refGaps_loop (l : List S95) (hw : wf 0 l) : ∀ (n i k : Nat) (s : List S95), wf 0 s → i + n = l.length → n + 4398046511104 < k → sumpterref17_Set_Gaps.l0 k i l s = some ((l.drop i).foldl (fun s x => rem x.f0 x.f1 s) s) := by
  have hl : l.length ≤ 549755813890 := by have := wf_len hw (by omega); omega
  intro n
  induction n with
  | zero =>
    intro i k s hs hi hk
    obtain ⟨k, rfl⟩ : ∃ m, k = m + 1 := ⟨k - 1, by omega⟩
    unfold sumpterref17_Set_Gaps.l0
    rw [if_neg (by omega), List.drop_of_length_le (by omega)]; rfl
  | succ n ih =>
    intro i k s hs hi hk
    obtain ⟨k, rfl⟩ : ∃ m, k = m + 1 := ⟨k - 1, by omega⟩
    unfold sumpterref17_Set_Gaps.l0
    have hx := wf_mem hw l[i] (List.getElem_mem _)
    have hsl : s.length ≤ 549755813890 := by have := wf_len hs (by omega); omega
    have hm : may l[i].f0 l[i].f1 = true := by unfold may; simp [hx.1, hx.2.1, hx.2.2]
    rw [if_pos (by omega), if_pos (by omega), rdT (by omega : i < l.length), refRem s _ _ (by omega) (by omega) hm, Option.bind_some, w64s (by omega), List.drop_eq_getElem_cons (by omega : i < l.length), List.foldl_cons]
    exact ih _ _ _ (wf_rem hx.2.1 hs) (by omega) (by omega)
theorem refGaps (l : List S95) (f t : Int) (hw : wf 0 l) : sumpterref17_Set_Gaps.f 8796093022208 l f t = some (gapsL f t l) := by
  have hl : l.length ≤ 549755813890 := by have := wf_len hw (by omega); omega
  unfold sumpterref17_Set_Gaps.f gapsL
  rw [refMay, Option.bind_some]
  by_cases h : may f t = true
  · rw [if_pos h, if_pos h]
    unfold may at h
    simp only [Bool.and_eq_true, decide_eq_true_eq] at h
    have := refGaps_loop l hw l.length 0 8796093022208 [⟨f, t⟩] ⟨h.1.1, h.1.2, h.2, trivial⟩ (by omega) (by omega)
    refine this.trans ?_
    have hg := gps_rem (f := f) (t := t) (l := l) (o := []) (lo := 0) (c := f) hw (Int.le_refl _) (by simp) (.inl rfl) (by simp)
    rw [List.nil_append, List.nil_append, if_pos h.1.2] at hg
    rw [List.drop_zero, hg]
  · rw [if_neg h, if_neg h]
end Go.Proofs.Ytiladcdogbeomaa.QRangesPlays

namespace Go.Proofs.Ytiladcdogbeomaa.QRangesPlays
open Go.RowKit Go.Shelf Go.Proofs.YtiladcdogbeomaaW.PrintWords Go.Proofs.YtiladcdogbeomaaW.PrintLast Go.Proofs.YtiladcdogbeomaaW.PrintMore Go.Proofs.Ytiladcdogbeomaa.RowLaws
attribute [local go_sem] Oper.semAt_some
/-- A set of the reference's: a struct of a slice that reads as these spans. -/
def RS (W : World) (v : Value) (l : List S95) : Prop := ∃ A c, v = .agg #[.slice A l.length c] ∧ l.length ≤ c ∧ Kd.C k95 W A l.length l
theorem RS.below {W W' : World} {v : Value} {l : List S95} (h : RS W v l) (hb : Below W.heap.size W W') : RS W' v l := by
  obtain ⟨A, c, h1, h2, h3⟩ := h
  exact ⟨A, c, h1, h2, Kd.C_below h3 hb⟩
theorem RS.only {W W' : World} {g : Nat} {v : Value} {l m : List S95} (h : RS W v l) (hs : SetAt W g m) (ho : Only g W W') : RS W' v l := by
  obtain ⟨A, c, h1, h2, h3⟩ := h
  exact ⟨A, c, h1, h2, hs.rows ho h3⟩
theorem RS.nil (W : World) : RS W (.agg #[.slice none 0 0]) [] := ⟨none, 0, rfl, Nat.le_refl _, Kd.C_nil _ _⟩
theorem RS.of {W : World} {A : Option Addr} {n c : Nat} {l : List S95} (hn : l.length = n) (hc : n ≤ c) (h : Kd.C k95 W A n l) : RS W (.agg #[.slice A n c]) l := by
  subst hn
  exact ⟨A, c, rfl, hc, h⟩
theorem C_cut {W : World} {A : Option Addr} {n : Nat} {l : List S95} (h : Kd.C k95 W A n l) (c : Nat) : Kd.C k95 W (A.map fun x => x.add (c * 2)) (n - c) (l.drop c) := by
  have h1 := h.1
  have h2 := h.2.1
  refine ⟨by rw [List.length_drop]; omega, by omega, fun hn => ?_⟩
  obtain ⟨ad, hA, hc⟩ := h.2.2 (by omega)
  obtain ⟨b, o, hA2, _, _⟩ := row_at h 0 (by omega)
  rw [hA] at hA2
  injection hA2 with hA2
  subst hA2
  subst hA
  refine ⟨_, rfl, ?_⟩
  intro j p hj
  rw [List.getElem?_drop] at hj
  obtain ⟨cc, h1, h2, h3⟩ := hc (c + j) p hj
  refine ⟨cc, h1, h2, fun i u hu => ?_⟩
  have := h3 i u hu
  have hz : k95.sz = 2 := rfl
  rw [hz, add_off] at this
  rw [hz]
  show W.cell? ((Addr.add ⟨b, o, none⟩ (c * 2)).add (j * 2 + i)) = some u
  rw [add_off, add_off, show o + c * 2 + (j * 2 + i) = o + ((c + j) * 2 + i) by omega]
  exact this
theorem OwnS.rs {W : World} {B : Nat} {v : Value} {l : List S95} (h : OwnS W B v l) : RS W (.agg #[v]) l := by
  obtain ⟨A, c, rfl, h2, h3⟩ := h.reads
  exact ⟨A, c, rfl, h2, h3⟩
theorem RefCount_calls (l : List S95) (v : Value) (w : World) (hR : RS w v l) (hl : l.length < 8796093022208) :
    Calls Try.prog 76 #[v] w fun e w' => e = .returned (.int .i64 (cntF l)) ∧ Below w.heap.size w w' := by
  obtain ⟨A, c, rfl, h2, h3⟩ := hR
  exact sumpterref17_Set_Count.calls _ A c l _ w h3 h2 (refCount l hl)
theorem RefHas_calls (l : List S95) (m : Int) (v : Value) (w : World) (hR : RS w v l) (hl : l.length < 8796093022208) :
    Calls Try.prog 86 #[v, .int .i64 m] w fun e w' => e = .returned (.bool ((l.map pr).any (Iter.tch m m))) ∧ Below w.heap.size w w' := by
  obtain ⟨A, c, rfl, h2, h3⟩ := hR
  exact sumpterref17_Set_Has.calls _ A c l m _ w h3 h2 (refHas l m hl)
theorem RefGaps_calls (l : List S95) (f t : Int) (v : Value) (w : World) (hR : RS w v l) (hw : wf 0 l) :
    Calls Try.prog 87 #[v, .int .i64 f, .int .i64 t] w fun e w' => ∃ u, e = .returned u ∧ OwnS w' w.heap.size u (gapsL f t l) ∧ Below w.heap.size w w' := by
  obtain ⟨A, c, rfl, h2, h3⟩ := hR
  refine (sumpterref17_Set_Gaps.calls _ A c l f t _ w h3 h2 (refGaps l f t hw)).mono ?_
  rintro e w' ⟨u, rfl, ho, hb⟩
  exact ⟨u, rfl, own95 ho, hb⟩
theorem RefSame_calls (l : List S95) {A0 A1 : Option Addr} {c0 c1 n0 n1 : Nat} (w : World) (hn0 : l.length = n0) (hn1 : l.length = n1) (h0 : Kd.C k95 w A0 n0 l) (h1 : Kd.C k95 w A1 n1 l) (hc0 : n0 ≤ c0) (hc1 : n1 ≤ c1) (hl : l.length < 8796093022208) :
    Calls Try.prog 38 #[.slice A0 n0 c0, .slice A1 n1 c1] w fun e w' => e = .returned (.bool true) ∧ Below w.heap.size w w' := by
  subst hn0
  subst hn1
  refine (sumpterref17_Same.calls _ A0 c0 l A1 c1 l true w h0 hc0 h1 hc1 (refSame l hl)).mono ?_
  rintro e w' ⟨rfl, hd⟩
  exact ⟨rfl, hd.below⟩
set_option maxRecDepth 100000 in
set_option maxHeartbeats 4000000 in
theorem RefRem_not (l : List S95) (f t : Int) (v : Value) (w : World) (hR : RS w v l) (hm : may f t = false) :
    Calls Try.prog 77 #[v, .int .i64 f, .int .i64 t] w fun e w' => e = .returned v ∧ Below w.heap.size w w' := by
  obtain ⟨A, c, rfl, h2, h3⟩ := hR
  have hM := fun w => sumpterref17_May.calls f t false w (by rw [refMay, hm])
  go_enter Try.func77, Try.ntmps77
  go_wp2_with (go_at_call 95; refine (hM _).mono ?_; rintro e w' ⟨rfl, ⟨⟨nd, rfl⟩⟩⟩)
  (try simp only [Exit.inBlock, Exit.then])
  refine bodyPost_ret (results_cell_row rfl _ _ (w.heap.size + 1) 80 #[.slice A l.length c] (0, 0) _ rfl ?_ Try.underlying80 rfl (by kernel_rfl)) rfl ?_
  · exact Boxed.set (t := 80) _ (show Boxed _ (w.heap.size + 1) 80 (.slice none 0 0) from new_two _ _ _)
  · exact ⟨rfl, (pw_below_drewN (below_alloc (below_alloc (Below.refl _ _) _) _) nd).setCell (p := ⟨w.heap.size + 1, 0, none⟩) (by show w.heap.size ≤ w.heap.size + 1; omega) _⟩
set_option maxRecDepth 100000 in
set_option maxHeartbeats 4000000 in
theorem RefAdd_not (l : List S95) (f t : Int) (v : Value) (w : World) (hR : RS w v l) (hm : may f t = false) :
    Calls Try.prog 79 #[v, .int .i64 f, .int .i64 t] w fun e w' => e = .returned v ∧ Below w.heap.size w w' := by
  obtain ⟨A, c, rfl, h2, h3⟩ := hR
  have hM := fun w => sumpterref17_May.calls f t false w (by rw [refMay, hm])
  go_enter Try.func79, Try.ntmps79
  go_wp2_with (go_at_call 95; refine (hM _).mono ?_; rintro e w' ⟨rfl, ⟨⟨nd, rfl⟩⟩⟩)
  (try simp only [Exit.inBlock, Exit.then])
  refine bodyPost_ret (results_cell_row rfl _ _ (w.heap.size + 1) 80 #[.slice A l.length c] (0, 0) _ rfl ?_ Try.underlying80 rfl (by kernel_rfl)) rfl ?_
  · exact Boxed.set (t := 80) _ (show Boxed _ (w.heap.size + 1) 80 (.slice none 0 0) from new_two _ _ _)
  · exact ⟨rfl, (pw_below_drewN (below_alloc (below_alloc (Below.refl _ _) _) _) nd).setCell (p := ⟨w.heap.size + 1, 0, none⟩) (by show w.heap.size ≤ w.heap.size + 1; omega) _⟩
theorem RefRem_calls (l : List S95) (f t : Int) (v : Value) (w : World) (hR : RS w v l) (hw : wf 0 l) :
    Calls Try.prog 77 #[v, .int .i64 f, .int .i64 t] w fun e w' => ∃ u, e = .returned u ∧ RS w' u (remL f t l) ∧ Below w.heap.size w w' := by
  unfold remL
  by_cases hm : may f t = true
  · rw [if_pos hm]
    obtain ⟨A, c, rfl, h2, h3⟩ := hR
    have hl : l.length ≤ 549755813890 := by have := wf_len hw (by omega); omega
    refine (sumpterref17_Set_Remove.calls 8796093022208 A c l f t _ w h3 h2 (refRem l f t (by omega) (by omega) hm)).mono ?_
    rintro e w' ⟨u, rfl, ho, hb⟩
    exact ⟨_, rfl, (own95 ho).rs, hb⟩
  · rw [if_neg hm]
    refine (RefRem_not l f t v w hR (by simpa using hm)).mono ?_
    rintro e w' ⟨rfl, hb⟩
    exact ⟨_, rfl, hR.below hb, hb⟩
theorem RefAdd_calls (l : List S95) (f t : Int) (v : Value) (w : World) (hR : RS w v l) (hw : wf 0 l) :
    Calls Try.prog 79 #[v, .int .i64 f, .int .i64 t] w fun e w' => ∃ u, e = .returned u ∧ RS w' u (addL f t l) ∧ Below w.heap.size w w' := by
  unfold addL
  by_cases hm : may f t = true
  · rw [if_pos hm]
    obtain ⟨A, c, rfl, h2, h3⟩ := hR
    refine (sumpterref17_Set_Add.calls 8796093022208 A c l f t _ w h3 h2 (refAdd l f t hw hm)).mono ?_
    rintro e w' ⟨u, rfl, ho, hb⟩
    exact ⟨_, rfl, (own95 ho).rs, hb⟩
  · rw [if_neg hm]
    refine (RefAdd_not l f t v w hR (by simpa using hm)).mono ?_
    rintro e w' ⟨rfl, hb⟩
    exact ⟨_, rfl, hR.below hb, hb⟩
set_option maxRecDepth 100000 in
set_option maxHeartbeats 4000000 in
theorem RefTrim_calls (l : List S95) (m : Int) (v : Value) (w : World) (hR : RS w v l) (hl : l.length < 8796093022208) (hm : m ≤ 9223372036854775807) :
    Calls Try.prog 78 #[v, .int .i64 m] w fun e w' => ∃ u, e = .returned u ∧ RS w' u (l.drop (trimN m l.length)) ∧ Below w.heap.size w w' := by
  obtain ⟨A, cap, rfl, h2, h3⟩ := hR
  obtain ⟨n, hn⟩ : ∃ n, l.length = n := ⟨_, rfl⟩
  obtain ⟨M, hM⟩ : ∃ M : Nat, (if 0 < m then m else 0) = (M : Int) := ⟨m.toNat, by split <;> omega⟩
  have hT : trimN m n = n - M := by unfold trimN; split at hM <;> omega
  have hM2 : (M : Int) ≤ 9223372036854775807 := by split at hM <;> omega
  rw [hn] at hl h2 h3 ⊢
  rw [hT]
  obtain ⟨c, hc⟩ : ∃ c, n - M = c := ⟨_, rfl⟩
  rw [hc]
  have e1 : IntKind.i64.wrap ((n : Int) - (M : Int)) = (n : Int) - (M : Int) := IntWalk.i64_in _ (by omega)
  have e2 : (if 0 < (n : Int) - (M : Int) then (n : Int) - (M : Int) else 0) = (c : Int) := by split <;> omega
  have e2' : (if (M : Int) < (n : Int) then (n : Int) - (M : Int) else 0) = (c : Int) := by split <;> omega
  have e3 : (c : Int) ≤ (n : Int) := by omega
  have e4 : (n : Int) ≤ (cap : Int) := by omega
  have H3 := Aside0.mk h3
  clear h3 hT
  go_enter Try.func78, Try.ntmps78
  have HC := Aside0.mk hc
  clear hc
  go_wp2
  · have e : n - (n - M) = n - c := by rw [HC.out]
    refine bodyPost_ret (results_cell_row rfl _ _ (w.heap.size + 1) 80 #[.slice A (n - (n - M)) 0] (0, 0) _ rfl (new_two _ _ _) Try.underlying80 rfl (by kernel_rfl)) rfl ⟨_, rfl, ?_, below_alloc (below_alloc (Below.refl _ _) _) _⟩
    have hz : n - c = 0 := by have := HC.out; omega
    rw [e]
    refine RS.of (by simp; omega) (by omega) (Kd.C_below ⟨?_, ?_, fun h => absurd h (by omega)⟩ (below_alloc (below_alloc (Below.refl _ _) _) _))
    · rw [List.length_drop]; omega
    · omega
  · refine bodyPost_ret (results_cell_row rfl _ _ (w.heap.size + 1) 80 #[.slice (A.map fun x => x.add ((n - M) * 2)) (n - (n - M)) (cap - (n - M))] (0, 0) _ rfl (new_two _ _ _) Try.underlying80 rfl (by kernel_rfl)) rfl ⟨_, rfl, ?_, below_alloc (below_alloc (Below.refl _ _) _) _⟩
    rw [HC.out]
    exact RS.of (by simp; omega) (by omega) (Kd.C_below (C_cut H3.out c) (below_alloc (below_alloc (Below.refl _ _) _) _))
  · have hz : c = 0 := by have := HC.out; omega
    refine bodyPost_ret (results_cell_row rfl _ _ (w.heap.size + 1) 80 #[.slice A n cap] (0, 0) _ rfl (new_two _ _ _) Try.underlying80 rfl (by kernel_rfl)) rfl ⟨_, rfl, ?_, below_alloc (below_alloc (Below.refl _ _) _) _⟩
    rw [hz, List.drop_zero]
    exact RS.of hn h2 (Kd.C_below H3.out (below_alloc (below_alloc (Below.refl _ _) _) _))
end Go.Proofs.Ytiladcdogbeomaa.QRangesPlays
