/- Law 17 (ranges): contracts of functions that its statements reach, and plain laws behind them (further part 2). No condition. -/
import Derived.Test.YtiladcdogbeomaaMg
namespace Go.Proofs.Ytiladcdogbeomaa.QRangesPlays
open Go.RowKit Go.Proofs.YtiladcdogbeomaaW.PrintWords
open Iter
theorem cnt_bnd {lo : Int} : ∀ {l : List S95}, wf lo l → 0 ≤ lo → 0 ≤ cnt l ∧ (l ≠ [] → cnt l ≤ 1099511627777 - lo)
  | [], _, _ => ⟨by simp [cnt], fun h => absurd rfl h⟩
  | x :: r, ⟨h1, h2, h3, h4⟩, h0 => by
    have := cnt_bnd h4 (by omega)
    rw [cnt_cons]
    refine ⟨by omega, fun _ => ?_⟩
    by_cases hr : r = []
    · subst hr; simp only [cnt]; omega
    · have := this.2 hr; omega
theorem cntF_go : ∀ (l : List S95) (a lo : Int), wf lo l → 0 ≤ lo → 0 ≤ a → a ≤ 1099511627777 → l.foldl (fun n x => wrap64 (n + cntOne x)) a = a + cnt l
  | [], a, _, _, _, _, _ => by simp [cnt]
  | x :: r, a, lo, h, h0, ha, ha2 => by
    have hb := cnt_bnd h h0
    obtain ⟨h1, h2, h3, h4⟩ := h
    have hc := cnt_bnd h4 (by omega)
    have e1 : cntOne x = x.f1 - x.f0 + 1 := by
      unfold cntOne
      rw [show wrap64 (x.f1 - x.f0) = x.f1 - x.f0 from w64i (by omega)]; exact w64i (by omega)
    rw [List.foldl_cons, e1, w64i (by omega), cnt_cons]
    have key : ∀ (l : List S95) (a lo : Int), wf lo l → 0 ≤ lo → 0 ≤ a → a + cnt l ≤ 4611686018427387904 → l.foldl (fun n x => wrap64 (n + cntOne x)) a = a + cnt l := by
      intro l
      induction l with
      | nil => intro a _ _ _ _ _; simp [cnt]
      | cons y s ih =>
        intro a lo ⟨g1, g2, g3, g4⟩ g0 ga gb
        have hc := cnt_bnd g4 (by omega)
        rw [cnt_cons] at gb
        have e1 : cntOne y = y.f1 - y.f0 + 1 := by
          unfold cntOne
          rw [show wrap64 (y.f1 - y.f0) = y.f1 - y.f0 from w64i (by omega)]; exact w64i (by omega)
        rw [List.foldl_cons, e1, w64i (by omega), cnt_cons, ih _ (y.f1 + 2) g4 (by omega) (by omega) (by omega)]
        omega
    have hb2 := hb.2 (by simp)
    rw [cnt_cons] at hb2
    rw [key r _ (x.f1 + 2) h4 (by omega) (by omega) (by omega)]
    omega
theorem cntF_eq {l : List S95} (h : wf 0 l) : cntF l = cnt l := by
  unfold cntF
  rw [cntF_go l 0 0 h (by omega) (by omega) (by omega)]; omega
theorem foldrem {lo : Int} : ∀ (l s : List S95), wf lo s → (∀ x ∈ l, x.f0 ≤ x.f1) → wf lo (l.foldl (fun s x => rem x.f0 x.f1 s) s) ∧ ∀ n, (has (l.foldl (fun s x => rem x.f0 x.f1 s) s) n ↔ has s n ∧ ¬ has l n)
  | [], s, h, _ => ⟨h, fun n => by simp [has]⟩
  | x :: r, s, h, hx => by
    have h1 := hx x (by simp)
    obtain ⟨a, b⟩ := foldrem r (rem x.f0 x.f1 s) (wf_rem h1 h) (fun y hy => hx y (by simp [hy]))
    refine ⟨a, fun n => ?_⟩
    rw [List.foldl_cons, b n, has_rem h1 n h, has_cons]
    constructor
    · rintro ⟨⟨p, q⟩, r⟩; exact ⟨p, by rintro (h | h); exact q h; exact r h⟩
    · rintro ⟨p, q⟩; exact ⟨⟨p, fun h => q (.inl h)⟩, fun h => q (.inr h)⟩
theorem gps_all {f t : Int} {l : List S95} (h0 : 0 ≤ f) (hft : f ≤ t) (ht : t ≤ 1099511627776) (hw : wf 0 l) : wf f (gps f t f l) ∧ ∀ n, (has (gps f t f l) n ↔ (f ≤ n ∧ n ≤ t) ∧ ¬ has l n) := by
  have h := gps_rem (f := f) (t := t) (l := l) (o := []) (lo := 0) (c := f) hw (Int.le_refl _) (by simp) (.inl rfl) (by simp)
  rw [if_pos hft, List.nil_append, List.nil_append] at h
  have := foldrem (lo := f) l [⟨f, t⟩] ⟨Int.le_refl _, hft, ht, trivial⟩ (fun x hx => (wf_mem hw x hx).2.1)
  rw [h] at this
  refine ⟨this.1, fun n => ?_⟩
  rw [this.2 n]
  simp [has]
theorem take_lt {lo : Int} : ∀ {l : List S95}, wf lo l → ∀ k (hk : k < l.length) n, has (l.take k) n → n < l[k].f0
  | [], _, k, hk, _, _ => by simp at hk
  | x :: r, _, 0, _, _, h => by simp [has] at h
  | x :: r, ⟨h1, h2, h3, h4⟩, k + 1, hk, n, h => by
    rw [List.take_succ_cons, has_cons] at h
    simp only [List.getElem_cons_succ]
    rcases h with h | h
    · have := (wf_mem h4 (r[k]'(by simpa using hk)) (List.getElem_mem _)).1; omega
    · exact take_lt h4 k (by simpa using hk) n h
theorem any_has {l : List S95} {m : Int} : (l.map pr).any (tch m m) = true ↔ has l m := by
  rw [List.any_eq_true]
  constructor
  · rintro ⟨z, hz, ht⟩
    obtain ⟨x, hx, rfl⟩ := List.mem_map.1 hz
    rw [tch_pr] at ht
    simp only [Bool.and_eq_true, decide_eq_true_eq] at ht
    exact ⟨x, hx, ht.2, ht.1⟩
  · rintro ⟨x, hx, h1, h2⟩
    exact ⟨pr x, List.mem_map.2 ⟨x, hx, rfl⟩, by rw [tch_pr]; simp [h1, h2]⟩
/-- A gap that is put into a set that holds none of its numbers: nothing to remove, something new. -/
theorem put_gap {f t : Int} {l : List S95} (h0 : 0 ≤ f) (hft : f ≤ t) (ht : t ≤ 1099511627776) (hw : wf 0 l) (hn : ∀ n, f ≤ n → n ≤ t → ¬ has l n) :
    remL f t l = l ∧ addL f t l = ins f t l ∧ wf 0 (ins f t l) ∧ decide (cntF l < cntF (addL f t l)) = true ∧ wrap64 (cntF l - cntF (remL f t l)) = 0 := by
  have hm : may f t = true := by unfold may; simp [h0, hft, ht]
  have e1 : remL f t l = l := by unfold remL; rw [if_pos hm]; exact rem_none hft hw hn
  have e2 : addL f t l = ins f t l := by unfold addL; rw [if_pos hm]
  have hi := wf_ins h0 hft ht hw
  refine ⟨e1, e2, hi, ?_, by rw [e1, Int.sub_self]; exact w64i (by omega)⟩
  rw [e2, cntF_eq hw, cntF_eq hi, cnt_ins hw hft, ov_none hft hw hn]
  simp only [decide_eq_true_eq]; omega
theorem gapsL_nil {f t : Int} {l : List S95} (h0 : 0 ≤ f) (hft : f ≤ t) (ht : t ≤ 1099511627776) (hw : wf 0 l) (ha : ∀ n, f ≤ n → n ≤ t → has l n) : gapsL f t l = [] := by
  unfold gapsL
  split
  · obtain ⟨h1, h2⟩ := gps_all h0 hft ht hw
    cases hg : gps f t f l with
    | nil => rfl
    | cons x r =>
      rw [hg] at h1 h2
      have hx := wf_mem h1 x (by simp)
      have := (h2 x.f0).1 ⟨x, by simp, Int.le_refl _, hx.2.1⟩
      exact absurd (ha _ this.1.1 this.1.2) this.2
  · rfl
end Go.Proofs.Ytiladcdogbeomaa.QRangesPlays
