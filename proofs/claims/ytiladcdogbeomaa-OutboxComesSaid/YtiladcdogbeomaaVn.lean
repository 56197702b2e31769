/- Law 24 (outbox): contracts of functions that its statements reach, and plain laws behind them (part 14). No condition. -/
import Derived.Test.YtiladcdogbeomaaVm
import Derived.Test.YtiladcdogbeomaaVi
namespace Go.Proofs.Ytiladcdogbeomaa.QRangesPlays
open Go.RowKit Go.Shelf Go.Proofs.YtiladcdogbeomaaW.PrintWords
/-- What holds behind i rounds. -/
structure CmI (s : ByteArray) (S : Int) (C A : List S95) (f2 f3 f4 : Bool) (H : Int) (i : Nat) : Prop where
  cov : ∀ n, 0 ≤ n → n < S → has C n ∨ has A n
  fl : (f2 = false ∧ f3 = false ∧ f4 = false) ∨ (f2 = true ∧ S = s.size ∧ f3 = !f4)
  h0 : 0 ≤ H
  h1 : H ≤ s.size
  h3 : f3 = true → H = s.size
  cn : i ≤ 400 ∨ (i : Int) - 400 + ((s.size : Int) - cnt C) + (if f3 = true then 0 else 1) ≤ 301
def finI (s : ByteArray) (f3 : Bool) : Int := if f3 = true then s.size else -1
theorem cmI_new (s : ByteArray) : CmI s 0 [] [] false false false 0 0 := ⟨(fun n h1 h2 => by omega), .inl ⟨rfl, rfl, rfl⟩, Int.le_refl _, (by omega), (fun h => by cases h), .inl (by omega)⟩
theorem cnt_nonneg {l : List S95} (h : wf 0 l) : 0 ≤ cnt l := (cnt_bnd h (Int.le_refl _)).1
section
variable {s : ByteArray} {S : Int} {C A : List S95} {f2 f3 f4 : Bool} {H : Int} {i : Nat}
theorem CmI.lt (h : CmI s S C A f2 f3 f4 H i) (hP : BoxP s S C A) (hs : s.size ≤ 300) : i < 2000 := by
  rcases h.cn with h1 | h1
  · omega
  · have h2 := cnt_range hP.wc (hi := s.size) (by omega) (fun n hn => by have := hP.hc n hn; have := hP.s1; omega)
    split at h1 <;> omega
/-- Where nothing goes, all has come. -/
theorem CmI.stop (h : CmI s S C A f2 f3 f4 H i) (hP : BoxP s S C A) {room : Int} (hr : 1 ≤ room) (hn : lkF s.size S A true f2 f4 room s.size = none) : A = [] ∧ S = s.size ∧ f2 = true ∧ f4 = false ∧ f3 = true ∧ H = s.size ∧ ∀ n, has C n ↔ 0 ≤ n ∧ n < s.size := by
  have hs0 := hP.s0
  have hs1 := hP.s1
  unfold lkF at hn
  split at hn
  · cases hn
  · rename_i hlt
    split at hn
    · cases hn
    · rename_i hc
      have hA : A = [] ∧ S = s.size ∧ lkTo s.size S A room s.size = s.size := by
        cases A with
        | nil =>
          simp only [lkFrom, lkTo, lkTo0] at hlt ⊢
          refine ⟨trivial, ?_⟩
          split at hlt <;> split at hlt <;> (try split at hlt) <;> (try split at hlt) <;> (try split at hlt) <;> (try split) <;> (try split) <;> (try split) <;> omega
        | cons x r =>
          exfalso
          have w2 := (wf_mem hP.wa x (by simp))
          have := (hP.ha x.f1 ⟨x, by simp, w2.2.1, Int.le_refl _⟩).1
          simp only [lkFrom, lkTo, lkTo0] at hlt
          split at hlt <;> (try split at hlt) <;> (try split at hlt) <;> omega
      obtain ⟨rfl, hS, hto⟩ := hA
      have hf : ¬ (f2 = false ∨ f4 = true) := fun e => hc ⟨rfl, rfl, hto, by rw [hto]; exact hS, e⟩
      have e2 : f2 = true := by cases f2 with | true => rfl | false => exact absurd (.inl rfl) hf
      have e4 : f4 = false := by cases f4 with | false => rfl | true => exact absurd (.inr rfl) hf
      have e3 : f3 = true := by
        rcases h.fl with ⟨e, _⟩ | ⟨_, _, e⟩
        · rw [e2] at e; cases e
        · rw [e, e4]; rfl
      refine ⟨rfl, hS, e2, e4, e3, h.h3 e3, fun n => ⟨fun hn => ⟨wf_lo hP.wc hn, by have := hP.hc n hn; omega⟩, fun hn => ?_⟩⟩
      rcases h.cov n hn.1 (by omega) with hh | hh
      · exact hh
      · simp [has] at hh
theorem lkF_more {t : ByteArray} {S : Int} {C A : List S95} {f1 f2 f4 : Bool} {room limit a b : Int} {fin : Bool} (hP : BoxP t S C A) (hr : lkF t.size S A f1 f2 f4 room limit = some (a, b, fin)) : (a = b → fin = true ∧ (f2 = false ∨ f4 = true)) ∧ (∀ n, n < nxS S (some (a, b, fin)) → n < S ∨ (a ≤ n ∧ n < b)) := by
  have hbd := lkTo_bd (room := room) (limit := limit) hP
  have hbd0 := lkTo0_bd (limit := limit) hP
  unfold lkF at hr
  split at hr
  · rename_i hlt
    simp only [Option.some.injEq, Prod.mk.injEq] at hr
    obtain ⟨ha, hb, hf⟩ := hr
    refine ⟨fun e => by omega, fun n hn => ?_⟩
    simp only [nxS] at hn
    split at hn
    · by_cases h : n < S
      · exact .inl h
      · exact .inr (by omega)
    · exact .inl hn
  · split at hr
    · rename_i hc
      simp only [Option.some.injEq, Prod.mk.injEq] at hr
      obtain ⟨ha, hb, hf⟩ := hr
      refine ⟨fun _ => ⟨hf.symm, hc.2.2.2.2⟩, fun n hn => .inl ?_⟩
      simp only [nxS] at hn
      split at hn <;> omega
    · cases hr
/-- What went may be told of. -/
theorem was_went {a b : Int} {fin : Bool} {room limit : Int} (hP : BoxP s S C A) (hr : lkF s.size S A true f2 f4 room limit = some (a, b, fin)) : wasF s (nxS S (some (a, b, fin))) (nxF2 f2 (some (a, b, fin))) a (s.extract a.toNat b.toNat) fin = 0 := by
  obtain ⟨hbd, _, _, _, _, hf⟩ := hP.next hr
  have hsz := ext_size2 s hbd.1 hbd.2.1 hbd.2.2
  have hS := hP.s0
  have hS2 : b ≤ nxS S (some (a, b, fin)) := by simp only [nxS]; split <;> omega
  unfold wasF
  rw [hsz, show a + (b - a) = b by omega, if_neg (by omega), if_neg (by omega), if_neg (by omega), if_neg (by simp)]
  cases fin with
  | false => rfl
  | true =>
    have := (hf rfl).2
    rw [if_neg (by decide), if_neg (by simp [nxF2]), if_neg (by simp [this])]
theorem fl_next {a b : Int} {fin : Bool} {room limit : Int} (hP : BoxP s S C A) (h : CmI s S C A f2 f3 f4 H i) (hr : lkF s.size S A true f2 f4 room limit = some (a, b, fin)) :
    (fin = true → nxS S (some (a, b, fin)) = s.size) ∧ (f2 = true → nxS S (some (a, b, fin)) = s.size) := by
  obtain ⟨hbd, _, _, _, hp2, hf⟩ := hP.next hr
  have hs1 := hP.s1
  refine ⟨fun e => ?_, fun e => ?_⟩
  · have := (hf e).2
    simp only [nxS]; split <;> omega
  · rcases h.fl with ⟨e2, _⟩ | ⟨_, e2, _⟩
    · rw [e] at e2; cases e2
    · simp only [nxS]; split <;> omega
theorem CmI.lost {a b : Int} {fin : Bool} {room limit : Int} (h : CmI s S C A f2 f3 f4 H i) (hP : BoxP s S C A) (hr : lkF s.size S A true f2 f4 room limit = some (a, b, fin)) (hi : i < 400) :
    CmI s (nxS S (some (a, b, fin))) C (lostA (gapsL a (a + ((s.extract a.toNat b.toNat).size : Int) - 1) C) (nxA s A (some (a, b, fin)))) (nxF2 f2 (some (a, b, fin))) f3 ((fin && !f3) || nxF4 f4 (some (a, b, fin))) H (i + 1) := by
  obtain ⟨hbd, hC, _, _, hp2, hf⟩ := hP.next hr
  have hs2 := hP.s2
  have hsz := ext_size2 s hbd.1 hbd.2.1 hbd.2.2
  have hm := lkF_more hP hr
  have hfl := fl_next hP h hr
  refine ⟨fun n h0 h1 => ?_, ?_, h.h0, h.h1, h.h3, .inl (by omega)⟩
  · rw [lost_has hp2 (was_went hP hr) n, hsz]
    by_cases hab : a ≤ n ∧ n < b
    · exact .inr (.inl ⟨⟨hab.1, by omega⟩, hC n hab.1 hab.2⟩)
    · have hn := (hm.2 n h1).resolve_right hab
      rcases h.cov n h0 hn with hh | hh
      · exact .inl hh
      · refine .inr (.inr ?_)
        simp only [nxA]
        rw [has_spanRem hP.wa hbd.1 (by omega), hsz]
        exact ⟨hh, by omega⟩
  · cases fin with
    | false =>
      simp only [nxF2, nxF4, Bool.false_or, Bool.false_and, Bool.not_false, Bool.true_and]
      rcases h.fl with ⟨e1, e2, e3⟩ | ⟨e1, e2, e3⟩
      · exact .inl ⟨e1, e2, e3⟩
      · exact .inr ⟨e1, hfl.2 e1, e3⟩
    | true =>
      simp only [nxF2, nxF4, Bool.true_or, Bool.true_and, Bool.not_true, Bool.false_and, Bool.or_false, Bool.not_not]
      exact .inr ⟨trivial, hfl.1 rfl, by first | trivial | rfl⟩
theorem cnt_spanAdd {off : Int} {d : ByteArray} (h : wf 0 C) (h0 : 0 ≤ off) (h2 : off + (d.size : Int) ≤ 262144) (hn : ∀ n, off ≤ n → n < off + (d.size : Int) → ¬ has C n) : cnt (spanAdd off d C) = cnt C + d.size := by
  unfold spanAdd
  by_cases hz : d.size = 0
  · rw [if_pos hz, hz]; simp
  · rw [if_neg hz]
    have hm : may off (off + (d.size : Int) - 1) = true := by unfold may; simp; omega
    unfold addL
    rw [if_pos hm, cnt_ins h (by omega), ov_none (by omega) h (fun n h1 h2 => hn n h1 (by omega))]
    omega
theorem CmI.ack {a b : Int} {fin : Bool} {room limit : Int} (h : CmI s S C A f2 f3 f4 H i) (hP : BoxP s S C A) (hs : s.size ≤ 300) (hr : lkF s.size S A true f2 f4 room limit = some (a, b, fin)) :
    CmI s (nxS S (some (a, b, fin))) (spanAdd a (s.extract a.toNat b.toNat) C) (spanRem a (s.extract a.toNat b.toNat) (nxA s A (some (a, b, fin)))) (nxF2 f2 (some (a, b, fin))) (fin || f3) (!fin && nxF4 f4 (some (a, b, fin))) (hiL H b) (i + 1) := by
  obtain ⟨hbd, hC, _, _, hp2, hf⟩ := hP.next hr
  have hs2 := hP.s2
  have hsz := ext_size2 s hbd.1 hbd.2.1 hbd.2.2
  have hm := lkF_more hP hr
  have hfl := fl_next hP h hr
  have hcr := cnt_range hP.wc (hi := s.size) (by omega) (fun n hn => by have := hP.hc n hn; have := hP.s1; omega)
  have hcn := cnt_nonneg hP.wc
  have hca := cnt_spanAdd (d := s.extract a.toNat b.toNat) hP.wc hbd.1 (by omega) (fun n h1 h2 => hC n h1 (by omega))
  have hb0 := h.h0
  have hb1 := h.h1
  refine ⟨fun n h0 h1 => ?_, ?_, by unfold hiL; split <;> omega, by unfold hiL; split <;> omega, fun e => ?_, ?_⟩
  · rw [has_spanAdd hP.wc hbd.1 (by omega), hsz]
    by_cases hab : a ≤ n ∧ n < b
    · exact .inl (.inl ⟨hab.1, by omega⟩)
    · have hn := (hm.2 n h1).resolve_right hab
      rcases h.cov n h0 hn with hh | hh
      · exact .inl (.inr hh)
      · refine .inr ?_
        simp only [nxA]
        rw [has_spanRem (wf_spanRem hP.wa) hbd.1 (by omega), has_spanRem hP.wa hbd.1 (by omega), hsz]
        exact ⟨⟨hh, by omega⟩, by omega⟩
  · cases fin with
    | false =>
      simp only [nxF2, nxF4, Bool.false_or, Bool.false_and, Bool.not_false, Bool.true_and]
      rcases h.fl with ⟨e1, e2, e3⟩ | ⟨e1, e2, e3⟩
      · exact .inl ⟨e1, e2, e3⟩
      · exact .inr ⟨e1, hfl.2 e1, e3⟩
    | true =>
      simp only [nxF2, nxF4, Bool.true_or, Bool.not_true, Bool.false_and]
      exact .inr ⟨trivial, hfl.1 rfl, by first | trivial | rfl⟩
  · cases fin with
    | false =>
      have := h.h3 (by simpa using e)
      unfold hiL; split <;> omega
    | true =>
      have := (hf rfl).2
      unfold hiL; split <;> omega
  · by_cases hi : i < 400
    · exact .inl (by omega)
    · right
      rw [hca, hsz]
      have hcnt : (i : Int) - 400 + ((s.size : Int) - cnt C) + (if f3 = true then 0 else 1) ≤ 301 := by
        rcases h.cn with h1 | h1
        · split <;> omega
        · exact h1
      by_cases hab : a = b
      · obtain ⟨e1, e2⟩ := hm.1 hab
        have e3 : f3 = false := by
          rcases h.fl with ⟨_, e, _⟩ | ⟨x1, _, x3⟩
          · exact e
          · rcases e2 with e2 | e2
            · rw [e2] at x1; cases x1
            · rw [x3, e2]; rfl
        rw [e3] at hcnt
        rw [e1]
        simp at hcnt ⊢
        omega
      · cases fin with
        | false => simp only [Bool.false_or]; omega
        | true => simp only [Bool.true_or, if_true]; split at hcnt <;> omega
/-- A set of all numbers below a bound counts them. -/
theorem cnt_full (h : wf 0 C) {z : Int} (hz : 0 ≤ z) (hz2 : z ≤ 262144) (hh : ∀ n, has C n ↔ 0 ≤ n ∧ n < z) : cnt C = z := by
  by_cases h0 : z = 0
  · subst h0
    have : C = [] := by
      cases C with
      | nil => rfl
      | cons x r =>
        have := (hh x.f0).1 ⟨x, by simp, Int.le_refl _, (wf_mem h x (by simp)).2.1⟩
        omega
    rw [this]; rfl
  · have e : C = [⟨0, z - 1⟩] := wf_ext h (lo' := 0) ⟨by simp, by simp; omega, by simp; omega, trivial⟩ (fun n => by
      rw [hh n]
      constructor
      · intro hn; exact ⟨⟨0, z - 1⟩, by simp, hn.1, by show n ≤ z - 1; omega⟩
      · rintro ⟨x, hx, h1, h2⟩
        simp at hx
        subst hx
        simp at h1 h2
        omega)
    rw [e]
    simp [cnt]
theorem waits_no {z : Int} (hz : 0 ≤ z) : isS (lkF z z [] true true false 1 z) = false := by
  have h1 : lkTo z z [] 1 z = z := by
    simp only [lkTo, lkFrom, lkTo0]
    split <;> (try split) <;> (try split) <;> (try split) <;> (try split) <;> omega
  unfold lkF
  rw [h1, if_neg (by simp [lkFrom]), if_neg (by rintro ⟨_, _, _, _, h | h⟩ <;> cases h)]
  rfl
end
end Go.Proofs.Ytiladcdogbeomaa.QRangesPlays

namespace Go.Proofs.Ytiladcdogbeomaa.QRangesPlays
open Go.RowKit Go.Shelf Go.Proofs.YtiladcdogbeomaaW.PrintWords Go.Proofs.YtiladcdogbeomaaW.PrintLast Go.Proofs.YtiladcdogbeomaaW.PrintMore Go.Proofs.Ytiladcdogbeomaa.RowLaws Go.Proofs.Ytiladcdogbeomaa.Lazy
open Go.Maps
attribute [local go_sem] Oper.semAt_some
section
variable {g gm gs : Nat} {w : World} {P : Int → Prop} {T H F : Int} {d : Int → Int} {W W' : World}
/-- put, where it takes in; only the buffer's blocks turn. -/
theorem GSP.putK (h : GSP g gm gs w P T H F d W) (off : Int) (s : ByteArray) (fin : Bool) (hd2 : ∀ x, off ≤ x → x < off + (s.size : Int) → T ≤ x → ¬ P x → s[(x - off).toNat]?.map (fun b => (b.toNat : Int)) = some (d x))
    (h0 : 0 ≤ off) (h1 : off + (s.size : Int) ≤ 30000) (hH : H ≤ 30000) (hf : fitsL H F (off + (s.size : Int)) fin = true) :
    Calls Try.prog 14 #[.pointer (some ⟨g, 0, none⟩), .int .i64 off, .string s, .bool fin] W fun x w' => x = .returned (.int .i64 0) ∧ Tri g gm gs W w' ∧
      GSP g gm gs w (fun n => P n ∨ (off ≤ n ∧ T ≤ n ∧ n < off + (s.size : Int))) T (hiL H (off + (s.size : Int))) (fiL F (off + (s.size : Int)) fin) d w' := by
  obtain ⟨n, l, D, h1', h2, h3⟩ := h.st
  have hc : putC l T H F off s.size fin = 0 := by
    unfold putC
    rw [if_neg (by omega), if_neg (by simp [hf])]
    have f1 := (put_fresh (fr := putF off T (off + (s.size : Int)) l) h2 h0 (show off + (s.size : Int) ≤ 1099511627776 by omega) rfl)
    have f2 := cnt_range (hi := 30000) f1.1 (by omega) (fun n hn => by have := (f1.2 n).1 hn; omega)
    have f3 := cnt_range (hi := 30000) h2.w (by omega) (fun n hn => by have := h2.hin n hn; omega)
    rw [if_neg (by omega)]
  refine (GPut_ok g gm gs n l T H F off s fin D d d W h1' h2 h.n1 h.n2 h.n3 hc (fun _ _ => rfl) (fun x a b c e => hd2 x a b c (fun hp => e ((h3 x).2 hp)))).mono ?_
  rintro x w' ⟨rfl, l', D', k1, k2, k3, k4, k5⟩
  exact ⟨rfl, k4, ⟨_, l', D', k1, k2, fun n => by rw [k3 n, h3 n]⟩, h.dok, tri_low h.hb h.l1 h.l2 h.l3 k5, h.l1, h.l2, h.l3, h.n1, h.n2, h.n3⟩
/-- read, with what turns. -/
theorem GSP.readK (h : GSP g gm gs w P T H F d W) (k : Int) :
    Calls Try.prog 15 #[.pointer (some ⟨g, 0, none⟩), .int .i64 k] W fun x w' => ∃ m : Nat, (∀ r : Int, 0 ≤ r → (∀ x, T ≤ x → x < T + r → P x) → ¬ P (T + r) → (m : Int) = max 0 (min k r)) ∧
      x = .returned (.tuple #[.string ⟨(bytesFrom d T m).toArray⟩, .bool (finB F && ((T + (m : Int)) == finV F))]) ∧ Tri g gm gs W w' ∧ Below w.heap.size w w' := by
  obtain ⟨n, l, D, h1, h2, h3⟩ := h.st
  refine (GRead_calls g gm gs n l T H F D d k W h1 h2 h.dok h.n1 h.n2 h.n3).mono ?_
  rintro x w' ⟨m, l', D', hm, rfl, k1, k2, k3, k4, k5⟩
  refine ⟨m, fun r r0 r1 r2 => ?_, rfl, k4, tri_low h.hb h.l1 h.l2 h.l3 k5⟩
  rw [hm, ready_eq h2.w (fun n hn => (h2.hin n hn).1) r0 (fun x a b => (h3 x).2 (r1 x a b)) (fun hh => r2 ((h3 _).1 hh))]
theorem GSP.other {S : Nat → Prop} (h : GSP g gm gs w P T H F d W) (hk : Kept W W' S) (hS : ∀ q, S q → ∀ i, W.cell? ⟨q, 0, none⟩ ≠ some (.int .i64 i)) (h1 : ¬ S g) (h2 : ¬ S gm) (h3 : ¬ S gs) (hb : Below w.heap.size w W') : GSP g gm gs w P T H F d W' := by
  obtain ⟨n, l, D, k1, k2, k3⟩ := h.st
  exact ⟨⟨n, l, D, k1.far hk hS h1 h2 h3, k2, k3⟩, h.dok, hb, h.l1, h.l2, h.l3, h.n1, h.n2, h.n3⟩
theorem GSP.heads (h : GSP g gm gs w P T H F d W) : ∀ q, (q = g ∨ q = gm ∨ q = gs) → ∀ i, W.cell? ⟨q, 0, none⟩ ≠ some (.int .i64 i) := by
  obtain ⟨n, l, D, k1, k2, k3⟩ := h.st
  rintro q (rfl | rfl | rfl) i e
  · rw [k1.cells.1] at e; cases e
  · rw [cell_map k1.mp] at e; cases e
  · obtain ⟨sv, s1, s2⟩ := k1.set
    obtain ⟨A, c, rfl, _⟩ := s2.slice
    rw [Lib.cell_of_heap s1] at e
    simp at e
theorem GSP.lts (h : GSP g gm gs w P T H F d W) : g < W.heap.size ∧ gm < W.heap.size ∧ gs < W.heap.size := by
  obtain ⟨n, l, D, k1, k2, k3⟩ := h.st
  exact ⟨lt_of_block k1.blk, k1.mp.lt, k1.set.lt⟩
end
section
variable {g gc ga : Nat} {w : World} {t : ByteArray} {S : Int} {C A : List S95} {f1 f2 f3 f4 : Bool} {W W' : World}
theorem OSP.other {T : Nat → Prop} (h : OSP g gc ga w t S C A f1 f2 f3 f4 W) (hk : Kept W W' T) (hS : ∀ q, T q → ∀ i, W.cell? ⟨q, 0, none⟩ ≠ some (.int .i64 i)) (h1 : ¬ T g) (h2 : ¬ T gc) (h3 : ¬ T ga) (hb : Below w.heap.size w W') : OSP g gc ga w t S C A f1 f2 f3 f4 W' :=
  ⟨⟨(hk.2 g (lt_of_block h.bx.blk) h1).trans h.bx.blk, h.bx.sc.far hk hS h2, h.bx.sa.far hk hS h3⟩, h.bp, hb, h.l1, h.l2, h.l3, h.n1, h.n2, h.n3⟩
theorem set_head {W : World} {g : Nat} {l : List S95} (h : SetAt W g l) (i : Int) : W.cell? ⟨g, 0, none⟩ ≠ some (.int .i64 i) := by
  obtain ⟨sv, s1, s2⟩ := h
  obtain ⟨A, c, rfl, _⟩ := s2.slice
  rw [Lib.cell_of_heap s1]
  simp
theorem OSP.heads (h : OSP g gc ga w t S C A f1 f2 f3 f4 W) : ∀ q, O3 g gc ga q → ∀ i, W.cell? ⟨q, 0, none⟩ ≠ some (.int .i64 i) := by
  rintro q (rfl | rfl | rfl) i
  · rw [h.bx.cells.1]; simp
  · exact set_head h.bx.sc i
  · exact set_head h.bx.sa i
theorem OSP.lts (h : OSP g gc ga w t S C A f1 f2 f3 f4 W) : g < W.heap.size ∧ gc < W.heap.size ∧ ga < W.heap.size := ⟨lt_of_block h.bx.blk, h.bx.sc.lt, h.bx.sa.lt⟩
end
/-- Both sides: a box, a buffer, apart from one another. -/
structure Both (g gc ga b bm bs : Nat) (w : World) (s : ByteArray) (S : Int) (C A : List S95) (f1 f2 f3 f4 : Bool) (P : Int → Prop) (H F : Int) (W : World) : Prop where
  o : OSP g gc ga w s S C A f1 f2 f3 f4 W
  p : GSP b bm bs w P 0 H F (dT s) W
  ne : ∀ q, O3 g gc ga q → ¬ (q = b ∨ q = bm ∨ q = bs)
section
variable {g gc ga b bm bs : Nat} {w : World} {s : ByteArray} {S S' : Int} {C A C' A' : List S95} {f1 f2 f3 f4 e1 e2 e3 e4 : Bool} {P P' : Int → Prop} {H F H' F' : Int} {W W' : World}
theorem Both.below (h : Both g gc ga b bm bs w s S C A f1 f2 f3 f4 P H F W) (hb : Below W.heap.size W W') : Both g gc ga b bm bs w s S C A f1 f2 f3 f4 P H F W' := ⟨h.o.below hb, h.p.below hb, h.ne⟩
theorem Both.box (h : Both g gc ga b bm bs w s S C A f1 f2 f3 f4 P H F W) (hx : OSP g gc ga w s S' C' A' e1 e2 e3 e4 W') (ho : On (O3 g gc ga) W W') : Both g gc ga b bm bs w s S' C' A' e1 e2 e3 e4 P H F W' :=
  ⟨hx, h.p.other ho.kept h.o.heads (fun e => h.ne b e (.inl rfl)) (fun e => h.ne bm e (.inr (.inl rfl))) (fun e => h.ne bs e (.inr (.inr rfl))) hx.hb, h.ne⟩
theorem Both.buf (h : Both g gc ga b bm bs w s S C A f1 f2 f3 f4 P H F W) (hx : GSP b bm bs w P' 0 H' F' (dT s) W') (ho : Tri b bm bs W W') : Both g gc ga b bm bs w s S C A f1 f2 f3 f4 P' H' F' W' :=
  ⟨h.o.other ho h.p.heads (h.ne g (.inl rfl)) (h.ne gc (.inr (.inl rfl))) (h.ne ga (.inr (.inr rfl))) hx.hb, hx, h.ne⟩
end
/-- A row of bools. -/
def BoolRow (W : World) (A : Option Addr) (ys : List Bool) : Prop := ∀ i (h : i < ys.length), ∃ b o, A = some ⟨b, o, none⟩ ∧ W.cell? ⟨b, o + i, none⟩ = some (.bool ys[i])
end Go.Proofs.Ytiladcdogbeomaa.QRangesPlays

namespace Go.Proofs.Ytiladcdogbeomaa.QRangesPlays
open Go.RowKit Go.Shelf Go.Proofs.YtiladcdogbeomaaW.PrintWords Go.Proofs.YtiladcdogbeomaaW.PrintLast Go.Proofs.YtiladcdogbeomaaW.PrintMore Go.Proofs.Ytiladcdogbeomaa.RowLaws Go.Proofs.Ytiladcdogbeomaa.Lazy
attribute [local go_sem] Oper.semAt_some
/-- The worlds of the loop, behind i rounds. -/
def CmW (g gc ga b bm bs : Nat) (w : World) (s : ByteArray) (i : Nat) (W : World) : Prop := ∃ S C A f2 f3 f4 H, Both g gc ga b bm bs w s S C A true f2 f3 f4 (has C) H (finI s f3) W ∧ CmI s S C A f2 f3 f4 H i
theorem CmW.below {g gc ga b bm bs : Nat} {w : World} {s : ByteArray} {i : Nat} {W W' : World} (h : CmW g gc ga b bm bs w s i W) (hb : Below W.heap.size W W') : CmW g gc ga b bm bs w s i W' := by
  obtain ⟨S, C, A, f2, f3, f4, H, h1, h2⟩ := h
  exact ⟨S, C, A, f2, f3, f4, H, h1.below hb, h2⟩
section
variable {g gc ga b bm bs : Nat} {w : World} {s : ByteArray} {S : Int} {C A : List S95} {f2 f3 f4 : Bool} {H : Int} {W : World}
/-- All is read. -/
theorem cm_read (h : Both g gc ga b bm bs w s S C A true f2 f3 f4 (has C) H (finI s f3) W) (h3 : f3 = true) (hs : s.size ≤ 300) (hP : ∀ n, has C n ↔ 0 ≤ n ∧ n < s.size) :
    Calls Try.prog 15 #[.pointer (some ⟨b, 0, none⟩), .int .i64 1000] W fun x w' => x = .returned (.tuple #[.string s, .bool true]) ∧ OSP g gc ga w s S C A true f2 f3 f4 w' := by
  refine (h.p.readK 1000).mono ?_
  rintro x w' ⟨m, hm, rfl, k1, k2⟩
  have h1 : (m : Int) = s.size := by rw [hm s.size (by omega) (fun x a b => (hP x).2 ⟨a, by omega⟩) (fun hh => by have := (hP _).1 hh; omega)]; omega
  have h2 : m = s.size := by omega
  refine ⟨?_, h.o.other k1 h.p.heads (h.ne g (.inl rfl)) (h.ne gc (.inr (.inl rfl))) (h.ne ga (.inr (.inr rfl))) k2⟩
  rw [h3, show finI s true = (s.size : Int) from rfl, finB_nat, finV_nat, h1, Int.zero_add, beq_self_eq_true]
  have hb := bytes_ext s 0 m (by omega)
  rw [show (((0 : Nat) : Int)) = 0 from rfl] at hb
  rw [hb, h2, Nat.zero_add]
  have : s.extract 0 s.size = s := by have h := ext_all s 0 (by omega); rw [ext_nil] at h; exact (by apply ByteArray.ext; have := congrArg ByteArray.data h; simp at this ⊢)
  rw [this]
  rfl
theorem GSP.newK (hb : Below w.heap.size w W) (d : Int → Int) (hd : DOk d) : Calls Try.prog 13 #[] W fun x w' => ∃ g gm gs, x = .returned (.pointer (some ⟨g, 0, none⟩)) ∧ GSP g gm gs w (has []) 0 0 (-1) d w' ∧ Below W.heap.size W w' ∧ W.heap.size ≤ g ∧ W.heap.size ≤ gm ∧ W.heap.size ≤ gs := by
  refine (GNew_calls W).mono ?_
  rintro x w' ⟨g, gm, gs, rfl, h1, h2, h3, h4, h5, h6, h7, h8⟩
  have hs := hb.size
  exact ⟨g, gm, gs, rfl, ⟨⟨0, [], _, h1, ⟨gat_new.w, gat_new.hin, gat_new.b0, gat_new.b1, gat_new.b2, gat_new.fin, gat_new.ty, gat_new.key, gat_new.sz, fun n h => by simp [has] at h⟩, fun n => Iff.rfl⟩, hd, below_step hb h2, by omega, by omega, by omega, h8, h7, h6⟩, h2, h3, h4, h5⟩
theorem both_start {T1 T2 : ByteArray} {W1 : World} (h : OSP g gc ga w T1 S C A false f2 f3 f4 W1) (k : GSP b bm bs w (has []) 0 0 (-1) (dT T2) W) (hb : Below W1.heap.size W1 W) (j1 : W1.heap.size ≤ b) (j2 : W1.heap.size ≤ bm) (j3 : W1.heap.size ≤ bs) :
    OSP g gc ga w T1 S C A false f2 f3 f4 W ∧ GSP b bm bs w (has []) 0 0 (-1) (dT T2) W ∧ ∀ q, O3 g gc ga q → ¬ (q = b ∨ q = bm ∨ q = bs) := by
  have hl := h.lts
  refine ⟨h.below hb, k, ?_⟩
  rintro q (rfl | rfl | rfl) (e | e | e) <;> omega
theorem both_write {T1 : ByteArray} {W' : World} {e2 e3 e4 : Bool} {S' : Int} {C' A' : List S95} (h : OSP g gc ga w T1 S C A false f2 f3 f4 W) (k : GSP b bm bs w (has []) 0 0 (-1) (dT s) W) (ne : ∀ q, O3 g gc ga q → ¬ (q = b ∨ q = bm ∨ q = bs)) (hx : OSP g gc ga w s S' C' A' false e2 e3 e4 W') (ho : On (O3 g gc ga) W W') :
    Both g gc ga b bm bs w s S' C' A' false e2 e3 e4 (has []) 0 (-1) W' :=
  ⟨hx, k.other ho.kept h.heads (fun e => ne b e (.inl rfl)) (fun e => ne bm e (.inr (.inl rfl))) (fun e => ne bs e (.inr (.inr rfl))) hx.hb, ne⟩
theorem cm_write (h : OSP g gc ga w ⟨#[]⟩ 0 [] [] false false false false W) (hs : s.size ≤ 300) : Calls Try.prog 21 #[.pointer (some ⟨g, 0, none⟩), .string s] W fun e w' => e = .returned (.int .i64 0) ∧ OSP g gc ga w s 0 [] [] false false false false w' ∧ On (O3 g gc ga) W w' := by
  have hw0 : writeF ⟨#[]⟩ false s = 0 := by unfold writeF; rw [if_neg (by decide), if_neg (by show ¬ (262144 - ((0 : Nat) : Int) < _); omega)]
  have he : (⟨#[]⟩ : ByteArray) ++ s = s := by apply ByteArray.ext; simp
  have := h.write s
  rwa [hw0, if_pos rfl, he] at this
theorem cm_done {f1 : Bool} (h : OSP g gc ga w s S C A f1 f2 f3 f4 W) (h3 : f3 = true) (hP : ∀ n, has C n ↔ 0 ≤ n ∧ n < s.size) : Calls Try.prog 54 #[.pointer (some ⟨g, 0, none⟩)] W fun e w' => e = .returned (.bool true) ∧ Below W.heap.size W w' := by
  have := h.done
  rwa [h3, cnt_full h.bp.wc (z := s.size) (by omega) (by have := h.bp.s2; omega) hP, beq_self_eq_true] at this
theorem cm_waits (h : OSP g gc ga w s S C A true f2 f3 f4 W) (hA : A = []) (hS : S = s.size) (h2 : f2 = true) (h4 : f4 = false) : Calls Try.prog 55 #[.pointer (some ⟨g, 0, none⟩), .int .i64 (s.size : Int)] W fun e w' => e = .returned (.bool false) ∧ Below W.heap.size W w' := by
  have := h.waits (s.size : Int)
  rwa [hA, hS, h2, h4, waits_no (by omega)] at this
/-- What goes is taken in. -/
theorem cm_put {a z : Int} {fin : Bool} {i : Nat} {room : Int} (hi : CmI s S C A f2 f3 f4 H i) (hs : s.size ≤ 300) (hP : BoxP s S C A) (hr : lkF s.size S A true f2 f4 room s.size = some (a, z, fin)) {S2 : Int} {A2 : List S95} {e2 e4 : Bool}
    (h : Both g gc ga b bm bs w s S2 C A2 true e2 f3 e4 (has C) H (finI s f3) W) :
    Calls Try.prog 14 #[.pointer (some ⟨b, 0, none⟩), .int .i64 a, .string (s.extract a.toNat z.toNat), .bool fin] W fun x w' => x = .returned (.int .i64 0) ∧ Tri b bm bs W w' ∧
      Both g gc ga b bm bs w s S2 C A2 true e2 f3 e4 (has (spanAdd a (s.extract a.toNat z.toNat) C)) (hiL H z) (finI s (fin || f3)) w' := by
  obtain ⟨hbd, hC, _, _, hp2, hf⟩ := hP.next hr
  have hsz := ext_size2 s hbd.1 hbd.2.1 hbd.2.2
  have h0 := hi.h0
  have h1 := hi.h1
  have hfit : fitsL H (finI s f3) (a + ((s.extract a.toNat z.toNat).size : Int)) fin = true := by
    rw [hsz, show a + (z - a) = z by omega]
    unfold fitsL finI
    cases f3 with
    | true =>
      simp only [if_true]
      rw [if_neg (by omega)]
      cases fin with
      | false => simp; omega
      | true => have := (hf rfl).2; simp; omega
    | false =>
      simp only [Bool.false_eq_true, if_false, if_true]
      cases fin with
      | false => rfl
      | true => have := (hf rfl).2; simp; omega
  refine (h.p.putK a (s.extract a.toNat z.toNat) fin ?_ hbd.1 (by rw [hsz]; omega) (by omega) hfit).mono ?_
  · intro x b1 b2 b3 b4
    rw [hsz] at b2
    rw [ext_at s _ _ _ (by omega) (by omega), show a.toNat + (x - a).toNat = x.toNat by omega]
    exact dT_at s x (by omega) (by omega)
  · rintro x w' ⟨rfl, k1, k2⟩
    refine ⟨rfl, k1, h.buf ?_ k1⟩
    have e1 : fiL (finI s f3) (a + ((s.extract a.toNat z.toNat).size : Int)) fin = finI s (fin || f3) := by
      rw [hsz, show a + (z - a) = z by omega]
      unfold fiL
      cases fin with
      | false => simp
      | true => have := (hf rfl).2; simp [finI, this]
    rw [e1, hsz, show a + (z - a) = z by omega] at k2
    refine k2.is (fun n => ?_)
    rw [has_spanAdd hP.wc hbd.1 (by omega), hsz]
    constructor
    · rintro (hh | hh)
      · exact .inr ⟨hh.1, by omega, by omega⟩
      · exact .inl hh
    · rintro (hh | hh)
      · exact .inr hh
      · exact .inl ⟨hh.1, by omega⟩
end
set_option maxRecDepth 100000 in
set_option maxHeartbeats 2000000 in
theorem Comes_walk (s : ByteArray) (rm : Int) (A : Option Addr) (c : Nat) (ys : List Bool) (w : World) (hrm : 0 ≤ rm ∧ rm < 256) (hY : BoolRow w A ys) (_hc : ys.length ≤ c) :
    Calls Try.prog 11 #[.string s, .int .u8 rm, .slice A ys.length c] w fun e w' => e = .returned (.bool true) ∧ Below w.heap.size w w' := by
  have HY := Aside0.mk hY
  obtain ⟨k, hk⟩ : ∃ k, ys.length = k := ⟨_, rfl⟩
  have HK := Aside0.mk hk
  rw [hk]
  clear hY hk
  by_cases h5 : 300 < s.size
  · have e1 : (300 : Int) < (s.size : Int) := by omega
    go_enter Try.func11, Try.ntmps11
    go_wp2_with (go_at_call 19; refine (OAwake_calls _).mono ?_; rintro e w9 ⟨rfl, hb⟩; have HB9 := Aside0.mk hb; clear hb)
    go_ret
    exact ⟨rfl, HB9.out⟩
  · have e1 : ¬ (300 : Int) < (s.size : Int) := by omega
    by_cases h6 : 400 < k
    · have e2 : (400 : Int) < (k : Int) := by omega
      go_enter Try.func11, Try.ntmps11
      go_wp2_with (go_at_call 19; refine (OAwake_calls _).mono ?_; rintro e w9 ⟨rfl, hb⟩; have HB9 := Aside0.mk hb; clear hb)
      go_ret
      exact ⟨rfl, HB9.out⟩
    · have e2 : ¬ (400 : Int) < (k : Int) := by omega
      have HS3 := Aside0.mk (show s.size ≤ 300 by omega)
      have HK4 := Aside0.mk (show k ≤ 400 by omega)
      have q0 : IntKind.i64.wrap rm = rm := IntWalk.i64_in _ (by omega)
      obtain ⟨md, hmd⟩ : ∃ md, Int.tmod rm 40 = md := ⟨_, rfl⟩
      have hmb : 0 ≤ md ∧ md < 40 := by rw [← hmd, Int.tmod_eq_emod_of_nonneg hrm.1]; omega
      have q1 : IntKind.i64.wrap md = md := IntWalk.i64_in _ (by omega)
      obtain ⟨nn, hnn⟩ : ∃ nn, 1 + md = nn := ⟨_, rfl⟩
      have q2 : IntKind.i64.wrap (1 + md) = nn := by rw [IntWalk.i64_in _ (by omega), hnn]
      have HNN := Aside0.mk (show 1 ≤ nn ∧ nn ≤ 40 by omega)
      clear hnn
      go_enter Try.func11, Try.ntmps11
      go_wp2_with (first
        | (go_at_call 20; refine (OSP.new (Below.refl _ _)).mono ?_; rintro e w1 ⟨g, gc, ga, rfl, hs, -⟩; have H1 := Aside0.mk hs; clear hs)
        | (go_at_call 13; refine (GSP.newK H1.out.hb (dT s) (dT_ok s)).mono ?_; rintro e w2 ⟨b, bm, bs, rfl, hs, hb, j1, j2, j3⟩; have H2 := Aside0.mk (both_start H1.out hs hb j1 j2 j3); clear hs hb j1 j2 j3)
        | (go_at_call 21; refine (cm_write H2.out.1 HS3.out).mono ?_; rintro e w3 ⟨rfl, hx, ho⟩; have H3 := Aside0.mk (both_write H2.out.1 H2.out.2.1 H2.out.2.2 hx ho); clear hx ho)
        | (go_at_call 52; refine H3.out.o.finish.mono ?_; rintro e w4 ⟨rfl, hx, ho⟩; have H4 := Aside0.mk (H3.out.box hx ho); clear hx ho))
      go_loopw [10] (fun iv wr => ∃ i : Nat, iv = .int .i64 i ∧ Aside0 (CmW g gc ga b bm bs w s i wr)) (fun iv _ => 2000 - (intOf iv).toNat)
      case atStart => exact ⟨0, rfl, ⟨0, [], [], false, false, false, 0, H4.out, cmI_new s⟩⟩
      case round =>
        obtain ⟨i, rfl, HI⟩ := hrel
        obtain ⟨S, C, A2, f2, f3, f4, H, hbo, hci⟩ := HI.out
        have hlt := hci.lt hbo.o.bp HS3.out
        have hlt2 : (i : Int) < 2000 := by omega
        have HBO := Aside0.mk hbo
        have HCI := Aside0.mk hci
        have e4 : IntKind.i64.wrap ((i : Int) + 1) = (i : Int) + 1 := IntWalk.i64_in _ (by omega)
        obtain ⟨r, hr⟩ : ∃ r, lkF s.size S A2 true f2 f4 nn s.size = r := ⟨_, rfl⟩
        have HR := Aside0.mk hr
        clear HI hbo hci q0 q1 q2
        cases r with
        | none =>
          obtain ⟨hA, hS, hf2, hf4, hf3, hH, hP⟩ := HCI.out.stop HBO.out.o.bp HNN.out.1 hr
          have HP := Aside0.mk hP
          have HEQ := Aside0.mk (And.intro hA (And.intro hS (And.intro hf2 (And.intro hf4 (And.intro hf3 hH)))))
          clear hr hA hS hf2 hf4 hf3 hH hP
          go_wp2_with (first
            | (go_at_call 24; refine (HBO.out.o.next nn (s.size : Int) _ HR.out).mono ?_; simp only [lkRet]; rintro e w3 ⟨rfl, hx, ho⟩; have HX3 := Aside0.mk ((HBO.out.box hx ho).below (below_alloc (Below.refl _ _) (chV 0 ⟨#[]⟩ false))); clear hx ho)
            | (go_at_call 15; refine (cm_read HX3.out HEQ.out.2.2.2.2.1 HS3.out HP.out).mono ?_; rintro e w5 ⟨rfl, hx⟩; have HX5 := Aside0.mk hx; clear hx)
            | (go_at_call 54; refine (cm_done HX5.out HEQ.out.2.2.2.2.1 HP.out).mono ?_; rintro e w6 ⟨rfl, hb⟩; have HX6 := Aside0.mk (HX5.out.below hb); clear hb)
            | (go_at_call 55; refine (cm_waits HX6.out HEQ.out.1 HEQ.out.2.1 HEQ.out.2.2.1 HEQ.out.2.2.2.1).mono ?_; rintro e w7 ⟨rfl, hb⟩; have HX7 := Aside0.mk (below_step HX6.out.hb hb); clear hb)
            | (go_at_call 19; refine (OAwake_calls _).mono ?_; rintro e w9 ⟨rfl, hb⟩; have HB9 := Aside0.mk (below_step HX7.out hb); clear hb))
          go_ret
          exact ⟨rfl, HB9.out⟩
        | some x =>
          obtain ⟨a, z, fin⟩ := x
          obtain ⟨hbd, _, hroom, _, _, _⟩ := HBO.out.o.bp.next hr
          obtain ⟨d, hd⟩ : ∃ d, s.extract a.toNat z.toNat = d := ⟨_, rfl⟩
          have HD := Aside0.mk hd
          have hsz := ext_size2 s hbd.1 hbd.2.1 hbd.2.2
          rw [hd] at hsz
          have hdn : ¬ (nn < (d.size : Int)) := by have := HNN.out; omega
          clear hr hd hbd hroom hsz
          go_wp2_with (go_at_call 24; refine (HBO.out.o.next nn (s.size : Int) _ HR.out).mono ?_; simp only [lkRet, HD.out]; rintro e w3 ⟨rfl, hx, ho⟩; have HX3 := Aside0.mk (HBO.out.box hx ho); clear hx ho; refine park ?_)
          have hbA := below_alloc (Below.refl w3.heap.size w3) (chV a d fin)
          have hn := heap_alloc_new w3 (chV a d fin)
          have HX4 := Aside0.mk (HX3.out.below hbA)
          have HNE := Aside0.mk (show (w3.heap.size ≠ g ∧ w3.heap.size ≠ gc ∧ w3.heap.size ≠ ga) ∧ ¬ (w3.heap.size = b ∨ w3.heap.size = bm ∨ w3.heap.size = bs) from by have h1 := HX3.out.o.lts; have h2 := HX3.out.p.lts; exact ⟨by omega, by omega⟩)
          have HCH := Aside0.mk hn
          clear hbA hn
          by_cases hik : i < k
          · have hik2 : (i : Int) < (k : Int) := by omega
            obtain ⟨b0, o0, rfl, hy⟩ := HY.out i (by have := HK.out; omega)
            have hy2 := (HX4.out.o.hb.cell (World.block_lt_of_cell? _ _ hy)).trans hy
            generalize ys[i]'(by have := HK.out; omega) = yv at *
            clear hy
            cases yv with
            | true =>
              refine ⟨?_⟩
              go_wp2_with (go_at_call 53; refine (HX4.out.o.lost a d fin 0 (by rw [← HD.out]; exact was_went HBO.out.o.bp HR.out)).mono ?_; rintro e w6 ⟨rfl, ho, -, hx⟩; have HX6 := Aside0.mk (HX4.out.box (hx rfl) ho); clear ho hx)
              go_roundw
              case rel => first | exact ⟨i + 1, by simp, ⟨_, _, _, _, _, _, _, HX6.out, by have := HCI.out.lost HBO.out.o.bp HR.out (by have := HK4.out; omega); rwa [HD.out] at this⟩⟩ | ((repeat apply Exists.intro); exact ⟨⟨i + 1, by simp, ⟨_, _, _, _, _, _, _, HX6.out, by have := HCI.out.lost HBO.out.o.bp HR.out (by have := HK4.out; omega); rwa [HD.out] at this⟩⟩, rfl⟩)
              case measure => simp [intOf]; omega
            | false =>
              refine ⟨?_⟩
              go_wp2_with (go_at_call 14; have hcp := cm_put HCI.out HS3.out HBO.out.o.bp HR.out HX4.out; rw [HD.out] at hcp; refine hcp.mono ?_; clear hcp; rintro e w5 ⟨rfl, hk, hx⟩; have HX5 := Aside0.mk hx; have HC5 := Aside0.mk ((hk.2 w3.heap.size (lt_of_block HCH.out) HNE.out.2).trans HCH.out); clear hk hx; refine park ?_)
              obtain ⟨kx0, kx1, kx2⟩ := chunk_cell HC5.out
              refine ⟨?_⟩
              go_wp2_with (go_at_call 27; refine (HX5.out.o.ack a d fin 0 (by rw [← HD.out]; exact was_went HBO.out.o.bp HR.out)).mono ?_; rintro e w6 ⟨rfl, ho, -, hx⟩; have HX6 := Aside0.mk (HX5.out.box (hx rfl) ho); have HC6 := keep3 ho HC5.out HNE.out.1.1 HNE.out.1.2.1 HNE.out.1.2.2; obtain ⟨lx0, lx1, lx2⟩ := chunk_cell HC6; clear ho hx HC6)
              go_roundw
              case rel => first | exact ⟨i + 1, by simp, ⟨_, _, _, _, _, _, _, HX6.out, by have := HCI.out.ack HBO.out.o.bp HS3.out HR.out; rwa [HD.out] at this⟩⟩ | ((repeat apply Exists.intro); exact ⟨⟨i + 1, by simp, ⟨_, _, _, _, _, _, _, HX6.out, by have := HCI.out.ack HBO.out.o.bp HS3.out HR.out; rwa [HD.out] at this⟩⟩, rfl⟩)
              case measure => simp [intOf]; omega
          · have hik2 : ¬ (i : Int) < (k : Int) := by omega
            refine ⟨?_⟩
            go_wp2_with (go_at_call 14; have hcp := cm_put HCI.out HS3.out HBO.out.o.bp HR.out HX4.out; rw [HD.out] at hcp; refine hcp.mono ?_; clear hcp; rintro e w5 ⟨rfl, hk, hx⟩; have HX5 := Aside0.mk hx; have HC5 := Aside0.mk ((hk.2 w3.heap.size (lt_of_block HCH.out) HNE.out.2).trans HCH.out); clear hk hx; refine park ?_)
            obtain ⟨kx0, kx1, kx2⟩ := chunk_cell HC5.out
            refine ⟨?_⟩
            go_wp2_with (go_at_call 27; refine (HX5.out.o.ack a d fin 0 (by rw [← HD.out]; exact was_went HBO.out.o.bp HR.out)).mono ?_; rintro e w6 ⟨rfl, ho, -, hx⟩; have HX6 := Aside0.mk (HX5.out.box (hx rfl) ho); have HC6 := keep3 ho HC5.out HNE.out.1.1 HNE.out.1.2.1 HNE.out.1.2.2; obtain ⟨lx0, lx1, lx2⟩ := chunk_cell HC6; clear ho hx HC6)
            go_roundw
            case rel => first | exact ⟨i + 1, by simp, ⟨_, _, _, _, _, _, _, HX6.out, by have := HCI.out.ack HBO.out.o.bp HS3.out HR.out; rwa [HD.out] at this⟩⟩ | ((repeat apply Exists.intro); exact ⟨⟨i + 1, by simp, ⟨_, _, _, _, _, _, _, HX6.out, by have := HCI.out.ack HBO.out.o.bp HS3.out HR.out; rwa [HD.out] at this⟩⟩, rfl⟩)
            case measure => simp [intOf]; omega
end Go.Proofs.Ytiladcdogbeomaa.QRangesPlays

namespace Go.Proofs.Ytiladcdogbeomaa.Acts
open Go.RowKit Go.Proofs.Ytiladcdogbeomaa.Opens Go.Proofs.YtiladcdogbeomaaW.PrintWords Go.Proofs.Ytiladcdogbeomaa.QRangesPlays
def okBools (xs : List Bool) : Prop := xs.length ≤ 9223372036854775807 ∧ ∀ x ∈ xs, (fun _ => True) x
theorem opens44 : Opens Try.prog 44 (Kd.slice 4 Kd.bool) okBools := opens_slice Try.underlying44 (by kernel_rfl) (opens_bool Try.underlying4)
theorem boolRow_of {W : World} {A : Option Addr} {n : Nat} {l : List Bool} (h : Kd.C Kd.bool W A n l) : BoolRow W A l := by
  have hz : Kd.bool.sz = 1 := rfl
  have key : ∀ j (hj : j < l.length), ∃ ad, A = some ad ∧ W.cell? (ad.add j) = some (.bool l[j]) := by
    intro j hj
    obtain ⟨ad, rfl, hc⟩ := h.2.2 (by have := h.1; omega)
    obtain ⟨c, hl, hx, hcell⟩ := hc j l[j] (List.getElem?_eq_getElem hj)
    have hx' : c = [.bool l[j]] := hx
    subst hx'
    have e0 := hcell 0 (.bool l[j]) rfl
    rw [hz] at e0
    exact ⟨ad, rfl, by simpa using e0⟩
  intro i hi
  obtain ⟨ad, hA, z0⟩ := key 0 (by omega)
  have hsp : ad.spot = none := by
    have e : ad.add 0 = ad := by unfold Addr.add; rw [if_pos (by omega)]
    rw [e] at z0
    unfold World.cell? at z0
    split at z0
    · split at z0
      · cases z0
      · rename_i hs; simpa using hs
    · cases z0
  obtain ⟨b, o, sp⟩ := ad
  obtain rfl : sp = none := hsp
  obtain ⟨ad2, hA2, z0⟩ := key i hi
  rw [hA] at hA2
  obtain rfl : (⟨b, o, none⟩ : Addr) = ad2 := Option.some.inj hA2
  have ha : Addr.add ⟨b, o, none⟩ i = ⟨b, o + i, none⟩ := by
    unfold Addr.add
    split
    · rename_i h; subst h; rfl
    · rfl
  rw [ha] at z0
  exact ⟨b, o, hA, z0⟩
end Go.Proofs.Ytiladcdogbeomaa.Acts
