/- Law 17 (ranges): contracts of functions that its statements reach, and plain laws behind them (part 11 of 12). No condition. -/
import Derived.Test.YtiladcdogbeomaaMj
namespace Go.Proofs.Ytiladcdogbeomaa.Lazy
open Go
section
variable {P : Program} {Q : Exit → Act → World → Prop} {ops : List Oper} {tab : List (Option Nat)} {t0 : List Value} {d0 : List Deferred}
theorem lazy_still {L : Nat → Bool} {σ : Nat → Value} {s j : Nat} {x : Value} (hx : t0[s]? = some x) (h : tab[s]? = some (some j)) (hL : L j = false) : (lazyA L σ t0 tab d0).eval (.tmp s) = x := by
  have : (lazyT L σ t0 tab)[s]? = some x := by
    unfold lazyT
    rw [List.getElem?_zipWith, h, hx]
    simp [hL]
  simp [Act.eval, lazyA, this]
/-- The law for drawn regions, told by values, by what has come up, and by which operation turns the world. -/
theorem wp_region_valsI {id : Nat} {w : World} (hm : P.follows .mixedOrders = true) (tab : List (Option Nat)) (hG : fitsG ops tab = true) (hl : t0.length = tab.length)
    (R : Nat → World → World → Prop) (J : (Nat → Bool) → World → Prop) (Val : Nat → Value → World → Prop) (hJ : J (fun _ => false) w.drew)
    (hst : ∀ (L : Nat → Bool) (i j : Nat) (v : Value) (W W' : World), L i = false → L j = true → j ≠ i → (∀ j d, (((ops[j]?).map fun o => o.after.toList.any fun e => e.on == d && Region.binds .any e) == some true) = true → L j = true → L d = true) → R i W W' → Val j v W → Val j v W')
    (hg : AllFrom (fun _ o => ∀ j b, o.guard = some (j, b) → ∀ v W, Val j v W → v = .bool b) 0 ops)
    (hstep : AllFrom (fun i o => ∀ L ρ W, L i = false → (∀ j d, (((ops[j]?).map fun o => o.after.toList.any fun e => e.on == d && Region.binds .any e) == some true) = true → L j = true → L d = true) → (∀ s j x, tab[s]? = some (some j) → L j = false → t0[s]? = some x → ρ (.tmp s) = x) → J L W → Told Val tab t0 o ρ W → Op1 P o ρ W (fun v W' => R i W W' ∧ J (updL L i) W' ∧ Val i v W')) 0 ops)
    (hdone : ∀ σ L W, (∀ j, j < ops.length → L j = true) → J L W → (∀ j, j < ops.length → Val j (σ j) W) → Q .normal (lazyA (fun _ => true) σ t0 tab d0) W) :
    (Code.region id ops.toArray true).wp P Q { tmps := t0.toArray, defers := d0 } w := by
  have hF := fits_of (fits_bare hG)
  have hlen : (bare ops).length = ops.length := by unfold bare; simp
  refine wp_region_any hm ?_
  rw [← lazy_start (d0 := d0) hF (fun _ => undef) hl, ← toL_none ops.toArray.size]
  refine wpAny_guard (I := fun L σ W => (∀ j d, (((ops[j]?).map fun o => o.after.toList.any fun e => e.on == d && Region.binds .any e) == some true) = true → L j = true → L d = true) ∧ J L W ∧ ∀ j, L j = true → Val j (σ j) W) hG hl (fun i o ho j b hgd L σ W hI hL => ?_) (fun i o ho L σ W hLi hall hI => ?_) (fun L σ W hL hI => ?_) _ _ _ _ (by simp) (falses_none _) (by rw [toL_none]; exact ⟨fun j d _ hj => (by cases hj), hJ, fun j hj => (by cases hj)⟩)
  · have := allFrom_get hg i o ho
    exact this j b hgd _ W (hI.2.2 j hL)
  · have := allFrom_get hstep i o ho
    rw [Nat.zero_add] at this
    refine Op1.mono (this L _ W hLi hI.1 (fun s j x h1 h2 h3 => lazy_still h3 h1 h2) hI.2.1 ⟨fun s j hs ha => ?_, fun s x hx hs => lazy_old hx hs, fun v => rfl, fun f => rfl⟩) ?_
    · obtain ⟨e, he, hb⟩ := List.any_eq_true.1 ha
      simp only [Bool.and_eq_true, beq_iff_eq] at hb
      have hLj : L j = true := by rw [← hb.1]; exact hall e (by simpa using he) hb.2
      rw [lazy_eval hl hs hLj]
      exact hI.2.2 j hLj
    · rintro v W' ⟨h1, h2, h3⟩
      refine ⟨fun j d hjd hj => ?_, h2, fun j hj => ?_⟩
      · by_cases e : j = i
        · subst e
          rw [ho] at hjd
          simp only [Option.map_some, beq_iff_eq, Option.some.injEq] at hjd
          obtain ⟨e, he, hb⟩ := List.any_eq_true.1 hjd
          simp only [Bool.and_eq_true, beq_iff_eq] at hb
          exact upd_keep _ (by rw [← hb.1]; exact hall e (by simpa using he) hb.2)
        · exact upd_keep _ (hI.1 j d hjd (upd_other hj e))
      · by_cases e : j = i
        · subst e; simpa [updS] using h3
        · simp only [updS, if_neg e]
          exact hst L i j _ _ _ hLi (upd_other hj e) e hI.1 h1 (hI.2.2 j (upd_other hj e))
  · have e : lazyA L σ t0 tab d0 = lazyA (fun _ => true) σ t0 tab d0 := by
      unfold lazyA
      rw [lazyT_congr (fun j hj => hL j (by have := hF.rg j hj; omega))]
    rw [e]
    exact hdone σ L W hL hI.2.1 (fun j hj => hI.2.2 j (hL j hj))
end
end Go.Proofs.Ytiladcdogbeomaa.Lazy

namespace Go.Proofs.Ytiladcdogbeomaa.QRangesPlays
open Go.RowKit Go.Shelf Go.Proofs.YtiladcdogbeomaaW.PrintWords Go.Proofs.YtiladcdogbeomaaW.PrintLast Go.Proofs.YtiladcdogbeomaaW.PrintMore Go.Proofs.Ytiladcdogbeomaa.RowLaws Go.Proofs.Ytiladcdogbeomaa.Lazy
attribute [local go_sem] Oper.semAt_some
abbrev RB (W : World) (B : Nat) (row : Option Nat) (v : Value) (r : List Int) : Prop := Kd.R (Kd.int .u8) 5 W B (fun k => some k ≠ row) v r
/-- Rows of the call's own, none of them 'row', laid in block p. -/
def RowsO (W : World) (B p : Nat) (row : Option Nat) (rows : List (List Int)) : Prop := some p ≠ row ∧ ∀ i (h : i < rows.length), ∃ v, W.cell? ⟨p, i, none⟩ = some v ∧ RB W B row v rows[i]
abbrev Kr (row : Option Nat) (W W' : World) : Prop := Kept W W' (fun k => some k = row)
theorem Kr.trans {row : Option Nat} {A B C : World} (h : Kr row A B) (k : Kr row B C) : Kr row A C := h.then_ k (fun _ hk => .inl hk)
theorem RB.kr {W W' : World} {B : Nat} {row : Option Nat} {v : Value} {r : List Int} (h : RB W B row v r) (hk : Kr row W W') : RB W' B row v r := Kd.R_kept h hk (fun _ hn hk => hn hk)
theorem cell_kr {W W' : World} {row : Option Nat} {p : Addr} {v : Value} (hk : Kr row W W') (hp : some p.block ≠ row) (h : W.cell? p = some v) : W'.cell? p = some v :=
  (World.cell?_of_block (hk.2 _ (World.block_lt_of_cell? _ _ h) hp)).trans h
theorem RowsO.kr {W W' : World} {B p : Nat} {row : Option Nat} {rows : List (List Int)} (h : RowsO W B p row rows) (hk : Kr row W W') : RowsO W' B p row rows :=
  ⟨h.1, fun i hi => by obtain ⟨v, h1, h2⟩ := h.2 i hi; exact ⟨v, cell_kr hk h.1 h1, h2.kr hk⟩⟩
theorem RowsO.at {W : World} {B p : Nat} {row : Option Nat} {rows : List (List Int)} (h : RowsO W B p row rows) : RowsAt W p rows := fun i hi => by
  obtain ⟨v, h1, h2⟩ := h.2 i hi
  obtain ⟨A, c, rfl, h3, h4⟩ := Kd.R_reads h2
  exact ⟨A, c, h1, h3, h4⟩
theorem Kr.of_below {row : Option Nat} {W W' : World} (hb : Below W.heap.size W W') : Kr row W W' := Kept.of_below hb _
/-- What a call has made: none of the elder rows. -/
theorem RB.new {W W2 : World} {row : Option Nat} {v : Value} {r : List Int} (h : Kd.R (Kd.int .u8) 5 W2 W.heap.size (fun _ => True) v r) (hrow : ∀ k, row = some k → k < W.heap.size) : RB W2 W.heap.size row v r :=
  Kd.R_mono (Kd.R_bound h) (fun k hk e => by have := hrow k e.symm; have := hk.2.1; omega)
theorem RB.low {W : World} {B B' : Nat} {row : Option Nat} {v : Value} {r : List Int} (h : RB W B row v r) (hb : B' ≤ B) : RB W B' row v r := Kd.R_lower h hb
/-- append of a row that is read to a row of the call's own. -/
theorem append_run (W : World) (B : Nat) (v : Value) (xs ys : List Int) (A : Option Addr) (c : Nat) (HO : Kd.R (Kd.int .u8) 5 W B (fun _ => True) v xs) (HR : Kd.C (Kd.int .u8) W A ys.length ys) (hB : B ≤ W.heap.size) (hl : xs.length + ys.length ≤ 100000000) :
    ∃ v1 w1, (Builtin.append_ #[23, 23] 23 #[v, .slice A ys.length c]).run Try.prog W = .ok v1 w1 ∧ Kd.R (Kd.int .u8) 5 w1 B (fun _ => True) v1 (xs ++ ys) ∧ W.grownBy w1 v.ownBlock := by
  obtain ⟨i0, hi, hzz⟩ := Option.map_eq_some_iff.1 info5g
  simp only [Prod.mk.injEq] at hzz
  obtain ⟨hz0, hz1, hz2⟩ := hzz
  obtain ⟨hok, inner, hown, hr⟩ := HO
  rcases A with _ | ad
  · have h0 : ys = [] := by
      rcases Nat.eq_zero_or_pos ys.length with h0 | h0
      · exact List.eq_nil_of_length_eq_zero h0
      · obtain ⟨ad, h, _⟩ := HR.2.2 h0
        cases h
    subst h0
    refine ⟨v, W, ?_, by rw [List.append_nil]; exact ⟨hok, inner, hown, hr⟩, World.grownBy.refl W _⟩
    rcases hown.2 with ⟨rfl, hn⟩ | ⟨g, cap, cur, rfl, _, _, hnc, _⟩
    · simp [Builtin.append_, run_underlying Try.underlying23, sizeOf, typeInfo, hi, Builtin.lenOf, Builtin.firstCells]
    · simp [Builtin.append_, run_underlying Try.underlying23, sizeOf, typeInfo, hi, Builtin.lenOf, Builtin.firstCells, hnc, storeCells]
  · obtain ⟨news, hnr, hnc⟩ := ReadsRow.inner_ HR
    have hone : ∀ u ∈ news, u.oneCell' = true := by
      intro u hu
      obtain ⟨q, hq, rfl⟩ := List.mem_iff_getElem.1 hu
      have hql : q < ys.length := by have := hnr.1; simp only [show (Kd.int .u8).sz = 1 from rfl, Nat.mul_one] at this; omega
      have hc := hnr.2 q _ (List.getElem?_eq_getElem hql)
      have hc2 : (news.drop (q * 1)).take 1 = [.int .u8 ys[q]] := hc
      rw [Nat.mul_one, List.drop_eq_getElem_cons hq] at hc2
      simp only [List.take_succ_cons, List.take_zero, List.cons.injEq, and_true] at hc2
      rw [hc2]; rfl
    obtain ⟨v1, w1, hrun, h2, hg, _, _⟩ := run_append_own_at (P := Try.prog) (w := W) B 23 23 5 i0 (.int .u8 0) 1 1 Try.underlying23 hi hz0 hz1 hz2 rfl (by decide) v xs.length inner hown ad ys.length c news (by rw [hnr.1]; rfl) hnc hone (by simp only [maxLen]; omega) (by omega) hB
    refine ⟨v1, w1, hrun, ⟨fun _ _ => trivial, inner ++ news, ?_, ?_⟩, hg⟩
    · rw [List.length_append]; exact h2
    · exact Kd.reps_append (hr.imp_ (fun p c hp => hp)) (hnr.imp_ (fun p c hp => hp))
theorem rowsO3 {W : World} {B : Nat} {row : Option Nat} {v1 v2 v3 : Value} {r1 r2 r3 : List Int} (hrow : ∀ k, row = some k → k < W.heap.size) (h1 : RB W B row v1 r1) (h2 : RB W B row v2 r2) (h3 : RB W B row v3 r3) : RowsO (W.alloc (.cells #[v1, v2, v3] 23)) B W.heap.size row [r1, r2, r3] := by
  have hb := below_alloc (Below.refl W.heap.size W) (.cells #[v1, v2, v3] 23)
  have hn := heap_alloc_new W (.cells #[v1, v2, v3] 23)
  refine ⟨fun e => by have := hrow _ e.symm; omega, fun i hi => ?_⟩
  match i with
  | 0 => exact ⟨v1, by unfold World.cell?; rw [hn]; rfl, Kd.R_below h1 hb⟩
  | 1 => exact ⟨v2, by unfold World.cell?; rw [hn]; rfl, Kd.R_below h2 hb⟩
  | 2 => exact ⟨v3, by unfold World.cell?; rw [hn]; rfl, Kd.R_below h3 hb⟩
theorem rowsO2 {W : World} {B : Nat} {row : Option Nat} {v1 v2 : Value} {r1 r2 : List Int} (hrow : ∀ k, row = some k → k < W.heap.size) (h1 : RB W B row v1 r1) (h2 : RB W B row v2 r2) : RowsO (W.alloc (.cells #[v1, v2] 23)) B W.heap.size row [r1, r2] := by
  have hb := below_alloc (Below.refl W.heap.size W) (.cells #[v1, v2] 23)
  have hn := heap_alloc_new W (.cells #[v1, v2] 23)
  refine ⟨fun e => by have := hrow _ e.symm; omega, fun i hi => ?_⟩
  match i with
  | 0 => exact ⟨v1, by unfold World.cell?; rw [hn]; rfl, Kd.R_below h1 hb⟩
  | 1 => exact ⟨v2, by unfold World.cell?; rw [hn]; rfl, Kd.R_below h2 hb⟩

abbrev pt5_ops : List Oper := [{ dst := some 20, op := .fieldAddr 95 (.tmp 5) 1, type := 0, pos := "ranges.go:180", after := #[], guard := none },
  { dst := some 21, op := .load 3 (.tmp 20), type := 3, pos := "ranges.go:180", after := #[⟨0, .data⟩], guard := none },
  { dst := some 22, op := .call { callee := .value (.func 82), args := #[.tmp 21], argTypes := #[3] }, type := 23, pos := "ranges.go:180", after := #[⟨1, .data⟩], guard := none },
  { dst := some 23, op := .move (.tmp 0), type := 74, pos := "ranges.go:180", after := #[], guard := none },
  { dst := some 24, op := .call { callee := .builtin .len, args := #[.tmp 23], argTypes := #[74] }, type := 3, pos := "ranges.go:180", after := #[⟨3, .data⟩], guard := none },
  { dst := some 25, op := .binOp .sub 3 (.tmp 24) (.const (.int .i64 1)) 3, type := 3, pos := "ranges.go:180", after := #[⟨4, .data⟩], guard := none },
  { dst := some 26, op := .call { callee := .value (.func 82), args := #[.tmp 25], argTypes := #[3] }, type := 23, pos := "ranges.go:180", after := #[⟨5, .data⟩, ⟨2, .chain⟩], guard := none },
  { dst := some 27, op := .fieldAddr 95 (.tmp 5) 1, type := 0, pos := "ranges.go:180", after := #[], guard := none },
  { dst := some 28, op := .load 3 (.tmp 27), type := 3, pos := "ranges.go:180", after := #[⟨7, .data⟩], guard := none },
  { dst := some 29, op := .fieldAddr 95 (.tmp 5) 0, type := 0, pos := "ranges.go:180", after := #[], guard := none },
  { dst := some 30, op := .load 3 (.tmp 29), type := 3, pos := "ranges.go:180", after := #[⟨9, .data⟩], guard := none },
  { dst := some 31, op := .binOp .sub 3 (.tmp 28) (.tmp 30) 3, type := 3, pos := "ranges.go:180", after := #[⟨8, .data⟩, ⟨10, .data⟩], guard := none },
  { dst := some 32, op := .call { callee := .value (.func 82), args := #[.tmp 31], argTypes := #[3] }, type := 23, pos := "ranges.go:180", after := #[⟨11, .data⟩, ⟨6, .chain⟩], guard := none },
  { dst := some 33, op := .buildSlice 143 3 #[(0, .tmp 22), (1, .tmp 26), (2, .tmp 32)], type := 143, pos := "ranges.go:180", after := #[⟨2, .data⟩, ⟨6, .data⟩, ⟨12, .data⟩], guard := none },
  { dst := some 34, op := .call { callee := .value (.func 81), args := #[.tmp 33], argTypes := #[143] }, type := 23, pos := "ranges.go:180", after := #[⟨13, .data⟩, ⟨12, .chain⟩], guard := none },
  { dst := some 6, op := .assign (.tmp 34), type := 23, pos := "ranges.go:180", after := #[⟨14, .data⟩, ⟨14, .chain⟩, ⟨0, .phase⟩, ⟨1, .phase⟩, ⟨2, .phase⟩, ⟨3, .phase⟩, ⟨4, .phase⟩, ⟨5, .phase⟩, ⟨6, .phase⟩, ⟨7, .phase⟩, ⟨8, .phase⟩, ⟨9, .phase⟩, ⟨10, .phase⟩, ⟨11, .phase⟩, ⟨12, .phase⟩, ⟨13, .phase⟩, ⟨14, .phase⟩], guard := none }]
abbrev pt5_tab : List (Option Nat) := [none, none, none, none, none, none, some 15, none, none, none, none, none, none, none, none, none, none, none, none, none, some 0, some 1, some 2, some 3, some 4, some 5, some 6, some 7, some 8, some 9, some 10, some 11, some 12, some 13, some 14, none, none, none, none, none, none, none, none, none, none, none, none, none, none, none, none, none, none, none, none, none, none, none, none, none, none, none, none, none, none, none, none, none, none, none, none, none, none, none]

def pt5_val (w0 : World) (N : Int → List Int) (K b5 : Nat) (A : Option Addr) (n c : Nat) (f t : Int) : Nat → Value → World → Prop := fun j v W => match j with
  | 0 => v = .pointer (some ⟨b5, 1, none⟩)
  | 1 => v = .int .i64 t
  | 2 => RB W w0.heap.size none v (N t)
  | 3 => v = .slice A n c
  | 4 => v = .int .i64 (n : Int)
  | 5 => v = .int .i64 ((n : Int) - 1)
  | 6 => RB W w0.heap.size none v (N ((n : Int) - 1))
  | 7 => v = .pointer (some ⟨b5, 1, none⟩)
  | 8 => v = .int .i64 t
  | 9 => v = .pointer (some ⟨b5, 0, none⟩)
  | 10 => v = .int .i64 f
  | 11 => v = .int .i64 (t - f)
  | 12 => RB W w0.heap.size none v (N (t - f))
  | 13 => ∃ p c, v = .slice (some ⟨p, 0, none⟩) 3 c ∧ RowsO W w0.heap.size p none [N t, N ((n : Int) - 1), N (t - f)]
  | 14 => RB W w0.heap.size none v (N t ++ N ((n : Int) - 1) ++ N (t - f))
  | 15 => RB W w0.heap.size none v (N t ++ N ((n : Int) - 1) ++ N (t - f))
  | _ => True

set_option maxRecDepth 100000 in
set_option maxHeartbeats 4000000 in
theorem Put_pt5 (w0 : World) (N : Int → List Int) (K b5 : Nat) (A : Option Addr) (n c : Nat) (f t : Int) (t0 : List Value) (d0 : List Deferred) (w : World) (Q : Exit → Act → World → Prop) (hl : t0.length = pt5_tab.length)
    (t0_ : t0[0]? = some (.slice A n c)) (t5 : t0[5]? = some (.pointer (some ⟨b5, 0, none⟩)))
    (hN : ∀ x, 0 ≤ x ∧ x ≤ 1099511627776 → field_Num.f K x = some (N x) ∧ (N x).length ≤ 8) (hw : Below w0.heap.size w0 w)
    (c50 : w.cell? ⟨b5, 0, none⟩ = some (.int .i64 f)) (c51 : w.cell? ⟨b5, 1, none⟩ = some (.int .i64 t)) (hf : 0 ≤ f) (hft : f ≤ t) (ht : t ≤ 1099511627776) (hn : 0 < n) (hn2 : n ≤ 64)
    (hQ : ∀ σ W, Kr none w W ∧ Below w0.heap.size w0 W ∧ RB W w0.heap.size none (σ 15) (N t ++ N ((n : Int) - 1) ++ N (t - f)) → Q .normal (lazyA (fun _ => true) σ t0 pt5_tab d0) W) :
    (Code.region 5 pt5_ops.toArray true).wp Try.prog Q { tmps := t0.toArray, defers := d0 } w := by

  refine wp_region_vals (by kernel_rfl) pt5_tab (by kernel_rfl) hl (Kr none) (fun W => Below w0.heap.size w0 W) (pt5_val w0 N K b5 A n c f t) (Kr.of_below (below_drew (Below.refl _ _))) (by exact below_drew hw) (fun _ _ _ => Kr.trans) ?hst ⟨(fun j b h => by cases h), (fun j b h => by cases h), (fun j b h => by cases h), (fun j b h => by cases h), (fun j b h => by cases h), (fun j b h => by cases h), (fun j b h => by cases h), (fun j b h => by cases h), (fun j b h => by cases h), (fun j b h => by cases h), (fun j b h => by cases h), (fun j b h => by cases h), (fun j b h => by cases h), (fun j b h => by cases h), (fun j b h => by cases h), (fun j b h => by cases h), trivial⟩ ⟨?s0, ?s1, ?s2, ?s3, ?s4, ?s5, ?s6, ?s7, ?s8, ?s9, ?s10, ?s11, ?s12, ?s13, ?s14, ?s15, trivial⟩ ?hdone

  case hst =>
    intro j v W W' hJ hR h
    match j with
    | 0 => exact h
    | 1 => exact h
    | 2 => exact h.kr hR
    | 3 => exact h
    | 4 => exact h
    | 5 => exact h
    | 6 => exact h.kr hR
    | 7 => exact h
    | 8 => exact h
    | 9 => exact h
    | 10 => exact h
    | 11 => exact h
    | 12 => exact h.kr hR
    | 13 => obtain ⟨p, c, h1, h2⟩ := h; exact ⟨p, c, h1, h2.kr hR⟩
    | 14 => exact h.kr hR
    | 15 => exact h.kr hR
    | n + 16 => trivial

  case s0 =>
    intro ρ W hR hJ hT
    have q5 := hT.2.1 5 _ t5 rfl
    refine Op1.of_run (v := .pointer (some ⟨b5, 1, none⟩)) (W' := W) (by clear hT hJ; go_simp) ⟨Kept.refl _ _, hJ, rfl⟩

  case s1 =>
    intro ρ W hR hJ hT
    have q20 : ρ (.tmp 20) = .pointer (some ⟨b5, 1, none⟩) := hT.1 20 0 rfl rfl
    have cc := cell_kr hR (p := ⟨b5, 1, none⟩) (by intro h; cases h) c51
    refine Op1.of_run (v := .int .i64 t) (W' := W) (by clear hT hJ; go_simp) ⟨Kept.refl _ _, hJ, rfl⟩

  case s2 =>
    intro ρ W hR hJ hT
    have q21 : ρ (.tmp 21) = .int .i64 t := hT.1 21 1 rfl rfl
    have qf := hT.2.2.2 82
    refine Op1.of_call (f := 82) (args := #[.int .i64 (t)]) (W' := W) (by clear hT hJ; go_simp) ?_
    refine (field_Num.calls K _ _ W (hN _ ⟨by omega, by omega⟩).1).mono ?_
    rintro e W2 ⟨v2, rfl, hr2, hb2⟩
    exact ⟨_, rfl, Kr.of_below hb2, below_step hJ hb2, (RB.new (row := none) hr2 (fun _ h => by cases h)).low hJ.size⟩

  case s3 =>
    intro ρ W hR hJ hT
    have q0 := hT.2.1 0 _ t0_ rfl
    refine Op1.of_run (v := .slice A n c) (W' := W) (by clear hT hJ; go_simp) ⟨Kept.refl _ _, hJ, rfl⟩

  case s4 =>
    intro ρ W hR hJ hT
    have q23 : ρ (.tmp 23) = .slice A n c := hT.1 23 3 rfl rfl
    refine Op1.of_run (v := .int .i64 (n : Int)) (W' := W) (by clear hT hJ; go_simp) ⟨Kept.refl _ _, hJ, rfl⟩

  case s5 =>
    intro ρ W hR hJ hT
    have q24 : ρ (.tmp 24) = .int .i64 (n : Int) := hT.1 24 4 rfl rfl
    have qc := hT.2.2.1 (Go.Value.int Go.IntKind.i64 1)
    have e1 : IntKind.i64.wrap ((n : Int) - 1) = (n : Int) - 1 := IntWalk.i64_in _ (by omega)
    refine Op1.of_run (v := .int .i64 ((n : Int) - 1)) (W' := W) (by clear hT hJ; go_simp) ⟨Kept.refl _ _, hJ, rfl⟩

  case s6 =>
    intro ρ W hR hJ hT
    have q25 : ρ (.tmp 25) = .int .i64 ((n : Int) - 1) := hT.1 25 5 rfl rfl
    have qf := hT.2.2.2 82
    refine Op1.of_call (f := 82) (args := #[.int .i64 ((n : Int) - 1)]) (W' := W) (by clear hT hJ; go_simp) ?_
    refine (field_Num.calls K _ _ W (hN _ ⟨by omega, by omega⟩).1).mono ?_
    rintro e W2 ⟨v2, rfl, hr2, hb2⟩
    exact ⟨_, rfl, Kr.of_below hb2, below_step hJ hb2, (RB.new (row := none) hr2 (fun _ h => by cases h)).low hJ.size⟩

  case s7 =>
    intro ρ W hR hJ hT
    have q5 := hT.2.1 5 _ t5 rfl
    refine Op1.of_run (v := .pointer (some ⟨b5, 1, none⟩)) (W' := W) (by clear hT hJ; go_simp) ⟨Kept.refl _ _, hJ, rfl⟩

  case s8 =>
    intro ρ W hR hJ hT
    have q27 : ρ (.tmp 27) = .pointer (some ⟨b5, 1, none⟩) := hT.1 27 7 rfl rfl
    have cc := cell_kr hR (p := ⟨b5, 1, none⟩) (by intro h; cases h) c51
    refine Op1.of_run (v := .int .i64 t) (W' := W) (by clear hT hJ; go_simp) ⟨Kept.refl _ _, hJ, rfl⟩

  case s9 =>
    intro ρ W hR hJ hT
    have q5 := hT.2.1 5 _ t5 rfl
    refine Op1.of_run (v := .pointer (some ⟨b5, 0, none⟩)) (W' := W) (by clear hT hJ; go_simp) ⟨Kept.refl _ _, hJ, rfl⟩

  case s10 =>
    intro ρ W hR hJ hT
    have q29 : ρ (.tmp 29) = .pointer (some ⟨b5, 0, none⟩) := hT.1 29 9 rfl rfl
    have cc := cell_kr hR (p := ⟨b5, 0, none⟩) (by intro h; cases h) c50
    refine Op1.of_run (v := .int .i64 f) (W' := W) (by clear hT hJ; go_simp) ⟨Kept.refl _ _, hJ, rfl⟩

  case s11 =>
    intro ρ W hR hJ hT
    have q28 : ρ (.tmp 28) = .int .i64 t := hT.1 28 8 rfl rfl
    have q30 : ρ (.tmp 30) = .int .i64 f := hT.1 30 10 rfl rfl
    have e1 : IntKind.i64.wrap (t - f) = t - f := IntWalk.i64_in _ (by omega)
    refine Op1.of_run (v := .int .i64 (t - f)) (W' := W) (by clear hT hJ; go_simp) ⟨Kept.refl _ _, hJ, rfl⟩

  case s12 =>
    intro ρ W hR hJ hT
    have q31 : ρ (.tmp 31) = .int .i64 (t - f) := hT.1 31 11 rfl rfl
    have qf := hT.2.2.2 82
    refine Op1.of_call (f := 82) (args := #[.int .i64 (t - f)]) (W' := W) (by clear hT hJ; go_simp) ?_
    refine (field_Num.calls K _ _ W (hN _ ⟨by omega, by omega⟩).1).mono ?_
    rintro e W2 ⟨v2, rfl, hr2, hb2⟩
    exact ⟨_, rfl, Kr.of_below hb2, below_step hJ hb2, (RB.new (row := none) hr2 (fun _ h => by cases h)).low hJ.size⟩

  case s13 =>
    intro ρ W hR hJ hT
    have z22 : RB W w0.heap.size none (ρ (.tmp 22)) (N t) := hT.1 22 2 rfl rfl
    obtain ⟨A22, c22, q22, l22, r22⟩ := Kd.R_reads z22
    rw [q22] at z22
    have z26 : RB W w0.heap.size none (ρ (.tmp 26)) (N ((n : Int) - 1)) := hT.1 26 6 rfl rfl
    obtain ⟨A26, c26, q26, l26, r26⟩ := Kd.R_reads z26
    rw [q26] at z26
    have z32 : RB W w0.heap.size none (ρ (.tmp 32)) (N (t - f)) := hT.1 32 12 rfl rfl
    obtain ⟨A32, c32, q32, l32, r32⟩ := Kd.R_reads z32
    rw [q32] at z32
    refine Op1.of_run (v := .slice (some ⟨W.heap.size, 0, none⟩) 3 3) (W' := W.alloc (.cells #[.slice A22 (N t).length c22, .slice A26 (N ((n : Int) - 1)).length c26, .slice A32 (N (t - f)).length c32] 23)) (by clear hT hJ; go_simp) ⟨Kr.of_below (below_alloc (Below.refl _ _) _), below_step hJ (below_alloc (Below.refl _ _) _), _, _, rfl, rowsO3 (row := none) (fun _ h => by cases h) (by simpa only [q22] using z22) (by simpa only [q26] using z26) (by simpa only [q32] using z32)⟩

  case s14 =>
    intro ρ W hR hJ hT
    obtain ⟨p33, c33, q33, z33⟩ := hT.1 33 13 rfl rfl
    have qf := hT.2.2.2 81
    refine Op1.of_call (f := 81) (args := #[.slice (some ⟨p33, 0, none⟩) 3 c33]) (W' := W) (by clear hT hJ; go_simp) ?_
    refine (Join_calls p33 3 c33 _ W rfl (by omega) z33.at (by have h1 := (hN t ⟨by omega, by omega⟩).2; have h2 := (hN ((n : Int) - 1) ⟨by omega, by omega⟩).2; have h3 := (hN (t - f) ⟨by omega, by omega⟩).2; simp only [total]; omega)).mono ?_
    rintro e W2 ⟨v2, rfl, hr2, hb2⟩
    exact ⟨_, rfl, Kr.of_below hb2, below_step hJ hb2, (RB.new (row := none) (by simpa using hr2) (fun _ h => by cases h)).low hJ.size⟩

  case s15 =>
    intro ρ W hR hJ hT
    have z34 : RB W w0.heap.size none (ρ (.tmp 34)) (N t ++ N ((n : Int) - 1) ++ N (t - f)) := hT.1 34 14 rfl rfl
    obtain ⟨A34, c34, q34, l34, r34⟩ := Kd.R_reads z34
    rw [q34] at z34
    refine Op1.of_run (v := .slice A34 (N t ++ N ((n : Int) - 1) ++ N (t - f)).length c34) (W' := W) (by clear hT hJ; go_simp) ⟨Kept.refl _ _, hJ, z34⟩

  case hdone =>
    intro σ W hR hJ hV
    exact hQ σ W ⟨hR, hJ, hV 15 (by decide)⟩

abbrev pt9_ops : List Oper := [{ dst := some 42, op := .move (.tmp 0), type := 74, pos := "ranges.go:182", after := #[], guard := none },
  { dst := some 43, op := .move (.tmp 7), type := 3, pos := "ranges.go:182", after := #[], guard := none },
  { dst := some 44, op := .binOp .add 3 (.tmp 43) (.const (.int .i64 1)) 3, type := 3, pos := "ranges.go:182", after := #[⟨1, .data⟩], guard := none },
  { dst := some 45, op := .indexAddr 74 (.tmp 42) (.tmp 44), type := 0, pos := "ranges.go:182", after := #[⟨0, .data⟩, ⟨2, .data⟩], guard := none },
  { dst := some 46, op := .fieldAddr 95 (.tmp 45) 0, type := 0, pos := "ranges.go:182", after := #[⟨3, .data⟩], guard := none },
  { dst := some 47, op := .load 3 (.tmp 46), type := 3, pos := "ranges.go:182", after := #[⟨4, .data⟩], guard := none },
  { dst := some 48, op := .move (.tmp 0), type := 74, pos := "ranges.go:182", after := #[], guard := none },
  { dst := some 49, op := .move (.tmp 7), type := 3, pos := "ranges.go:182", after := #[], guard := none },
  { dst := some 50, op := .indexAddr 74 (.tmp 48) (.tmp 49), type := 0, pos := "ranges.go:182", after := #[⟨6, .data⟩, ⟨7, .data⟩], guard := none },
  { dst := some 51, op := .fieldAddr 95 (.tmp 50) 1, type := 0, pos := "ranges.go:182", after := #[⟨8, .data⟩], guard := none },
  { dst := some 52, op := .load 3 (.tmp 51), type := 3, pos := "ranges.go:182", after := #[⟨9, .data⟩], guard := none },
  { dst := some 53, op := .binOp .sub 3 (.tmp 47) (.tmp 52) 3, type := 3, pos := "ranges.go:182", after := #[⟨5, .data⟩, ⟨10, .data⟩], guard := none },
  { dst := some 54, op := .binOp .sub 3 (.tmp 53) (.const (.int .i64 2)) 3, type := 3, pos := "ranges.go:182", after := #[⟨11, .data⟩], guard := none },
  { dst := some 8, op := .assign (.tmp 54), type := 3, pos := "ranges.go:182", after := #[⟨12, .data⟩, ⟨0, .phase⟩, ⟨1, .phase⟩, ⟨2, .phase⟩, ⟨3, .phase⟩, ⟨4, .phase⟩, ⟨5, .phase⟩, ⟨6, .phase⟩, ⟨7, .phase⟩, ⟨8, .phase⟩, ⟨9, .phase⟩, ⟨10, .phase⟩, ⟨11, .phase⟩, ⟨12, .phase⟩], guard := none }]
abbrev pt9_tab : List (Option Nat) := [none, none, none, none, none, none, none, none, some 13, none, none, none, none, none, none, none, none, none, none, none, none, none, none, none, none, none, none, none, none, none, none, none, none, none, none, none, none, none, none, none, none, none, some 0, some 1, some 2, some 3, some 4, some 5, some 6, some 7, some 8, some 9, some 10, some 11, some 12, none, none, none, none, none, none, none, none, none, none, none, none, none, none, none, none, none, none, none]

def pt9_val (row : Option Nat) (b o i n c : Nat) (f1 t0v : Int) : Nat → Value → World → Prop := fun j v W => match j with
  | 0 => v = .slice (some ⟨b, o, none⟩) n c
  | 1 => v = .int .i64 (i : Int)
  | 2 => v = .int .i64 ((i : Int) + 1)
  | 3 => v = .pointer (some ⟨b, o + (i + 1) * 2, none⟩)
  | 4 => v = .pointer (some ⟨b, o + (i + 1) * 2, none⟩)
  | 5 => v = .int .i64 f1
  | 6 => v = .slice (some ⟨b, o, none⟩) n c
  | 7 => v = .int .i64 (i : Int)
  | 8 => v = .pointer (some ⟨b, o + i * 2, none⟩)
  | 9 => v = .pointer (some ⟨b, o + i * 2 + 1, none⟩)
  | 10 => v = .int .i64 t0v
  | 11 => v = .int .i64 (f1 - t0v)
  | 12 => v = .int .i64 (f1 - t0v - 2)
  | 13 => v = .int .i64 (f1 - t0v - 2)
  | _ => True

set_option maxRecDepth 100000 in
set_option maxHeartbeats 4000000 in
theorem Put_pt9 (row : Option Nat) (b o i n c : Nat) (f1 t0v : Int) (t0 : List Value) (d0 : List Deferred) (w : World) (Q : Exit → Act → World → Prop) (hl : t0.length = pt9_tab.length)
    (t0_ : t0[0]? = some (.slice (some ⟨b, o, none⟩) n c)) (t7 : t0[7]? = some (.int .i64 (i : Int)))
    (hb : some b ≠ row) (hi : i + 1 < n) (hn2 : n ≤ 64) (cf : w.cell? ⟨b, o + (i + 1) * 2, none⟩ = some (.int .i64 f1)) (ct : w.cell? ⟨b, o + i * 2 + 1, none⟩ = some (.int .i64 t0v)) (h1 : 0 ≤ t0v) (h2 : t0v + 2 ≤ f1) (h3 : f1 ≤ 1099511627776)
    (hQ : ∀ σ W, Below w.heap.size w W → σ 13 = .int .i64 (f1 - t0v - 2) → Q .normal (lazyA (fun _ => true) σ t0 pt9_tab d0) W) :
    (Code.region 9 pt9_ops.toArray true).wp Try.prog Q { tmps := t0.toArray, defers := d0 } w := by

  refine wp_region_vals (by kernel_rfl) pt9_tab (by kernel_rfl) hl (Kr row) (fun W => Below w.heap.size w W) (pt9_val row b o i n c f1 t0v) (Kr.of_below (below_drew (Below.refl _ _))) (below_drew (Below.refl _ _)) (fun _ _ _ => Kr.trans) ?hst ⟨(fun j b h => by cases h), (fun j b h => by cases h), (fun j b h => by cases h), (fun j b h => by cases h), (fun j b h => by cases h), (fun j b h => by cases h), (fun j b h => by cases h), (fun j b h => by cases h), (fun j b h => by cases h), (fun j b h => by cases h), (fun j b h => by cases h), (fun j b h => by cases h), (fun j b h => by cases h), (fun j b h => by cases h), trivial⟩ ⟨?s0, ?s1, ?s2, ?s3, ?s4, ?s5, ?s6, ?s7, ?s8, ?s9, ?s10, ?s11, ?s12, ?s13, trivial⟩ ?hdone

  case hst =>
    intro j v W W' hJ hR h
    match j with
    | 0 => exact h
    | 1 => exact h
    | 2 => exact h
    | 3 => exact h
    | 4 => exact h
    | 5 => exact h
    | 6 => exact h
    | 7 => exact h
    | 8 => exact h
    | 9 => exact h
    | 10 => exact h
    | 11 => exact h
    | 12 => exact h
    | 13 => exact h
    | n + 14 => trivial

  case s0 =>
    intro ρ W hR hJ hT
    have q0 := hT.2.1 0 _ t0_ rfl
    refine Op1.of_run (v := .slice (some ⟨b, o, none⟩) n c) (W' := W) (by clear hT hJ; go_simp) ⟨Kept.refl _ _, hJ, rfl⟩

  case s1 =>
    intro ρ W hR hJ hT
    have q7 := hT.2.1 7 _ t7 rfl
    refine Op1.of_run (v := .int .i64 (i : Int)) (W' := W) (by clear hT hJ; go_simp) ⟨Kept.refl _ _, hJ, rfl⟩

  case s2 =>
    intro ρ W hR hJ hT
    have q43 : ρ (.tmp 43) = .int .i64 (i : Int) := hT.1 43 1 rfl rfl
    have qc := hT.2.2.1 (Go.Value.int Go.IntKind.i64 1)
    have e1 : IntKind.i64.wrap ((i : Int) + 1) = (i : Int) + 1 := IntWalk.i64_in _ (by omega)
    refine Op1.of_run (v := .int .i64 ((i : Int) + 1)) (W' := W) (by clear hT hJ; go_simp) ⟨Kept.refl _ _, hJ, rfl⟩

  case s3 =>
    intro ρ W hR hJ hT
    have q42 : ρ (.tmp 42) = .slice (some ⟨b, o, none⟩) n c := hT.1 42 0 rfl rfl
    have q44 : ρ (.tmp 44) = .int .i64 ((i : Int) + 1) := hT.1 44 2 rfl rfl
    have e2 : (i : Int) + 1 < (n : Int) := by omega
    have e3 : ((i : Int) + 1).toNat = i + 1 := by omega
    have e4 : ¬ ((i : Int) + 1 < 0) := by omega
    refine Op1.of_run (v := .pointer (some ⟨b, o + (i + 1) * 2, none⟩)) (W' := W) (by clear hT hJ; go_simp) ⟨Kept.refl _ _, hJ, rfl⟩

  case s4 =>
    intro ρ W hR hJ hT
    have q45 : ρ (.tmp 45) = .pointer (some ⟨b, o + (i + 1) * 2, none⟩) := hT.1 45 3 rfl rfl
    refine Op1.of_run (v := .pointer (some ⟨b, o + (i + 1) * 2, none⟩)) (W' := W) (by clear hT hJ; go_simp) ⟨Kept.refl _ _, hJ, rfl⟩

  case s5 =>
    intro ρ W hR hJ hT
    have q46 : ρ (.tmp 46) = .pointer (some ⟨b, o + (i + 1) * 2, none⟩) := hT.1 46 4 rfl rfl
    have cc := cell_kr hR (p := ⟨b, o + (i + 1) * 2, none⟩) hb cf
    refine Op1.of_run (v := .int .i64 f1) (W' := W) (by clear hT hJ; go_simp) ⟨Kept.refl _ _, hJ, rfl⟩

  case s6 =>
    intro ρ W hR hJ hT
    have q0 := hT.2.1 0 _ t0_ rfl
    refine Op1.of_run (v := .slice (some ⟨b, o, none⟩) n c) (W' := W) (by clear hT hJ; go_simp) ⟨Kept.refl _ _, hJ, rfl⟩

  case s7 =>
    intro ρ W hR hJ hT
    have q7 := hT.2.1 7 _ t7 rfl
    refine Op1.of_run (v := .int .i64 (i : Int)) (W' := W) (by clear hT hJ; go_simp) ⟨Kept.refl _ _, hJ, rfl⟩

  case s8 =>
    intro ρ W hR hJ hT
    have q48 : ρ (.tmp 48) = .slice (some ⟨b, o, none⟩) n c := hT.1 48 6 rfl rfl
    have q49 : ρ (.tmp 49) = .int .i64 (i : Int) := hT.1 49 7 rfl rfl
    have e2 : (i : Int) < (n : Int) := by omega
    refine Op1.of_run (v := .pointer (some ⟨b, o + i * 2, none⟩)) (W' := W) (by clear hT hJ; go_simp) ⟨Kept.refl _ _, hJ, rfl⟩

  case s9 =>
    intro ρ W hR hJ hT
    have q50 : ρ (.tmp 50) = .pointer (some ⟨b, o + i * 2, none⟩) := hT.1 50 8 rfl rfl
    refine Op1.of_run (v := .pointer (some ⟨b, o + i * 2 + 1, none⟩)) (W' := W) (by clear hT hJ; go_simp) ⟨Kept.refl _ _, hJ, rfl⟩

  case s10 =>
    intro ρ W hR hJ hT
    have q51 : ρ (.tmp 51) = .pointer (some ⟨b, o + i * 2 + 1, none⟩) := hT.1 51 9 rfl rfl
    have cc := cell_kr hR (p := ⟨b, o + i * 2 + 1, none⟩) hb ct
    refine Op1.of_run (v := .int .i64 t0v) (W' := W) (by clear hT hJ; go_simp) ⟨Kept.refl _ _, hJ, rfl⟩

  case s11 =>
    intro ρ W hR hJ hT
    have q47 : ρ (.tmp 47) = .int .i64 f1 := hT.1 47 5 rfl rfl
    have q52 : ρ (.tmp 52) = .int .i64 t0v := hT.1 52 10 rfl rfl
    have e1 : IntKind.i64.wrap (f1 - t0v) = f1 - t0v := IntWalk.i64_in _ (by omega)
    refine Op1.of_run (v := .int .i64 (f1 - t0v)) (W' := W) (by clear hT hJ; go_simp) ⟨Kept.refl _ _, hJ, rfl⟩

  case s12 =>
    intro ρ W hR hJ hT
    have q53 : ρ (.tmp 53) = .int .i64 (f1 - t0v) := hT.1 53 11 rfl rfl
    have qc := hT.2.2.1 (Go.Value.int Go.IntKind.i64 2)
    have e1 : IntKind.i64.wrap (f1 - t0v - 2) = f1 - t0v - 2 := IntWalk.i64_in _ (by omega)
    refine Op1.of_run (v := .int .i64 (f1 - t0v - 2)) (W' := W) (by clear hT hJ; go_simp) ⟨Kept.refl _ _, hJ, rfl⟩

  case s13 =>
    intro ρ W hR hJ hT
    have q54 : ρ (.tmp 54) = .int .i64 (f1 - t0v - 2) := hT.1 54 12 rfl rfl
    refine Op1.of_run (v := .int .i64 (f1 - t0v - 2)) (W' := W) (by clear hT hJ; go_simp) ⟨Kept.refl _ _, hJ, rfl⟩

  case hdone =>
    intro σ W hR hJ hV
    exact hQ σ W hJ (hV 13 (by decide))

abbrev pt10_ops : List Oper := [{ dst := some 55, op := .move (.tmp 6), type := 23, pos := "ranges.go:183", after := #[], guard := none },
  { dst := some 56, op := .move (.tmp 8), type := 3, pos := "ranges.go:183", after := #[], guard := none },
  { dst := some 57, op := .call { callee := .value (.func 82), args := #[.tmp 56], argTypes := #[3] }, type := 23, pos := "ranges.go:183", after := #[⟨1, .data⟩], guard := none },
  { dst := some 58, op := .move (.tmp 0), type := 74, pos := "ranges.go:183", after := #[], guard := none },
  { dst := some 59, op := .move (.tmp 7), type := 3, pos := "ranges.go:183", after := #[], guard := none },
  { dst := some 60, op := .indexAddr 74 (.tmp 58) (.tmp 59), type := 0, pos := "ranges.go:183", after := #[⟨3, .data⟩, ⟨4, .data⟩], guard := none },
  { dst := some 61, op := .fieldAddr 95 (.tmp 60) 1, type := 0, pos := "ranges.go:183", after := #[⟨5, .data⟩], guard := none },
  { dst := some 62, op := .load 3 (.tmp 61), type := 3, pos := "ranges.go:183", after := #[⟨6, .data⟩], guard := none },
  { dst := some 63, op := .move (.tmp 0), type := 74, pos := "ranges.go:183", after := #[], guard := none },
  { dst := some 64, op := .move (.tmp 7), type := 3, pos := "ranges.go:183", after := #[], guard := none },
  { dst := some 65, op := .indexAddr 74 (.tmp 63) (.tmp 64), type := 0, pos := "ranges.go:183", after := #[⟨8, .data⟩, ⟨9, .data⟩], guard := none },
  { dst := some 66, op := .fieldAddr 95 (.tmp 65) 0, type := 0, pos := "ranges.go:183", after := #[⟨10, .data⟩], guard := none },
  { dst := some 67, op := .load 3 (.tmp 66), type := 3, pos := "ranges.go:183", after := #[⟨11, .data⟩], guard := none },
  { dst := some 68, op := .binOp .sub 3 (.tmp 62) (.tmp 67) 3, type := 3, pos := "ranges.go:183", after := #[⟨7, .data⟩, ⟨12, .data⟩], guard := none },
  { dst := some 69, op := .call { callee := .value (.func 82), args := #[.tmp 68], argTypes := #[3] }, type := 23, pos := "ranges.go:183", after := #[⟨13, .data⟩, ⟨2, .chain⟩], guard := none },
  { dst := some 70, op := .buildSlice 143 2 #[(0, .tmp 57), (1, .tmp 69)], type := 143, pos := "ranges.go:183", after := #[⟨2, .data⟩, ⟨14, .data⟩], guard := none },
  { dst := some 71, op := .call { callee := .value (.func 81), args := #[.tmp 70], argTypes := #[143] }, type := 23, pos := "ranges.go:183", after := #[⟨15, .data⟩, ⟨14, .chain⟩], guard := none },
  { dst := some 72, op := .call { callee := .builtin .append, args := #[.tmp 55, .tmp 71], argTypes := #[23, 23] }, type := 23, pos := "ranges.go:183", after := #[⟨0, .data⟩, ⟨16, .data⟩, ⟨16, .chain⟩], guard := none },
  { dst := some 6, op := .assign (.tmp 72), type := 23, pos := "ranges.go:183", after := #[⟨17, .data⟩, ⟨17, .chain⟩, ⟨0, .phase⟩, ⟨1, .phase⟩, ⟨2, .phase⟩, ⟨3, .phase⟩, ⟨4, .phase⟩, ⟨5, .phase⟩, ⟨6, .phase⟩, ⟨7, .phase⟩, ⟨8, .phase⟩, ⟨9, .phase⟩, ⟨10, .phase⟩, ⟨11, .phase⟩, ⟨12, .phase⟩, ⟨13, .phase⟩, ⟨14, .phase⟩, ⟨15, .phase⟩, ⟨16, .phase⟩, ⟨17, .phase⟩], guard := none }]
abbrev pt10_tab : List (Option Nat) := [none, none, none, none, none, none, some 18, none, none, none, none, none, none, none, none, none, none, none, none, none, none, none, none, none, none, none, none, none, none, none, none, none, none, none, none, none, none, none, none, none, none, none, none, none, none, none, none, none, none, none, none, none, none, none, none, some 0, some 1, some 2, some 3, some 4, some 5, some 6, some 7, some 8, some 9, some 10, some 11, some 12, some 13, some 14, some 15, some 16, some 17, none]

def pt10_val (w0 : World) (N : Int → List Int) (K b o i n c : Nat) (v6 : Value) (bs : List Int) (g f t : Int) : Nat → Value → World → Prop := fun j v W => match j with
  | 0 => v = v6
  | 1 => v = .int .i64 g
  | 2 => RB W w0.heap.size v6.ownBlock v (N g)
  | 3 => v = .slice (some ⟨b, o, none⟩) n c
  | 4 => v = .int .i64 (i : Int)
  | 5 => v = .pointer (some ⟨b, o + i * 2, none⟩)
  | 6 => v = .pointer (some ⟨b, o + i * 2 + 1, none⟩)
  | 7 => v = .int .i64 t
  | 8 => v = .slice (some ⟨b, o, none⟩) n c
  | 9 => v = .int .i64 (i : Int)
  | 10 => v = .pointer (some ⟨b, o + i * 2, none⟩)
  | 11 => v = .pointer (some ⟨b, o + i * 2, none⟩)
  | 12 => v = .int .i64 f
  | 13 => v = .int .i64 (t - f)
  | 14 => RB W w0.heap.size v6.ownBlock v (N (t - f))
  | 15 => ∃ p c, v = .slice (some ⟨p, 0, none⟩) 2 c ∧ RowsO W w0.heap.size p v6.ownBlock [N g, N (t - f)]
  | 16 => RB W w0.heap.size v6.ownBlock v (N g ++ N (t - f))
  | 17 => Kd.R (Kd.int .u8) 5 W w0.heap.size (fun _ => True) v (bs ++ (N g ++ N (t - f)))
  | 18 => Kd.R (Kd.int .u8) 5 W w0.heap.size (fun _ => True) v (bs ++ (N g ++ N (t - f)))
  | _ => True

set_option maxRecDepth 100000 in
set_option maxHeartbeats 4000000 in
theorem Put_pt10 (w0 : World) (N : Int → List Int) (K b o i n c : Nat) (v6 : Value) (bs : List Int) (g f t : Int) (t0 : List Value) (d0 : List Deferred) (w : World) (Q : Exit → Act → World → Prop) (hl : t0.length = pt10_tab.length)
    (t0_ : t0[0]? = some (.slice (some ⟨b, o, none⟩) n c)) (t6 : t0[6]? = some v6) (t7 : t0[7]? = some (.int .i64 (i : Int))) (t8 : t0[8]? = some (.int .i64 g))
    (hN : ∀ x, 0 ≤ x ∧ x ≤ 1099511627776 → field_Num.f K x = some (N x) ∧ (N x).length ≤ 8) (hw : Below w0.heap.size w0 w) (h6 : Kd.R (Kd.int .u8) 5 w w0.heap.size (fun _ => True) v6 bs) (hbs : bs.length ≤ 10000)
    (hb : some b ≠ v6.ownBlock) (hi : i < n) (hn2 : n ≤ 64) (cf : w.cell? ⟨b, o + i * 2, none⟩ = some (.int .i64 f)) (ct : w.cell? ⟨b, o + i * 2 + 1, none⟩ = some (.int .i64 t)) (hg0 : 0 ≤ g) (hg1 : g ≤ 1099511627776) (hf : 0 ≤ f) (hft : f ≤ t) (ht : t ≤ 1099511627776)
    (hQ : ∀ σ W, Below w0.heap.size w0 W ∧ Kr v6.ownBlock w W ∧ Kd.R (Kd.int .u8) 5 W w0.heap.size (fun _ => True) (σ 18) (bs ++ (N g ++ N (t - f))) → Q .normal (lazyA (fun _ => true) σ t0 pt10_tab d0) W) :
    (Code.region 10 pt10_ops.toArray true).wp Try.prog Q { tmps := t0.toArray, defers := d0 } w := by

  obtain ⟨hok6, inner6, hown6, _⟩ := id h6
  have hv6 : ∀ k, v6.ownBlock = some k → k < w.heap.size := fun k hk => own_lt hown6 k hk
  have hv6b : ∀ k, v6.ownBlock = some k → w0.heap.size ≤ k := fun k hk => own_base hown6 k hk
  refine wp_region_valsI (by kernel_rfl) pt10_tab (by kernel_rfl) hl (fun i W W' => if i = 17 then Kr v6.ownBlock W W' else Below W.heap.size W W') (fun L W => Kr v6.ownBlock w W ∧ Below w0.heap.size w0 W ∧ (L 17 = false → Kd.R (Kd.int .u8) 5 W w0.heap.size (fun _ => True) v6 bs)) (pt10_val w0 N K b o i n c v6 bs g f t) ⟨Kr.of_below (below_drew (Below.refl _ _)), below_drew hw, fun _ => Kd.R_below h6 (below_drew (Below.refl _ _))⟩ ?hst ⟨(fun j b h => by cases h), (fun j b h => by cases h), (fun j b h => by cases h), (fun j b h => by cases h), (fun j b h => by cases h), (fun j b h => by cases h), (fun j b h => by cases h), (fun j b h => by cases h), (fun j b h => by cases h), (fun j b h => by cases h), (fun j b h => by cases h), (fun j b h => by cases h), (fun j b h => by cases h), (fun j b h => by cases h), (fun j b h => by cases h), (fun j b h => by cases h), (fun j b h => by cases h), (fun j b h => by cases h), (fun j b h => by cases h), trivial⟩ ⟨?s0, ?s1, ?s2, ?s3, ?s4, ?s5, ?s6, ?s7, ?s8, ?s9, ?s10, ?s11, ?s12, ?s13, ?s14, ?s15, ?s16, ?s17, ?s18, trivial⟩ ?hdone

  case hst =>
    intro L i j v W W' hLi hLj hne hcl hR h
    have hk : Kr v6.ownBlock W W' := by
      by_cases e : i = 17
      · rwa [if_pos e] at hR
      · rw [if_neg e] at hR; exact Kr.of_below hR
    match j with
    | 0 => exact h
    | 1 => exact h
    | 2 => exact h.kr hk
    | 3 => exact h
    | 4 => exact h
    | 5 => exact h
    | 6 => exact h
    | 7 => exact h
    | 8 => exact h
    | 9 => exact h
    | 10 => exact h
    | 11 => exact h
    | 12 => exact h
    | 13 => exact h
    | 14 => exact h.kr hk
    | 15 => obtain ⟨p, c, h1, h2⟩ := h; exact ⟨p, c, h1, h2.kr hk⟩
    | 16 => exact h.kr hk
    | 17 => exact Kd.R_below h (by rwa [if_neg (fun e => hne e.symm)] at hR)
    | 18 => exact Kd.R_below h (by rwa [if_neg (fun e => by have := hcl 18 17 (by rfl) hLj; rw [e] at hLi; rw [hLi] at this; cases this)] at hR)
    | n + 19 => trivial

  case s0 =>
    intro L ρ W hLi hcl hold hJ hT
    have q6 := hold 6 18 _ rfl (by cases h : L 18 with | false => rfl | true => rw [hcl 18 0 (by rfl) h] at hLi; cases hLi) t6
    refine Op1.of_run (v := v6) (W' := W) (by clear hT hJ hcl; go_simp) ⟨Below.refl _ _, ⟨hJ.1, hJ.2.1, fun h => hJ.2.2 (by rwa [upd_ne (by decide)] at h)⟩, rfl⟩

  case s1 =>
    intro L ρ W hLi hcl hold hJ hT
    have q8 := hT.2.1 8 _ t8 rfl
    refine Op1.of_run (v := .int .i64 g) (W' := W) (by clear hT hJ hcl; go_simp) ⟨Below.refl _ _, ⟨hJ.1, hJ.2.1, fun h => hJ.2.2 (by rwa [upd_ne (by decide)] at h)⟩, rfl⟩

  case s2 =>
    intro L ρ W hLi hcl hold hJ hT
    have q56 : ρ (.tmp 56) = .int .i64 g := hT.1 56 1 rfl rfl
    have qf := hT.2.2.2 82
    refine Op1.of_call (f := 82) (args := #[.int .i64 (g)]) (W' := W) (by clear hT hJ hcl; go_simp) ?_
    refine (field_Num.calls K _ _ W (hN _ ⟨by omega, by omega⟩).1).mono ?_
    rintro e W2 ⟨v2, rfl, hr2, hb2⟩
    exact ⟨_, rfl, hb2, ⟨hJ.1.trans (Kr.of_below hb2), below_step hJ.2.1 hb2, fun h => Kd.R_below (hJ.2.2 (by rwa [upd_ne (by decide)] at h)) hb2⟩, (RB.new hr2 (fun k hk => Nat.lt_of_lt_of_le (hv6 k hk) hJ.1.1)).low hJ.2.1.size⟩

  case s3 =>
    intro L ρ W hLi hcl hold hJ hT
    have q0 := hT.2.1 0 _ t0_ rfl
    refine Op1.of_run (v := .slice (some ⟨b, o, none⟩) n c) (W' := W) (by clear hT hJ hcl; go_simp) ⟨Below.refl _ _, ⟨hJ.1, hJ.2.1, fun h => hJ.2.2 (by rwa [upd_ne (by decide)] at h)⟩, rfl⟩

  case s4 =>
    intro L ρ W hLi hcl hold hJ hT
    have q7 := hT.2.1 7 _ t7 rfl
    refine Op1.of_run (v := .int .i64 (i : Int)) (W' := W) (by clear hT hJ hcl; go_simp) ⟨Below.refl _ _, ⟨hJ.1, hJ.2.1, fun h => hJ.2.2 (by rwa [upd_ne (by decide)] at h)⟩, rfl⟩

  case s5 =>
    intro L ρ W hLi hcl hold hJ hT
    have q58 : ρ (.tmp 58) = .slice (some ⟨b, o, none⟩) n c := hT.1 58 3 rfl rfl
    have q59 : ρ (.tmp 59) = .int .i64 (i : Int) := hT.1 59 4 rfl rfl
    have e2 : (i : Int) < (n : Int) := by omega
    refine Op1.of_run (v := .pointer (some ⟨b, o + i * 2, none⟩)) (W' := W) (by clear hT hJ hcl; go_simp) ⟨Below.refl _ _, ⟨hJ.1, hJ.2.1, fun h => hJ.2.2 (by rwa [upd_ne (by decide)] at h)⟩, rfl⟩

  case s6 =>
    intro L ρ W hLi hcl hold hJ hT
    have q60 : ρ (.tmp 60) = .pointer (some ⟨b, o + i * 2, none⟩) := hT.1 60 5 rfl rfl
    refine Op1.of_run (v := .pointer (some ⟨b, o + i * 2 + 1, none⟩)) (W' := W) (by clear hT hJ hcl; go_simp) ⟨Below.refl _ _, ⟨hJ.1, hJ.2.1, fun h => hJ.2.2 (by rwa [upd_ne (by decide)] at h)⟩, rfl⟩

  case s7 =>
    intro L ρ W hLi hcl hold hJ hT
    have q61 : ρ (.tmp 61) = .pointer (some ⟨b, o + i * 2 + 1, none⟩) := hT.1 61 6 rfl rfl
    have cc := cell_kr hJ.1 (p := ⟨b, o + i * 2 + 1, none⟩) hb ct
    refine Op1.of_run (v := .int .i64 t) (W' := W) (by clear hT hJ hcl; go_simp) ⟨Below.refl _ _, ⟨hJ.1, hJ.2.1, fun h => hJ.2.2 (by rwa [upd_ne (by decide)] at h)⟩, rfl⟩

  case s8 =>
    intro L ρ W hLi hcl hold hJ hT
    have q0 := hT.2.1 0 _ t0_ rfl
    refine Op1.of_run (v := .slice (some ⟨b, o, none⟩) n c) (W' := W) (by clear hT hJ hcl; go_simp) ⟨Below.refl _ _, ⟨hJ.1, hJ.2.1, fun h => hJ.2.2 (by rwa [upd_ne (by decide)] at h)⟩, rfl⟩

  case s9 =>
    intro L ρ W hLi hcl hold hJ hT
    have q7 := hT.2.1 7 _ t7 rfl
    refine Op1.of_run (v := .int .i64 (i : Int)) (W' := W) (by clear hT hJ hcl; go_simp) ⟨Below.refl _ _, ⟨hJ.1, hJ.2.1, fun h => hJ.2.2 (by rwa [upd_ne (by decide)] at h)⟩, rfl⟩

  case s10 =>
    intro L ρ W hLi hcl hold hJ hT
    have q63 : ρ (.tmp 63) = .slice (some ⟨b, o, none⟩) n c := hT.1 63 8 rfl rfl
    have q64 : ρ (.tmp 64) = .int .i64 (i : Int) := hT.1 64 9 rfl rfl
    have e2 : (i : Int) < (n : Int) := by omega
    refine Op1.of_run (v := .pointer (some ⟨b, o + i * 2, none⟩)) (W' := W) (by clear hT hJ hcl; go_simp) ⟨Below.refl _ _, ⟨hJ.1, hJ.2.1, fun h => hJ.2.2 (by rwa [upd_ne (by decide)] at h)⟩, rfl⟩

  case s11 =>
    intro L ρ W hLi hcl hold hJ hT
    have q65 : ρ (.tmp 65) = .pointer (some ⟨b, o + i * 2, none⟩) := hT.1 65 10 rfl rfl
    refine Op1.of_run (v := .pointer (some ⟨b, o + i * 2, none⟩)) (W' := W) (by clear hT hJ hcl; go_simp) ⟨Below.refl _ _, ⟨hJ.1, hJ.2.1, fun h => hJ.2.2 (by rwa [upd_ne (by decide)] at h)⟩, rfl⟩

  case s12 =>
    intro L ρ W hLi hcl hold hJ hT
    have q66 : ρ (.tmp 66) = .pointer (some ⟨b, o + i * 2, none⟩) := hT.1 66 11 rfl rfl
    have cc := cell_kr hJ.1 (p := ⟨b, o + i * 2, none⟩) hb cf
    refine Op1.of_run (v := .int .i64 f) (W' := W) (by clear hT hJ hcl; go_simp) ⟨Below.refl _ _, ⟨hJ.1, hJ.2.1, fun h => hJ.2.2 (by rwa [upd_ne (by decide)] at h)⟩, rfl⟩

  case s13 =>
    intro L ρ W hLi hcl hold hJ hT
    have q62 : ρ (.tmp 62) = .int .i64 t := hT.1 62 7 rfl rfl
    have q67 : ρ (.tmp 67) = .int .i64 f := hT.1 67 12 rfl rfl
    have e1 : IntKind.i64.wrap (t - f) = t - f := IntWalk.i64_in _ (by omega)
    refine Op1.of_run (v := .int .i64 (t - f)) (W' := W) (by clear hT hJ hcl; go_simp) ⟨Below.refl _ _, ⟨hJ.1, hJ.2.1, fun h => hJ.2.2 (by rwa [upd_ne (by decide)] at h)⟩, rfl⟩

  case s14 =>
    intro L ρ W hLi hcl hold hJ hT
    have q68 : ρ (.tmp 68) = .int .i64 (t - f) := hT.1 68 13 rfl rfl
    have qf := hT.2.2.2 82
    refine Op1.of_call (f := 82) (args := #[.int .i64 (t - f)]) (W' := W) (by clear hT hJ hcl; go_simp) ?_
    refine (field_Num.calls K _ _ W (hN _ ⟨by omega, by omega⟩).1).mono ?_
    rintro e W2 ⟨v2, rfl, hr2, hb2⟩
    exact ⟨_, rfl, hb2, ⟨hJ.1.trans (Kr.of_below hb2), below_step hJ.2.1 hb2, fun h => Kd.R_below (hJ.2.2 (by rwa [upd_ne (by decide)] at h)) hb2⟩, (RB.new hr2 (fun k hk => Nat.lt_of_lt_of_le (hv6 k hk) hJ.1.1)).low hJ.2.1.size⟩

  case s15 =>
    intro L ρ W hLi hcl hold hJ hT
    have z57 : RB W w0.heap.size v6.ownBlock (ρ (.tmp 57)) (N g) := hT.1 57 2 rfl rfl
    obtain ⟨A57, c57, q57, l57, r57⟩ := Kd.R_reads z57
    rw [q57] at z57
    have z69 : RB W w0.heap.size v6.ownBlock (ρ (.tmp 69)) (N (t - f)) := hT.1 69 14 rfl rfl
    obtain ⟨A69, c69, q69, l69, r69⟩ := Kd.R_reads z69
    rw [q69] at z69
    refine Op1.of_run (v := .slice (some ⟨W.heap.size, 0, none⟩) 2 2) (W' := W.alloc (.cells #[.slice A57 (N g).length c57, .slice A69 (N (t - f)).length c69] 23)) (by clear hT hJ hcl; go_simp) ⟨below_alloc (Below.refl _ _) _, ⟨hJ.1.trans (Kr.of_below (below_alloc (Below.refl _ _) _)), below_step hJ.2.1 (below_alloc (Below.refl _ _) _), fun h => Kd.R_below (hJ.2.2 (by rwa [upd_ne (by decide)] at h)) (below_alloc (Below.refl _ _) _)⟩, _, _, rfl, rowsO2 (fun k hk => Nat.lt_of_lt_of_le (hv6 k hk) hJ.1.1) (by simpa only [q57] using z57) (by simpa only [q69] using z69)⟩

  case s16 =>
    intro L ρ W hLi hcl hold hJ hT
    obtain ⟨p70, c70, q70, z70⟩ := hT.1 70 15 rfl rfl
    have qf := hT.2.2.2 81
    refine Op1.of_call (f := 81) (args := #[.slice (some ⟨p70, 0, none⟩) 2 c70]) (W' := W) (by clear hT hJ hcl; go_simp) ?_
    refine (Join_calls p70 2 c70 _ W rfl (by omega) z70.at (by have h1 := (hN g ⟨by omega, by omega⟩).2; have h2 := (hN (t - f) ⟨by omega, by omega⟩).2; simp only [total]; omega)).mono ?_
    rintro e W2 ⟨v2, rfl, hr2, hb2⟩
    exact ⟨_, rfl, hb2, ⟨hJ.1.trans (Kr.of_below hb2), below_step hJ.2.1 hb2, fun h => Kd.R_below (hJ.2.2 (by rwa [upd_ne (by decide)] at h)) hb2⟩, (RB.new (by simpa using hr2) (fun k hk => Nat.lt_of_lt_of_le (hv6 k hk) hJ.1.1)).low hJ.2.1.size⟩

  case s17 =>
    intro L ρ W hLi hcl hold hJ hT
    have q55 : ρ (.tmp 55) = v6 := hT.1 55 0 rfl rfl
    have z71 : RB W w0.heap.size v6.ownBlock (ρ (.tmp 71)) (N g ++ N (t - f)) := hT.1 71 16 rfl rfl
    obtain ⟨A71, c71, q71, l71, r71⟩ := Kd.R_reads z71
    rw [q71] at z71
    have hO := hJ.2.2 hLi
    have hlen : (N g ++ N (t - f)).length ≤ 16 := by have h1 := (hN g ⟨by omega, by omega⟩).2; have h2 := (hN (t - f) ⟨by omega, by omega⟩).2; simp only [List.length_append]; omega
    obtain ⟨v1, w1, hrun, hR1, hgr⟩ := append_run W w0.heap.size v6 bs (N g ++ N (t - f)) A71 c71 hO r71 hJ.2.1.size (by omega)
    have hb1 : Below w0.heap.size w0 w1 := hJ.2.1.grown hgr hJ.2.1.size (fun k hk => (hv6b k hk))
    have hk1 : Kr v6.ownBlock W w1 := ⟨hgr.size, fun k h1 h2 => hgr.block k h1 h2⟩
    refine Op1.of_run (v := v1) (W' := w1) (by simp [-List.length_append, execOp, resolve, invoke, builtin, q55, q71, hrun, Result.andThen]) ⟨hk1, ⟨hJ.1.trans hk1, hb1, fun h => by simp [updL] at h⟩, hR1⟩

  case s18 =>
    intro L ρ W hLi hcl hold hJ hT
    have z72 : Kd.R (Kd.int .u8) 5 W w0.heap.size (fun _ => True) (ρ (.tmp 72)) (bs ++ (N g ++ N (t - f))) := hT.1 72 17 rfl rfl
    obtain ⟨A72, c72, q72, l72, r72⟩ := Kd.R_reads z72
    rw [q72] at z72
    refine Op1.of_run (v := .slice A72 (bs ++ (N g ++ N (t - f))).length c72) (W' := W) (by clear hT hJ hcl; go_simp) ⟨Below.refl _ _, ⟨hJ.1, hJ.2.1, fun h => hJ.2.2 (by rwa [upd_ne (by decide)] at h)⟩, z72⟩

  case hdone =>
    intro σ L W hL hJ hV
    exact hQ σ W ⟨hJ.2.1, hJ.1, hV 18 (by decide)⟩

end Go.Proofs.Ytiladcdogbeomaa.QRangesPlays

namespace Go.Proofs.Ytiladcdogbeomaa.QRangesPlays
open Go.RowKit Go.Shelf Go.Proofs.YtiladcdogbeomaaW.PrintWords Go.Proofs.YtiladcdogbeomaaW.PrintLast Go.Proofs.YtiladcdogbeomaaW.PrintMore Go.Proofs.Ytiladcdogbeomaa.RowLaws Go.Proofs.Ytiladcdogbeomaa.Lazy
attribute [local go_sem] Oper.semAt_some
/-- The span at a place. -/
def sp (l : List S95) (i : Nat) : S95 := l.getD i ⟨0, 0⟩
theorem sp_get {l : List S95} {i : Nat} (h : i < l.length) : sp l i = l[i] := by simp [sp, h]
/-- The bytes behind m rounds. -/
def putTo (N : Int → List Int) (l : List S95) : Nat → List Int
  | 0 => N (sp l (l.length - 1)).f1 ++ N ((l.length : Int) - 1) ++ N ((sp l (l.length - 1)).f1 - (sp l (l.length - 1)).f0)
  | m + 1 => putTo N l m ++ (N ((sp l (l.length - 2 - m + 1)).f0 - (sp l (l.length - 2 - m)).f1 - 2) ++ N ((sp l (l.length - 2 - m)).f1 - (sp l (l.length - 2 - m)).f0))
theorem wf_sp {lo : Int} : ∀ {l : List S95}, wf lo l → ∀ i, i < l.length → lo ≤ (sp l i).f0 ∧ (sp l i).f0 ≤ (sp l i).f1 ∧ (sp l i).f1 ≤ 1099511627776 := fun {l} h i hi => by
  rw [sp_get hi]; exact wf_mem h _ (List.getElem_mem _)
theorem wf_next {lo : Int} : ∀ {l : List S95}, wf lo l → ∀ i, i + 1 < l.length → (sp l i).f1 + 2 ≤ (sp l (i + 1)).f0
  | [], _, i, hi => by simp at hi
  | [x], _, i, hi => by simp at hi
  | x :: y :: r, ⟨_, _, _, h⟩, 0, _ => by have := h.1; simpa [sp] using this
  | x :: y :: r, ⟨_, _, _, h⟩, i + 1, hi => by
    have := wf_next h i (by simpa using hi)
    simpa [sp] using this
theorem putTo_len {N : Int → List Int} {l : List S95} (hw : wf 0 l) (hN : ∀ x, 0 ≤ x ∧ x ≤ 1099511627776 → (N x).length ≤ 8) (hl0 : 0 < l.length) (hl : l.length ≤ 64) : ∀ m, m + 1 ≤ l.length → (putTo N l m).length ≤ 24 + 16 * m := by
  intro m
  induction m with
  | zero =>
    intro _
    have h1 := wf_sp hw (l.length - 1) (by omega)
    have a1 := hN (sp l (l.length - 1)).f1 ⟨by omega, by omega⟩
    have a2 := hN ((l.length : Int) - 1) ⟨by omega, by omega⟩
    have a3 := hN ((sp l (l.length - 1)).f1 - (sp l (l.length - 1)).f0) ⟨by omega, by omega⟩
    simp only [putTo, List.length_append]; omega
  | succ m ih =>
    intro hm
    have := ih (by omega)
    have h1 := wf_sp hw (l.length - 2 - m) (by omega)
    have h3 := wf_sp hw (l.length - 2 - m + 1) (by omega)
    have h2 := wf_next hw (l.length - 2 - m) (by omega)
    have a1 := hN ((sp l (l.length - 2 - m + 1)).f0 - (sp l (l.length - 2 - m)).f1 - 2) ⟨by omega, by omega⟩
    have a3 := hN ((sp l (l.length - 2 - m)).f1 - (sp l (l.length - 2 - m)).f0) ⟨by omega, by omega⟩
    simp only [putTo, List.length_append]; omega
set_option maxRecDepth 100000 in
set_option maxHeartbeats 4000000 in
theorem Put_calls (N : Int → List Int) (K kc : Nat) (hN : ∀ x, 0 ≤ x ∧ x ≤ 1099511627776 → field_Num.f K x = some (N x) ∧ (N x).length ≤ 8) (A : Option Addr) (c : Nat) (l : List S95) (w : World)
    (hC : Kd.C k95 w A l.length l) (hc : l.length ≤ c) (hw : wf 0 l) (hl0 : 0 < l.length) (hl : l.length ≤ 64) (hck : ranges_Check.f kc l = some 0) :
    Calls Try.prog 42 #[.slice A l.length c] w fun e w' => ∃ v, e = .returned (.tuple #[v, .int .i64 0]) ∧ Kd.R (Kd.int .u8) 5 w' w.heap.size (fun _ => True) v (putTo N l (l.length - 1)) ∧ Below w.heap.size w w' := by
  obtain ⟨b, o, rfl, z0, z1⟩ := row_at hC (l.length - 1) (by omega)
  have hlast := wf_sp hw (l.length - 1) (by omega)
  rw [← sp_get (by omega)] at z0 z1
  obtain ⟨f, hf⟩ : ∃ f, (sp l (l.length - 1)).f0 = f := ⟨_, rfl⟩
  obtain ⟨t, ht⟩ : ∃ t, (sp l (l.length - 1)).f1 = t := ⟨_, rfl⟩
  rw [hf] at z0 hlast
  rw [ht] at z1 hlast
  have hP0 := Aside0.mk (show putTo N l 0 = N t ++ N ((l.length : Int) - 1) ++ N (t - f) by simp only [putTo, ht, hf])
  have HC := Aside0.mk hC
  have HW := Aside0.mk hw
  have HCK := Aside0.mk hck
  have HN := Aside0.mk hN
  obtain ⟨n, hn⟩ : ∃ n, l.length = n := ⟨_, rfl⟩
  have HNN := Aside0.mk hn
  have hbl : b < w.heap.size := World.block_lt_of_cell? _ _ z0
  rw [hn] at hc hl0 hl z0 z1 hP0 ⊢
  have HLC := Aside0.mk hc
  clear hC hw hck hN hn hf ht
  have e1 : (n : Int) ≤ 64 := by omega
  have e2 : ¬ ((n : Int) - 1 < 0) := by omega
  have e3 : ((n : Int) - 1).toNat = n - 1 := by omega
  have e4 : (n : Int) - 1 < (n : Int) := by omega
  have e5 : IntKind.i64.wrap ((n : Int) - 1) = (n : Int) - 1 := IntWalk.i64_in _ (by omega)
  have e6 : IntKind.i64.wrap ((n : Int) - 2) = (n : Int) - 2 := IntWalk.i64_in _ (by omega)
  go_enter Try.func42, Try.ntmps42
  go_wp2_with (go_at_call 80; refine (HNN.out ▸ ranges_Check.calls kc _ c l 0 _ HC.out (HNN.out ▸ HLC.out) HCK.out : Calls Try.prog 80 #[.slice _ n c] w _).mono ?_; rintro e w2 ⟨rfl, hb⟩; have HB := Aside0.mk hb; have y0 := (hb.cell (p := ⟨b, o + (n - 1) * 2, none⟩) hbl).trans z0; have y1 := (hb.cell (p := ⟨b, o + (n - 1) * 2 + 1, none⟩) hbl).trans z1; clear hb)
  refine Put_pt5 w N K w2.heap.size (some ⟨b, o, none⟩) n c f t _ _ _ _ (by rfl) (by rfl) (by rfl) HN.out ?hw ?c0 ?c1 (by omega) (by omega) (by omega) (by omega) (by omega) ?_
  case hw => exact below_step ((Below.refl _ _).trans HB.out) (below_alloc (Below.refl _ _) _)
  case c0 => unfold World.cell?; rw [heap_alloc_new]; rfl
  case c1 => unfold World.cell?; rw [heap_alloc_new]; rfl
  intro σ W6 h6
  have hW6 := Aside0.mk h6.2.1
  have hR6 := Aside0.mk h6.2.2
  clear h6
  simp only [lazyA, lazyT, pt5_tab, List.zipWith_cons_cons, List.zipWith_nil_left, cond_true]
  rename_i K0 hK0
  refine hK0 _ _ ?_
  generalize σ 15 = v6 at hR6 ⊢
  go_wp2
  go_loopw [6, 7] (fun v i wr => ∃ m : Nat, m + 1 ≤ n ∧ i = .int .i64 ((n : Int) - 2 - m) ∧ Aside0 (Kd.R (Kd.int .u8) 5 wr w.heap.size (fun _ => True) v (putTo N l m)) ∧ Aside0 (Below w.heap.size w wr)) (fun _ i _ => (intOf i + 1).toNat)
  case atStart => exact ⟨0, by omega, by simp, ⟨by rw [hP0.out]; exact Kd.R_mono hR6.out (fun _ _ => trivial)⟩, hW6⟩
  case round =>
    obtain ⟨m, hm, rfl, HR, HBW⟩ := hrel
    by_cases hlt : m + 2 ≤ n
    · obtain ⟨i, hi⟩ : ∃ i : Nat, n - 2 - m = i := ⟨_, rfl⟩
      have ei : (n : Int) - 2 - (m : Int) = (i : Int) := by omega
      rw [ei]
      obtain ⟨ba, oa, hA, ya0, ya1⟩ := row_at HC.out i (by have := HNN.out; omega)
      obtain ⟨bb, ob, hB2, yb0, yb1⟩ := row_at HC.out (i + 1) (by have := HNN.out; omega)
      cases hA
      cases hB2
      have hsi := wf_sp HW.out i (by have := HNN.out; omega)
      have hsj := wf_sp HW.out (i + 1) (by have := HNN.out; omega)
      have hsn := wf_next HW.out i (by have := HNN.out; omega)
      rw [← sp_get (by have := HNN.out; omega)] at ya0 ya1 yb0 yb1
      have HP := Aside0.mk (show putTo N l (m + 1) = putTo N l m ++ (N ((sp l (i + 1)).f0 - (sp l i).f1 - 2) ++ N ((sp l i).f1 - (sp l i).f0)) by have := HNN.out; subst hi; simp only [putTo]; rw [this])
      have HPL := Aside0.mk (putTo_len HW.out (fun x hx => (HN.out x hx).2) (by have := HNN.out; omega) (by have := HNN.out; omega) m (by have := HNN.out; omega))
      obtain ⟨fa, hfa⟩ : ∃ x, (sp l i).f0 = x := ⟨_, rfl⟩
      obtain ⟨ta, hta⟩ : ∃ x, (sp l i).f1 = x := ⟨_, rfl⟩
      obtain ⟨fb, hfb⟩ : ∃ x, (sp l (i + 1)).f0 = x := ⟨_, rfl⟩
      rw [hfa, hta] at hsi HP
      rw [hfb] at hsj HP
      rw [hta, hfb] at hsn
      rw [hfa] at ya0
      rw [hta] at ya1
      rw [hfb] at yb0
      have hba : b < w.heap.size := World.block_lt_of_cell? _ _ ya0
      have wa0 := (HBW.out.cell (p := ⟨b, o + i * 2, none⟩) hba).trans ya0
      have wa1 := (HBW.out.cell (p := ⟨b, o + i * 2 + 1, none⟩) hba).trans ya1
      have wb0 := (HBW.out.cell (p := ⟨b, o + (i + 1) * 2, none⟩) hba).trans yb0
      have hne : some b ≠ u6.ownBlock := by
        obtain ⟨inner, ho⟩ := Kd.R_own HR.out
        intro e
        have := own_base ho b e.symm
        omega
      clear ya0 ya1 yb0 yb1 hfa hta hfb
      go_wp2
      refine Put_pt9 u6.ownBlock b o i n c fb ta _ _ _ _ (by rfl) (by rfl) (by rfl) hne (by omega) (by omega) wb0 wa1 (by omega) (by omega) (by omega) ?_
      intro σ W7 hB7 hσ
      have HB7 := Aside0.mk hB7
      clear hB7
      simp only [lazyA, lazyT, pt9_tab, List.zipWith_cons_cons, List.zipWith_nil_left, cond_true]
      rename_i K0 hK0
      refine hK0 _ _ ?_
      rw [hσ]
      go_wp2
      have ua0 := (HB7.out.cell (World.block_lt_of_cell? _ _ wa0)).trans wa0
      have ua1 := (HB7.out.cell (World.block_lt_of_cell? _ _ wa1)).trans wa1
      refine Put_pt10 w N K b o i n c u6 (putTo N l m) (fb - ta - 2) fa ta _ _ _ _ (by rfl) (by rfl) (by rfl) (by rfl) (by rfl) HN.out (below_step HBW.out HB7.out) (Kd.R_below HR.out HB7.out) (by have := HPL.out; omega) hne (by omega) (by omega) ua0 ua1 (by omega) (by omega) (by omega) (by omega) (by omega) ?_
      intro σ2 W8 h8
      have HB8 := Aside0.mk h8.1
      have HR8 := Aside0.mk h8.2.2
      clear h8
      simp only [lazyA, lazyT, pt10_tab, List.zipWith_cons_cons, List.zipWith_nil_left, cond_true]
      rename_i K1 hK1
      refine hK1 _ _ ?_
      go_wp2
      go_roundw
      case rel => exact ⟨m + 1, by omega, by rw [show (i : Int) - 1 = (n : Int) - 2 - ((m + 1 : Nat) : Int) by omega]; skip, ⟨by rw [HP.out]; exact HR8.out⟩, HB8⟩
      case measure => simp [intOf]
    · have em : m = n - 1 := by omega
      have ei : (n : Int) - 2 - (m : Int) = -1 := by omega
      rw [ei]
      go_wp2
      go_ret2
      exact ⟨_, rfl, by rw [← em]; exact HR.out, HBW.out⟩
end Go.Proofs.Ytiladcdogbeomaa.QRangesPlays

namespace Go.Proofs.Ytiladcdogbeomaa.QRangesPlays
open Go.RowKit Go.Shelf Go.Proofs.YtiladcdogbeomaaW.PrintWords Go.Proofs.YtiladcdogbeomaaW.PrintLast Go.Proofs.YtiladcdogbeomaaW.PrintMore Go.Proofs.Ytiladcdogbeomaa.RowLaws Go.Proofs.Ytiladcdogbeomaa.Lazy
attribute [local go_sem] Oper.semAt_some
abbrev nx3_ops : List Oper := [{ dst := some 14, op := .move (.tmp 0), type := 132, pos := "ranges.go:200", after := #[], guard := none },
  { dst := some 15, op := .nilCheck (.tmp 14), type := 0, pos := "ranges.go:200", after := #[⟨0, .data⟩], guard := none },
  { dst := some 16, op := .fieldAddr 134 (.tmp 15) 0, type := 0, pos := "ranges.go:200", after := #[⟨1, .data⟩], guard := none },
  { dst := some 17, op := .load 23 (.tmp 16), type := 23, pos := "ranges.go:200", after := #[⟨2, .data⟩], guard := none },
  { dst := some 18, op := .move (.tmp 0), type := 132, pos := "ranges.go:200", after := #[], guard := none },
  { dst := some 19, op := .nilCheck (.tmp 18), type := 0, pos := "ranges.go:200", after := #[⟨4, .data⟩], guard := none },
  { dst := some 20, op := .fieldAddr 134 (.tmp 19) 1, type := 0, pos := "ranges.go:200", after := #[⟨5, .data⟩], guard := none },
  { dst := some 21, op := .load 3 (.tmp 20), type := 3, pos := "ranges.go:200", after := #[⟨6, .data⟩], guard := none },
  { dst := some 22, op := .slice 23 (.tmp 17) (some (.tmp 21)) none none, type := 23, pos := "ranges.go:200", after := #[⟨3, .data⟩, ⟨7, .data⟩], guard := none },
  { dst := some 23, op := .call { callee := .value (.func 98), args := #[.tmp 22], argTypes := #[23] }, type := 145, pos := "ranges.go:200", after := #[⟨8, .data⟩], guard := none },
  { dst := some 13, op := .move (.tmp 23), type := 145, pos := "ranges.go:200", after := #[⟨9, .data⟩], guard := none },
  { dst := some 24, op := .extract (.tmp 13) 0, type := 3, pos := "ranges.go:200", after := #[⟨10, .data⟩], guard := none },
  { dst := some 25, op := .extract (.tmp 13) 1, type := 3, pos := "ranges.go:200", after := #[⟨10, .data⟩, ⟨14, .gcOnly .lateStores⟩], guard := none },
  { dst := some 26, op := .extract (.tmp 13) 2, type := 29, pos := "ranges.go:200", after := #[⟨10, .data⟩, ⟨15, .gcOnly .lateStores⟩], guard := none },
  { dst := some 5, op := .assign (.tmp 24), type := 3, pos := "ranges.go:200", after := #[⟨11, .data⟩, ⟨9, .chain⟩, ⟨0, .phase⟩, ⟨1, .phase⟩, ⟨2, .phase⟩, ⟨3, .phase⟩, ⟨4, .phase⟩, ⟨5, .phase⟩, ⟨6, .phase⟩, ⟨7, .phase⟩, ⟨8, .phase⟩, ⟨9, .phase⟩, ⟨10, .phase⟩, ⟨11, .phase⟩, ⟨12, .textOnly .lateStores⟩, ⟨13, .textOnly .lateStores⟩], guard := none },
  { dst := some 6, op := .assign (.tmp 25), type := 3, pos := "ranges.go:200", after := #[⟨12, .data⟩, ⟨14, .chain⟩, ⟨0, .phase⟩, ⟨1, .phase⟩, ⟨2, .phase⟩, ⟨3, .phase⟩, ⟨4, .phase⟩, ⟨5, .phase⟩, ⟨6, .phase⟩, ⟨7, .phase⟩, ⟨8, .phase⟩, ⟨9, .phase⟩, ⟨10, .phase⟩, ⟨11, .phase⟩, ⟨12, .phase⟩, ⟨13, .textOnly .lateStores⟩, ⟨14, .phase⟩], guard := none },
  { dst := some 7, op := .assign (.tmp 26), type := 29, pos := "ranges.go:200", after := #[⟨13, .data⟩, ⟨15, .chain⟩, ⟨0, .phase⟩, ⟨1, .phase⟩, ⟨2, .phase⟩, ⟨3, .phase⟩, ⟨4, .phase⟩, ⟨5, .phase⟩, ⟨6, .phase⟩, ⟨7, .phase⟩, ⟨8, .phase⟩, ⟨9, .phase⟩, ⟨10, .phase⟩, ⟨11, .phase⟩, ⟨12, .phase⟩, ⟨13, .phase⟩, ⟨14, .phase⟩, ⟨15, .phase⟩], guard := none }]
abbrev nx3_tab : List (Option Nat) := [none, none, none, none, none, some 14, some 15, some 16, none, none, none, none, none, some 10, some 0, some 1, some 2, some 3, some 4, some 5, some 6, some 7, some 8, some 9, some 11, some 12, some 13, none, none, none, none, none, none, none, none, none, none, none, none, none, none, none, none, none, none, none, none, none, none, none]

def nx3_val (k g : Nat) (A A2 : Option Addr) (c c2 : Nat) (bs : List Int) (u r1 r2 r3 : Int) : Nat → Value → World → Prop := fun j v W => match j with
  | 0 => v = .pointer (some ⟨g, 0, none⟩)
  | 1 => v = .pointer (some ⟨g, 0, none⟩)
  | 2 => v = .pointer (some ⟨g, 0, none⟩)
  | 3 => v = .slice A bs.length c
  | 4 => v = .pointer (some ⟨g, 0, none⟩)
  | 5 => v = .pointer (some ⟨g, 0, none⟩)
  | 6 => v = .pointer (some ⟨g, 1, none⟩)
  | 7 => v = .int .i64 u
  | 8 => v = .slice A2 (bs.drop u.toNat).length c2
  | 9 => v = .tuple #[.int .i64 r1, .int .i64 r2, .int .i64 r3]
  | 10 => v = .tuple #[.int .i64 r1, .int .i64 r2, .int .i64 r3]
  | 11 => v = .int .i64 r1
  | 12 => v = .int .i64 r2
  | 13 => v = .int .i64 r3
  | 14 => v = .int .i64 r1
  | 15 => v = .int .i64 r2
  | 16 => v = .int .i64 r3
  | _ => True

set_option maxRecDepth 100000 in
set_option maxHeartbeats 4000000 in
theorem Next_r3 (k g : Nat) (A A2 : Option Addr) (c c2 : Nat) (bs : List Int) (u r1 r2 r3 : Int) (t0 : List Value) (d0 : List Deferred) (w : World) (Q : Exit → Act → World → Prop) (hl : t0.length = nx3_tab.length)
    (t0_ : t0[0]? = some (.pointer (some ⟨g, 0, none⟩))) (k0 : w.cell? ⟨g, 0, none⟩ = some (.slice A bs.length c)) (k1 : w.cell? ⟨g, 1, none⟩ = some (.int .i64 u))
    (hcut : ∀ W, (Instr.slice 23 (.slice A bs.length c) (some (.int .i64 u)) none none).run Try.prog W = .ok (.slice A2 (bs.drop u.toNat).length c2) W)
    (hC2 : Kd.C (Kd.int .u8) w A2 (bs.drop u.toNat).length (bs.drop u.toNat)) (hc2 : (bs.drop u.toNat).length ≤ c2) (hf : varint_Shortest.f k (bs.drop u.toNat) = some (r1, r2, r3))
    (hQ : ∀ σ W, Below w.heap.size w W → σ 14 = .int .i64 r1 ∧ σ 15 = .int .i64 r2 ∧ σ 16 = .int .i64 r3 → Q .normal (lazyA (fun _ => true) σ t0 nx3_tab d0) W) :
    (Code.region 3 nx3_ops.toArray true).wp Try.prog Q { tmps := t0.toArray, defers := d0 } w := by
  refine wp_region_vals (by kernel_rfl) nx3_tab (by kernel_rfl) hl (fun W W' => Below W.heap.size W W') (fun _ => True) (nx3_val k g A A2 c c2 bs u r1 r2 r3) (below_drew (Below.refl _ _)) trivial (fun _ _ _ h k => below_step h k) ?hst ⟨(fun j b h => by cases h), (fun j b h => by cases h), (fun j b h => by cases h), (fun j b h => by cases h), (fun j b h => by cases h), (fun j b h => by cases h), (fun j b h => by cases h), (fun j b h => by cases h), (fun j b h => by cases h), (fun j b h => by cases h), (fun j b h => by cases h), (fun j b h => by cases h), (fun j b h => by cases h), (fun j b h => by cases h), (fun j b h => by cases h), (fun j b h => by cases h), (fun j b h => by cases h), trivial⟩ ⟨?s0, ?s1, ?s2, ?s3, ?s4, ?s5, ?s6, ?s7, ?s8, ?s9, ?s10, ?s11, ?s12, ?s13, ?s14, ?s15, ?s16, trivial⟩ ?hdone
  case hst =>
    intro j v W W' hJ hR h
    match j with
    | 0 => exact h
    | 1 => exact h
    | 2 => exact h
    | 3 => exact h
    | 4 => exact h
    | 5 => exact h
    | 6 => exact h
    | 7 => exact h
    | 8 => exact h
    | 9 => exact h
    | 10 => exact h
    | 11 => exact h
    | 12 => exact h
    | 13 => exact h
    | 14 => exact h
    | 15 => exact h
    | 16 => exact h
    | n + 17 => trivial

  case s0 =>
    intro ρ W hR hJ hT
    have q0 := hT.2.1 0 _ t0_ rfl
    refine Op1.of_run (v := .pointer (some ⟨g, 0, none⟩)) (W' := W) (by clear hT hJ; go_simp) ⟨Below.refl _ _, trivial, rfl⟩

  case s1 =>
    intro ρ W hR hJ hT
    have q14 : ρ (.tmp 14) = .pointer (some ⟨g, 0, none⟩) := hT.1 14 0 rfl rfl
    refine Op1.of_run (v := .pointer (some ⟨g, 0, none⟩)) (W' := W) (by clear hT hJ; go_simp) ⟨Below.refl _ _, trivial, rfl⟩

  case s2 =>
    intro ρ W hR hJ hT
    have q15 : ρ (.tmp 15) = .pointer (some ⟨g, 0, none⟩) := hT.1 15 1 rfl rfl
    refine Op1.of_run (v := .pointer (some ⟨g, 0, none⟩)) (W' := W) (by clear hT hJ; go_simp) ⟨Below.refl _ _, trivial, rfl⟩

  case s3 =>
    intro ρ W hR hJ hT
    have q16 : ρ (.tmp 16) = .pointer (some ⟨g, 0, none⟩) := hT.1 16 2 rfl rfl
    have cc := (hR.cell (World.block_lt_of_cell? _ _ k0)).trans k0
    refine Op1.of_run (v := .slice A bs.length c) (W' := W) (by clear hT hJ; go_simp) ⟨Below.refl _ _, trivial, rfl⟩

  case s4 =>
    intro ρ W hR hJ hT
    have q0 := hT.2.1 0 _ t0_ rfl
    refine Op1.of_run (v := .pointer (some ⟨g, 0, none⟩)) (W' := W) (by clear hT hJ; go_simp) ⟨Below.refl _ _, trivial, rfl⟩

  case s5 =>
    intro ρ W hR hJ hT
    have q18 : ρ (.tmp 18) = .pointer (some ⟨g, 0, none⟩) := hT.1 18 4 rfl rfl
    refine Op1.of_run (v := .pointer (some ⟨g, 0, none⟩)) (W' := W) (by clear hT hJ; go_simp) ⟨Below.refl _ _, trivial, rfl⟩

  case s6 =>
    intro ρ W hR hJ hT
    have q19 : ρ (.tmp 19) = .pointer (some ⟨g, 0, none⟩) := hT.1 19 5 rfl rfl
    refine Op1.of_run (v := .pointer (some ⟨g, 1, none⟩)) (W' := W) (by clear hT hJ; go_simp) ⟨Below.refl _ _, trivial, rfl⟩

  case s7 =>
    intro ρ W hR hJ hT
    have q20 : ρ (.tmp 20) = .pointer (some ⟨g, 1, none⟩) := hT.1 20 6 rfl rfl
    have cc := (hR.cell (World.block_lt_of_cell? _ _ k1)).trans k1
    refine Op1.of_run (v := .int .i64 u) (W' := W) (by clear hT hJ; go_simp) ⟨Below.refl _ _, trivial, rfl⟩

  case s8 =>
    intro ρ W hR hJ hT
    have q17 : ρ (.tmp 17) = .slice A bs.length c := hT.1 17 3 rfl rfl
    have q21 : ρ (.tmp 21) = .int .i64 u := hT.1 21 7 rfl rfl
    have hc := hcut W
    refine Op1.of_run (v := .slice A2 (bs.drop u.toNat).length c2) (W' := W) (by clear hT hJ; go_simp) ⟨Below.refl _ _, trivial, rfl⟩

  case s9 =>
    intro ρ W hR hJ hT
    have q22 : ρ (.tmp 22) = .slice A2 (bs.drop u.toNat).length c2 := hT.1 22 8 rfl rfl
    have qf := hT.2.2.2 98
    refine Op1.of_call (f := 98) (args := #[.slice A2 (bs.drop u.toNat).length c2]) (W' := W) (by clear hT hJ; go_simp) ?_
    refine (varint_Shortest.calls k A2 c2 _ r1 r2 r3 W (Kd.C_below hC2 hR) hc2 hf).mono ?_
    rintro e W2 ⟨rfl, hb⟩
    exact ⟨_, rfl, hb, trivial, rfl⟩

  case s10 =>
    intro ρ W hR hJ hT
    have q23 : ρ (.tmp 23) = .tuple #[.int .i64 r1, .int .i64 r2, .int .i64 r3] := hT.1 23 9 rfl rfl
    refine Op1.of_run (v := .tuple #[.int .i64 r1, .int .i64 r2, .int .i64 r3]) (W' := W) (by clear hT hJ; go_simp) ⟨Below.refl _ _, trivial, rfl⟩

  case s11 =>
    intro ρ W hR hJ hT
    have q13 : ρ (.tmp 13) = .tuple #[.int .i64 r1, .int .i64 r2, .int .i64 r3] := hT.1 13 10 rfl rfl
    refine Op1.of_run (v := .int .i64 r1) (W' := W) (by clear hT hJ; go_simp) ⟨Below.refl _ _, trivial, rfl⟩

  case s12 =>
    intro ρ W hR hJ hT
    have q13 : ρ (.tmp 13) = .tuple #[.int .i64 r1, .int .i64 r2, .int .i64 r3] := hT.1 13 10 rfl rfl
    refine Op1.of_run (v := .int .i64 r2) (W' := W) (by clear hT hJ; go_simp) ⟨Below.refl _ _, trivial, rfl⟩

  case s13 =>
    intro ρ W hR hJ hT
    have q13 : ρ (.tmp 13) = .tuple #[.int .i64 r1, .int .i64 r2, .int .i64 r3] := hT.1 13 10 rfl rfl
    refine Op1.of_run (v := .int .i64 r3) (W' := W) (by clear hT hJ; go_simp) ⟨Below.refl _ _, trivial, rfl⟩

  case s14 =>
    intro ρ W hR hJ hT
    have q24 : ρ (.tmp 24) = .int .i64 r1 := hT.1 24 11 rfl rfl
    refine Op1.of_run (v := .int .i64 r1) (W' := W) (by clear hT hJ; go_simp) ⟨Below.refl _ _, trivial, rfl⟩

  case s15 =>
    intro ρ W hR hJ hT
    have q25 : ρ (.tmp 25) = .int .i64 r2 := hT.1 25 12 rfl rfl
    refine Op1.of_run (v := .int .i64 r2) (W' := W) (by clear hT hJ; go_simp) ⟨Below.refl _ _, trivial, rfl⟩

  case s16 =>
    intro ρ W hR hJ hT
    have q26 : ρ (.tmp 26) = .int .i64 r3 := hT.1 26 13 rfl rfl
    refine Op1.of_run (v := .int .i64 r3) (W' := W) (by clear hT hJ; go_simp) ⟨Below.refl _ _, trivial, rfl⟩

  case hdone =>
    intro σ W hR hJ hV
    exact hQ σ W hR ⟨hV 14 (by decide), hV 15 (by decide), hV 16 (by decide)⟩

/-- A reader of numbers lies at g. -/
def Cur (W : World) (g : Nat) (A : Option Addr) (n c : Nat) (u e : Int) : Prop := W.heap[g]? = some (.cells #[.slice A n c, .int .i64 u, .int .i64 e] 134 (0, 0))
theorem Cur.cells {W : World} {g : Nat} {A : Option Addr} {n c : Nat} {u e : Int} (h : Cur W g A n c u e) : W.cell? ⟨g, 0, none⟩ = some (.slice A n c) ∧ W.cell? ⟨g, 1, none⟩ = some (.int .i64 u) ∧ W.cell? ⟨g, 2, none⟩ = some (.int .i64 e) := by
  unfold Cur at h
  refine ⟨?_, ?_, ?_⟩ <;> (unfold World.cell?; rw [h]; rfl)
theorem Cur.free {W : World} {g : Nat} {A : Option Addr} {n c : Nat} {u e : Int} (h : Cur W g A n c u e) : W.frozen? ⟨g, 1, none⟩ = false ∧ W.frozen? ⟨g, 2, none⟩ = false := by
  unfold Cur at h
  refine ⟨?_, ?_⟩ <;> (unfold World.frozen?; rw [h]; simp)
theorem Cur.below {W W' : World} {g : Nat} {A : Option Addr} {n c : Nat} {u e : Int} (h : Cur W g A n c u e) (hb : Below W.heap.size W W') : Cur W' g A n c u e := (hb.block g (lt_of_block h)).trans h
theorem cells_set {W : World} {g i : Nat} {cs : Array Value} {t : TypeId} (u : Value) (h : W.heap[g]? = some (.cells cs t (0, 0))) : (W.setCell ⟨g, i, none⟩ u).heap[g]? = some (.cells (cs.setIfInBounds i u) t (0, 0)) := by
  have hlt := lt_of_block h
  have hg : W.heap[g] = .cells cs t (0, 0) := by rw [Array.getElem?_eq_getElem hlt] at h; exact Option.some.inj h
  unfold World.setCell
  simp [hlt, Array.getElem_modify, hg]
theorem Cur.set1 {W : World} {g : Nat} {A : Option Addr} {n c : Nat} {u e : Int} (h : Cur W g A n c u e) (u' : Int) : Cur (W.setCell ⟨g, 1, none⟩ (.int .i64 u')) g A n c u' e := cells_set _ h
theorem Cur.set2 {W : World} {g : Nat} {A : Option Addr} {n c : Nat} {u e : Int} (h : Cur W g A n c u e) (e' : Int) : Cur (W.setCell ⟨g, 2, none⟩ (.int .i64 e')) g A n c u e' := cells_set _ h
/-- What 'next' tells, and leaves: the number, what is used, the error. -/
def nextF (k : Nat) (bs : List Int) (u e most : Int) : Option (Int × Int × Int) :=
  if e = 0 then (varint_Shortest.f k (bs.drop u.toNat)).bind fun r => if r.2.2 = 0 then (if r.1 > most then some (0, u, 4) else some (r.1, wrap64 (u + r.2.1), 0)) else some (0, u, r.2.2)
  else some (0, u, e)
set_option maxRecDepth 100000 in
set_option maxHeartbeats 4000000 in
theorem Next_calls (k g : Nat) (A : Option Addr) (c : Nat) (bs : List Int) (u e most r u' e' : Int) (w : World) (hg : Cur w g A bs.length c u e) (hC : Kd.C (Kd.int .u8) w A bs.length bs) (hc : bs.length ≤ c)
    (hu : 0 ≤ u) (hu2 : u ≤ bs.length) (hf : nextF k bs u e most = some (r, u', e')) :
    Calls Try.prog 83 #[.pointer (some ⟨g, 0, none⟩), .int .i64 most] w fun x w' => x = .returned (.int .i64 r) ∧ Cur w' g A bs.length c u' e' ∧ Only g w w' := by
  have HG := Aside0.mk hg
  obtain ⟨k0, k1, k2⟩ := hg.cells
  by_cases he : e = 0
  · subst he
    unfold nextF at hf
    rw [if_pos rfl] at hf
    obtain ⟨⟨r1, r2, r3⟩, hs, hf⟩ := Option.bind_eq_some_iff.1 hf
    obtain ⟨i010, hi010, _, hsz10, _⟩ := info_parts info5
    obtain ⟨A2, hcut, hA2, hc2⟩ := print_drop_of (P := Try.prog) (Value.int .u8) 0 23 5 .i64 Try.underlying23 hi010 hsz10 A c bs u hu hu2 hc
    have hC2 := Kd.C_of_reads (h1 := fun _ => rfl) (hA2 w (Kd.reads_of_C hC))
    have HC2 := Aside0.mk hC2
    have HCUT := Aside0.mk hcut
    have HC3 := Aside0.mk hc2
    have HS := Aside0.mk hs
    clear hA2 hC2 hcut hc2 hs hC hc hg
    go_enter Try.func83, Try.ntmps83
    go_wp2
    refine Next_r3 k g A A2 c _ bs u r1 r2 r3 _ _ _ _ (by rfl) (by rfl) k0 k1 HCUT.out HC2.out HC3.out HS.out ?_
    intro σ W hB hσ
    obtain ⟨s1, s2, s3⟩ := hσ
    have HG2 := Aside0.mk (HG.out.below hB)
    have HB := Aside0.mk hB
    obtain ⟨m0, m1, m2⟩ := HG2.out.cells
    obtain ⟨z1, z2⟩ := HG2.out.free
    clear k0 k1 k2 hB
    simp only [lazyA, lazyT, nx3_tab, List.zipWith_cons_cons, List.zipWith_nil_left, cond_true]
    rename_i K0 hK0
    refine hK0 _ _ ?_
    rw [s1, s2, s3]
    by_cases h3 : r3 = 0
    · subst h3
      rw [if_pos rfl] at hf
      by_cases h4 : r1 > most
      · rw [if_pos h4] at hf
        simp only [Option.some.injEq, Prod.mk.injEq] at hf
        obtain ⟨rfl, rfl, rfl⟩ := hf
        have h5 : most < r1 := h4
        go_wp2
        go_ret
        exact ⟨rfl, HG2.out.set2 4, (Only.of_below HB.out).setCell rfl _⟩
      · rw [if_neg h4] at hf
        simp only [Option.some.injEq, Prod.mk.injEq] at hf
        obtain ⟨rfl, rfl, rfl⟩ := hf
        have h5 : ¬ (most < r1) := h4
        go_wp2
        go_ret
        exact ⟨rfl, HG2.out.set1 _, (Only.of_below HB.out).setCell rfl _⟩
    · rw [if_neg h3] at hf
      simp only [Option.some.injEq, Prod.mk.injEq] at hf
      obtain ⟨rfl, rfl, rfl⟩ := hf
      have h4 : (r3 == 0) = false := by simp [h3]
      go_wp2
      go_ret
      exact ⟨rfl, HG2.out.set2 _, (Only.of_below HB.out).setCell rfl _⟩
  · unfold nextF at hf
    rw [if_neg he] at hf
    simp only [Option.some.injEq, Prod.mk.injEq] at hf
    obtain ⟨rfl, rfl, rfl⟩ := hf
    go_enter Try.func83, Try.ntmps83
    go_wp2
    go_ret
    exact ⟨rfl, HG.out, Only.refl _ _⟩
end Go.Proofs.Ytiladcdogbeomaa.QRangesPlays

namespace Go.Proofs.Ytiladcdogbeomaa.QRangesPlays
open Go.RowKit Go.Proofs.YtiladcdogbeomaaW.PrintWords Go.Proofs.YtiladcdogbeomaaW.PrintLast Go.Proofs.YtiladcdogbeomaaW.PrintMore
attribute [local go_sem] max2_int min2_int max_two min_two   -- for this text's walks alone
set_option linter.unusedVariables false
set_option linter.unusedSimpArgs false

attribute [local go_sem high] eqA95
/-! ### api_Span_85: function 85 -/
def api_Span_85.l0 : Nat → List (S95) → Int → Int → Option ((List (S95)))
  | 0, _, _, _ => none
  | k + 1, x0, x2, x3 => if x2 < x3 then (if 0 ≤ x3 then (if x3 < (x0.length : Int) then (if 0 ≤ x2 then (if x2 < (x0.length : Int) then (api_Span_85.l0 k ((x0.set (x2 : Int).toNat (⟨(rd_T95 x0 x3).f0, (rd_T95 x0 x3).f1⟩ : S95)).set (x3 : Int).toNat (⟨(rd_T95 x0 x2).f0, (rd_T95 x0 x2).f1⟩ : S95)) (wrap64 (x2 + 1)) (wrap64 (x3 - 1))) else (none)) else (none)) else (none)) else (none)) else (some x0)
def api_Span_85.f (k : Nat) (l0 : List (S95)) : Option ((List (S95))) := api_Span_85.l0 k l0 0 (wrap64 ((l0.length : Int) - 1))
theorem api_Span_85.mono_l : ∀ k, (∀ y0 y1 y2, LeO (api_Span_85.l0 k y0 y1 y2) (api_Span_85.l0 (k + 1) y0 y1 y2))
  | 0 => fun _ _ _ r h => by simp [api_Span_85.l0] at h
  | k + 1 => by
    have ih0 := api_Span_85.mono_l k
    · intro y0 y1 y2
      unfold api_Span_85.l0
      repeat' first
      | (with_reducible exact ih0 _ _ _)
      | (with_reducible exact LeO.refl _)
      | (with_reducible exact LeO.none _)
      | (with_reducible refine LeO.ite ?_ ?_)
      | (with_reducible refine LeO.bind ?_ (fun _ => ?_))
      | exact ih0 _ _ _
      | exact LeO.none _
      | refine LeO.ite ?_ ?_
      | refine LeO.bind ?_ (fun _ => ?_)
theorem api_Span_85.mono : ∀ a0 k, LeO (api_Span_85.f k a0) (api_Span_85.f (k + 1) a0) := by
  intro a0 k
  have ih0 := api_Span_85.mono_l k
  unfold api_Span_85.f
  repeat' first
      | (with_reducible exact ih0 _ _ _)
      | (with_reducible exact LeO.refl _)
      | (with_reducible exact LeO.none _)
      | (with_reducible refine LeO.ite ?_ ?_)
      | (with_reducible refine LeO.bind ?_ (fun _ => ?_))
      | exact ih0 _ _ _
      | exact LeO.none _
      | refine LeO.ite ?_ ?_
      | refine LeO.bind ?_ (fun _ => ?_)
def api_Span_85.T3 : Bool × List (List Nat × List Nat) := (true, [([], []), ([], []), ([], []), ([], []), ([], []), ([], []), ([4, 5], [4, 5]), ([6], [6]), ([], []), ([], []), ([8, 9], [8, 9]), ([10], [10]), ([0, 1, 0, 1, 4, 5, 6, 7, 11], [0, 1]), ([12, 7, 0, 1, 4, 5, 6, 7, 11], [7, 12]), ([2, 3, 0, 1, 2, 3, 4, 5, 6, 7, 8, 9, 10, 11, 12, 13], [2, 3]), ([14, 11, 13, 0, 1, 2, 3, 4, 5, 6, 7, 8, 9, 10, 11, 12, 13], [11, 14])])
def api_Span_85.B3 : List Nat := [0, 0, 0, 0, 0, 0, 48, 112, 0, 0, 768, 1792, 4083, 8179, 16383, 32767]
theorem api_Span_85.tab3 : rtab .any (opsOf Try.f85 3) = api_Span_85.T3 := by kernel_rfl
theorem api_Span_85.bits3 : waitsOk api_Span_85.T3.2 api_Span_85.B3 = true := by kernel_rfl
set_option maxHeartbeats 8000000 in
set_option maxRecDepth 100000 in
theorem api_Span_85.calls (k : Nat) (P0_ : Nat → Prop) (u9000_ : Value) (l0 : List (S95)) (r : List (S95)) (w0 w : World) (hB : Below w0.heap.size w0 w) (ho0 : Kd.R k95 95 w w0.heap.size P0_ u9000_ l0) (h : api_Span_85.f k l0 = some r) :
    Calls Try.prog 85 #[u9000_] w fun e w' => e = .returned (.tuple #[]) ∧ Kd.R k95 95 w' w0.heap.size (fun k_ => (P0_ k_ ∨ w.heap.size ≤ k_)) u9000_ r ∧ Below w0.heap.size w0 w' ∧ Kept w w' (fun k_ => P0_ k_) := by
  have hu95 := Try.underlying95
  have HO0 := Aside0.mk (show Kd.R k95 95 w w0.heap.size (fun k_ => (P0_ k_ ∨ w.heap.size ≤ k_)) u9000_ l0 from Kd.R_mono ho0 (fun k_ hk => (.inl hk)))
  have HK := Aside0.mk (Kept.refl w (fun k_ => P0_ k_))
  have HW0 := Aside0.mk hB.size
  have HB := Aside0.mk hB
  clear hB
  have H : (api_Span_85.l0 k l0 0 (wrap64 ((l0.length : Int) - 1))) = some r := h
  clear h
  have H' := Aside0.mk H
  clear H
  obtain ⟨Ao2, co2, eo2⟩ := Kd.R_slice HO0.out
  subst eo2
  go_enter Try.func85, Try.ntmps85
  go_wp2
  go_loopg [2, 3] k (fun kq v2 v3 w' => ∃ (x0_1 : List (S95)) (x2_1 : Int) (x3_1 : Int), v2 = .int .i64 x2_1 ∧ v3 = .int .i64 x3_1 ∧ Aside0 (api_Span_85.l0 kq x0_1 x2_1 x3_1 = some r) ∧ Aside0 (kq ≤ k) ∧ Aside0 (Kd.R k95 95 w' w0.heap.size (fun k_ => (P0_ k_ ∨ w.heap.size ≤ k_)) (.slice Ao2 l0.length co2) x0_1) ∧ Aside0 (Kept w w' (fun k_ => P0_ k_)) ∧ Aside0 (Below w0.heap.size w0 w'))
  case atStart => exact ⟨(l0), (0), (wrap64 ((l0.length : Int) - 1)), (by first | rfl | (simp; done) | (simp [*]; done) | (simp [*, bne]; done) | (simp_all; done) | (exfalso; simp_all; done) | (exfalso; simp_all [bne]; done)), (by first | rfl | (simp; done) | (simp [*]; done) | (simp [*, bne]; done) | (simp_all; done) | (exfalso; simp_all; done) | (exfalso; simp_all [bne]; done)), H', ⟨Nat.le_refl _⟩, ⟨by (with_reducible repeat (first | apply Kd.R_alloc | apply Kd.R_drewN | apply Kd.R_drew)); exact HO0.out⟩, ⟨by repeat (first | (with_reducible first | exact HK.out | apply Kept.alloc | apply Kept.drewN | apply Kept.drew) | exact HK.out)⟩, ⟨by repeat (first | (with_reducible first | exact HB.out | apply below_alloc | apply pw_below_drewN | apply below_drew1) | exact HB.out)⟩⟩
  case round =>
    clear H'
    try clear p2
    obtain ⟨x0_1, x2_1, x3_1, rfl, rfl, HA, HK1, HO_0, HK, HB⟩ := hrel
    have hl0_1 := (Kd.R_reads' HO_0.out).1
    rw [hl0_1] at HO_0
    (try simp only [hl0_1])
    cases gk with
    | zero => exact absurd HA.out (by simp [api_Span_85.l0])
    | succ k1 =>
      have H := HA.out
      clear HA
      simp only [api_Span_85.l0] at H
      by_cases c3 : x2_1 < x3_1
      · rw [if_pos c3] at H
        have c3b0 : decide (x2_1 < x3_1) = true := decide_eq_true c3
        (try simp only [hl0_1] at c3b0)
        clear c3
        by_cases c4 : 0 ≤ x3_1
        · rw [if_pos c4] at H
          have c4b0 : decide (0 ≤ x3_1) = true := decide_eq_true c4
          (try simp only [hl0_1] at c4b0)
          clear c4
          by_cases c5 : x3_1 < (x0_1.length : Int)
          · rw [if_pos c5] at H
            have c5b0 : decide (x3_1 < (x0_1.length : Int)) = true := decide_eq_true c5
            (try simp only [hl0_1] at c5b0)
            clear c5
            by_cases c6 : 0 ≤ x2_1
            · rw [if_pos c6] at H
              have c6b0 : decide (0 ≤ x2_1) = true := decide_eq_true c6
              (try simp only [hl0_1] at c6b0)
              clear c6
              by_cases c7 : x2_1 < (x0_1.length : Int)
              · rw [if_pos c7] at H
                have c7b0 : decide (x2_1 < (x0_1.length : Int)) = true := decide_eq_true c7
                (try simp only [hl0_1] at c7b0)
                clear c7
                obtain ⟨y105, hy105⟩ : ∃ y_ : List (S95), y_ = (x0_1.set (x2_1 : Int).toNat (⟨(rd_T95 x0_1 x3_1).f0, (rd_T95 x0_1 x3_1).f1⟩ : S95)) := ⟨_, rfl⟩
                replace H : (api_Span_85.l0 k1 (y105.set (x3_1 : Int).toNat (⟨(rd_T95 x0_1 x2_1).f0, (rd_T95 x0_1 x2_1).f1⟩ : S95)) (wrap64 (x2_1 + 1)) (wrap64 (x3_1 - 1))) = some r := by first | (rw [hy105]; with_reducible exact H) | (have H2_ := (Option.bind_some _ _).symm.trans H; rw [hy105]; with_reducible exact H2_) | (have H2_ := (Option.bind_some _ _).symm.trans H; with_reducible exact H2_) | with_reducible exact H | (rw [hy105]; exact H) | exact H
                have Ny105 := Aside0.mk hy105
                clear hy105
                obtain ⟨y106, hy106⟩ : ∃ y_ : List (S95), y_ = (y105.set (x3_1 : Int).toNat (⟨(rd_T95 x0_1 x2_1).f0, (rd_T95 x0_1 x2_1).f1⟩ : S95)) := ⟨_, rfl⟩
                replace H : (api_Span_85.l0 k1 y106 (wrap64 (x2_1 + 1)) (wrap64 (x3_1 - 1))) = some r := by first | (rw [hy106]; with_reducible exact H) | (have H2_ := (Option.bind_some _ _).symm.trans H; rw [hy106]; with_reducible exact H2_) | (have H2_ := (Option.bind_some _ _).symm.trans H; with_reducible exact H2_) | with_reducible exact H | (rw [hy106]; exact H) | exact H
                have Ny106 := Aside0.mk hy106
                clear hy106
                have H' := Aside0.mk H
                clear H
                try go_wp2
                have n0_ := Aside0.mk (Kd.R_drew HO_0.out)
                have n1_ := Aside0.mk (Kept.drew HK.out)
                have n2_ := Aside0.mk (below_drew1 HB.out)
                clear HO_0
                clear HK
                clear HB
                have HO_0 := n0_
                have HK := n1_
                have HB := n2_
                clear n0_ n1_ n2_
                have p103 : 0 ≤ (x3_1 : Int) := of_decide_eq_true (by first | (with_reducible assumption) | assumption)
                have q103 : x3_1 < (x0_1.length : Int) := of_decide_eq_true (by first | (with_reducible assumption) | assumption)
                obtain ⟨ad103, e103, hx103_0, hx103_1⟩ := at_T95 (Kd.R_reads' HO_0.out).2.2 x3_1 p103 q103
                cases e103
                have hN3 := Aside0.mk p103
                replace p103 := eq_true p103
                replace q103 := eq_true q103
                have p104 : 0 ≤ (x2_1 : Int) := of_decide_eq_true (by first | (with_reducible assumption) | assumption)
                have q104 : x2_1 < (x0_1.length : Int) := of_decide_eq_true (by first | (with_reducible assumption) | assumption)
                obtain ⟨ad104, e104, hx104_0, hx104_1⟩ := at_T95 (Kd.R_reads' HO_0.out).2.2 x2_1 p104 q104
                obtain rfl : ad103 = ad104 := (by injection e104)
                replace p104 := eq_true p104
                replace q104 := eq_true q104
                have p8 : 0 ≤ (x2_1 : Int) := of_decide_eq_true (by first | (with_reducible assumption) | assumption)
                have q8 : (x2_1 : Int) < ((x0_1.length : Int) : Int) := of_decide_eq_true (by first | (with_reducible assumption) | assumption)
                obtain ⟨go8, co8, eo8, gb8, gl8, cl8, HG8⟩ := Kd.R_form HO_0.out (by omega)
                (first | cases eo8 | (injection eo8 with ea_ en_ ec_; (first | subst ea_ | (injection ea_ with ea_; subst ea_)); subst ec_; clear en_))
                obtain ⟨ceN, hclN, hMN, hccN, hfrN⟩ := Kd.R_elem HO_0.out z95 (x3_1 : Int) (of_eq_true p103) (of_eq_true q103)
                have hfN_0 : World.frozen? _ ⟨go8, (x3_1 : Int).toNat * 2, none⟩ = false := hfrN 0
                have hfN_1 : World.frozen? _ ⟨go8, (x3_1 : Int).toNat * 2 + 1, none⟩ = false := hfrN 1
                clear hclN hccN hfrN hMN
                have hN2 := Aside0.mk p104
                have GB8 := Aside0.mk gb8
                have GG8 := Aside0.mk HG8
                clear gb8 gl8 HG8
                have HMgo8 := Aside0.mk (show (P0_ go8 ∨ w.heap.size ≤ go8) from (HO_0.out.1 _ rfl))
                (first | simp only [add_plain] at hx103_0 | skip)
                (first | simp only [add_plain] at hx103_1 | skip)
                (first | simp only [add_plain] at hx104_0 | skip)
                (first | simp only [add_plain] at hx104_1 | skip)
                obtain ⟨ce8, hcl8, hM8, hcc8, hfr8⟩ := Kd.R_elem HO_0.out z95 (x2_1 : Int) p8 q8
                obtain rfl := k95_openM hM8
                have hx8_0 : World.cell? _ ⟨go8, (x2_1 : Int).toNat * 2, none⟩ = some (.int .i64 ((rd_T95 x0_1 x2_1).f0)) := hcc8 0 _ rfl
                have hx8_1 : World.cell? _ ⟨go8, (x2_1 : Int).toNat * 2 + 1, none⟩ = some (.int .i64 ((rd_T95 x0_1 x2_1).f1)) := hcc8 1 _ rfl
                have hf8_0 : World.frozen? _ ⟨go8, (x2_1 : Int).toNat * 2, none⟩ = false := hfr8 0
                have hf8_1 : World.frozen? _ ⟨go8, (x2_1 : Int).toNat * 2 + 1, none⟩ = false := hfr8 1
                clear hcl8 hcc8 hfr8 hM8
                replace p8 := eq_true p8
                replace q8 := eq_true q8
                obtain ⟨ce11, hcl11, hM11, hcc11, hfr11⟩ := Kd.R_elem HO_0.out z95 (x2_1 : Int) (of_decide_eq_true (by first | (with_reducible assumption) | assumption)) (by have h_ : (x2_1 : Int) < ((x0_1.length : Int) : Int) := of_decide_eq_true (by first | (with_reducible assumption) | assumption); first | exact h_ | (have e_ := (Kd.R_reads' HO_0.out).1; omega) | simpa using h_)
                obtain rfl := k95_openM hM11
                have HP11 := (Kd.R_seg HO_0.out (x2_1 : Int) (of_decide_eq_true (by first | (with_reducible assumption) | assumption)) (by have h_ : (x2_1 : Int) < ((x0_1.length : Int) : Int) := of_decide_eq_true (by first | (with_reducible assumption) | assumption); first | exact h_ | (have e_ := (Kd.R_reads' HO_0.out).1; omega) | simpa using h_) (seg := [.int .i64 ((rd_T95 x0_1 x3_1).f0), .int .i64 ((rd_T95 x0_1 x3_1).f1)]) (j := 0) hcl11 hcc11 (show 2 ≤ 2 from by decide) (x' := (⟨(rd_T95 x0_1 x3_1).f0, (rd_T95 x0_1 x3_1).f1⟩ : S95)) (k95_mkM _ _ _ (⟨(rd_T95 x0_1 x3_1).f0, (rd_T95 x0_1 x3_1).f1⟩ : S95) ) (fun _ hk => hk)).1
                rw [← Ny105.out] at HP11
                have HQ11 := Aside0.mk HP11
                clear hcl11 hcc11 hfr11 hM11 HP11
                have p9 : 0 ≤ (x3_1 : Int) := of_decide_eq_true (by first | (with_reducible assumption) | assumption)
                have q9 : (x3_1 : Int) < ((x0_1.length : Int) : Int) := of_decide_eq_true (by first | (with_reducible assumption) | assumption)
                obtain ⟨ce9, hcl9, hM9, hcc9, hfr9⟩ := Kd.R_elem HQ11.out z95 (x3_1 : Int) p9 q9
                obtain rfl := k95_openM hM9
                have hx9_0 : World.cell? _ ⟨go8, (x3_1 : Int).toNat * 2, none⟩ = some (.int .i64 ((rd_T95 y105 x3_1).f0)) := hcc9 0 _ rfl
                have hx9_1 : World.cell? _ ⟨go8, (x3_1 : Int).toNat * 2 + 1, none⟩ = some (.int .i64 ((rd_T95 y105 x3_1).f1)) := hcc9 1 _ rfl
                have hf9_0 : World.frozen? _ ⟨go8, (x3_1 : Int).toNat * 2, none⟩ = false := hfr9 0
                have hf9_1 : World.frozen? _ ⟨go8, (x3_1 : Int).toNat * 2 + 1, none⟩ = false := hfr9 1
                clear hcl9 hcc9 hfr9 hM9
                replace p9 := eq_true p9
                replace q9 := eq_true q9
                obtain ⟨ce12, hcl12, hM12, hcc12, hfr12⟩ := Kd.R_elem HQ11.out z95 (x3_1 : Int) (of_decide_eq_true (by first | (with_reducible assumption) | assumption)) (by have h_ : (x3_1 : Int) < ((x0_1.length : Int) : Int) := of_decide_eq_true (by first | (with_reducible assumption) | assumption); first | exact h_ | (have e_ := (Kd.R_reads' HO_0.out).1; omega) | simpa using h_)
                obtain rfl := k95_openM hM12
                have HP12 := (Kd.R_seg HQ11.out (x3_1 : Int) (of_decide_eq_true (by first | (with_reducible assumption) | assumption)) (by have h_ : (x3_1 : Int) < ((x0_1.length : Int) : Int) := of_decide_eq_true (by first | (with_reducible assumption) | assumption); first | exact h_ | (have e_ := (Kd.R_reads' HO_0.out).1; omega) | simpa using h_) (seg := [.int .i64 ((rd_T95 x0_1 x2_1).f0), .int .i64 ((rd_T95 x0_1 x2_1).f1)]) (j := 0) hcl12 hcc12 (show 2 ≤ 2 from by decide) (x' := (⟨(rd_T95 x0_1 x2_1).f0, (rd_T95 x0_1 x2_1).f1⟩ : S95)) (k95_mkM _ _ _ (⟨(rd_T95 x0_1 x2_1).f0, (rd_T95 x0_1 x2_1).f1⟩ : S95) ) (fun _ hk => hk)).1
                rw [← Ny106.out] at HP12
                have HQ12 := Aside0.mk HP12
                clear hcl12 hcc12 hfr12 hM12 HP12
                refine start_ (n := 16) (S := fun w' => w'.cell? ⟨go8, ((x3_1).toNat * 2), none⟩ = some (.int .i64 ((rd_T95 x0_1 x3_1).f0)) ∧ w'.cell? ⟨go8, ((x3_1).toNat * 2) + 1, none⟩ = some (.int .i64 ((rd_T95 x0_1 x3_1).f1)) ∧ w'.cell? ⟨go8, ((x2_1).toNat * 2), none⟩ = some (.int .i64 ((rd_T95 x0_1 x2_1).f0)) ∧ w'.cell? ⟨go8, ((x2_1).toNat * 2) + 1, none⟩ = some (.int .i64 ((rd_T95 x0_1 x2_1).f1))) (ds := [13, 15]) #[false, false, false, false, false, false, false, false, false, false, false, false, false, false, false, false] (by kernel_rfl) rfl rfl ⟨hx103_0, hx103_1, hx104_0, hx104_1⟩ (fun hHeld => ?_); refine with_tabW api_Span_85.tab3 api_Span_85.bits3 (fun HT_ HW_ => ?_)
                generalize wr.drew = w10 at hfN_0 hfN_1 HO_0 HK HB GG8 HQ11 HQ12 hf8_0 hf8_1 hf9_0 hf9_1 hx103_0 hx103_1 hx104_0 hx104_1 hx8_0 hx8_1 hx9_0 hx9_1 hHeld ⊢
                refine pure_ (i := 0) (N := some 14) (v := ?_) (a' := ?_) #[true, false, false, false, false, false, false, false, false, false, false, false, false, false, false, false] rfl rfl (any_of HT_.out (by kernel_rfl)) (fun _ _ _ h => h) (Or.inl ⟨by rfl, ?_⟩) ?_ ?_
                rotate_left
                · intro w'
                  go_simp
                  with_reducible rfl
                rotate_left
                · simp only [Act.put, List.setIfInBounds_toArray, List.set_cons_zero, List.set_cons_succ, i64_w, i32_w]
                  rfl
                refine pure_ (i := 1) (N := some 15) (v := ?_) (a' := ?_) #[true, true, false, false, false, false, false, false, false, false, false, false, false, false, false, false] rfl rfl (any_of HT_.out (by kernel_rfl)) (fun _ _ _ h => h) (Or.inl ⟨by rfl, ?_⟩) ?_ ?_
                rotate_left
                · intro w'
                  go_simp
                  with_reducible rfl
                rotate_left
                · simp only [Act.put, List.setIfInBounds_toArray, List.set_cons_zero, List.set_cons_succ, i64_w, i32_w]
                  rfl
                refine pure_ (i := 2) (N := some 16) (v := ?_) (a' := ?_) #[true, true, true, false, false, false, false, false, false, false, false, false, false, false, false, false] rfl rfl (any_of HT_.out (by kernel_rfl)) (fun _ _ _ h => h) (Or.inl ⟨by rfl, ?_⟩) ?_ ?_
                rotate_left
                · intro w'
                  go_simp
                  with_reducible rfl
                rotate_left
                · simp only [Act.put, List.setIfInBounds_toArray, List.set_cons_zero, List.set_cons_succ, i64_w, i32_w]
                  rfl
                refine pure_ (i := 3) (N := some 17) (v := ?_) (a' := ?_) #[true, true, true, true, false, false, false, false, false, false, false, false, false, false, false, false] rfl rfl (any_of HT_.out (by kernel_rfl)) (fun _ _ _ h => h) (Or.inl ⟨by rfl, ?_⟩) ?_ ?_
                rotate_left
                · intro w'
                  go_simp
                  with_reducible rfl
                rotate_left
                · simp only [Act.put, List.setIfInBounds_toArray, List.set_cons_zero, List.set_cons_succ, i64_w, i32_w]
                  rfl
                refine pure_ (i := 4) (N := some 18) (v := ?_) (a' := ?_) #[true, true, true, true, true, false, false, false, false, false, false, false, false, false, false, false] rfl rfl (any_of HT_.out (by kernel_rfl)) (fun _ _ _ h => h) (Or.inl ⟨by rfl, ?_⟩) ?_ ?_
                rotate_left
                · intro w'
                  go_simp
                  with_reducible rfl
                rotate_left
                · simp only [Act.put, List.setIfInBounds_toArray, List.set_cons_zero, List.set_cons_succ, i64_w, i32_w]
                  rfl
                refine pure_ (i := 5) (N := some 19) (v := ?_) (a' := ?_) #[true, true, true, true, true, true, false, false, false, false, false, false, false, false, false, false] rfl rfl (any_of HT_.out (by kernel_rfl)) (fun _ _ _ h => h) (Or.inl ⟨by rfl, ?_⟩) ?_ ?_
                rotate_left
                · intro w'
                  go_simp
                  with_reducible rfl
                rotate_left
                · simp only [Act.put, List.setIfInBounds_toArray, List.set_cons_zero, List.set_cons_succ, i64_w, i32_w]
                  rfl
                refine pure_ (i := 6) (N := some 20) (v := ?_) (a' := ?_) #[true, true, true, true, true, true, true, false, false, false, false, false, false, false, false, false] rfl rfl (any_of HT_.out (by kernel_rfl)) (fun _ _ _ h => h) (Or.inl ⟨by rfl, ?_⟩) ?_ ?_
                rotate_left
                · intro w'
                  go_simp
                  with_reducible rfl
                rotate_left
                · simp only [Act.put, List.setIfInBounds_toArray, List.set_cons_zero, List.set_cons_succ, i64_w, i32_w]
                  rfl
                refine pure_ (i := 8) (N := some 22) (v := ?_) (a' := ?_) #[true, true, true, true, true, true, true, false, true, false, false, false, false, false, false, false] rfl rfl (any_of HT_.out (by kernel_rfl)) (fun _ _ _ h => h) (Or.inl ⟨by rfl, ?_⟩) ?_ ?_
                rotate_left
                · intro w'
                  go_simp
                  with_reducible rfl
                rotate_left
                · simp only [Act.put, List.setIfInBounds_toArray, List.set_cons_zero, List.set_cons_succ, i64_w, i32_w]
                  rfl
                refine pure_ (i := 9) (N := some 23) (v := ?_) (a' := ?_) #[true, true, true, true, true, true, true, false, true, true, false, false, false, false, false, false] rfl rfl (any_of HT_.out (by kernel_rfl)) (fun _ _ _ h => h) (Or.inl ⟨by rfl, ?_⟩) ?_ ?_
                rotate_left
                · intro w'
                  go_simp
                  with_reducible rfl
                rotate_left
                · simp only [Act.put, List.setIfInBounds_toArray, List.set_cons_zero, List.set_cons_succ, i64_w, i32_w]
                  rfl
                refine pure_ (i := 10) (N := some 24) (v := ?_) (a' := ?_) #[true, true, true, true, true, true, true, false, true, true, true, false, false, false, false, false] rfl rfl (any_of HT_.out (by kernel_rfl)) (fun _ _ _ h => h) (Or.inl ⟨by rfl, ?_⟩) ?_ ?_
                rotate_left
                · intro w'
                  go_simp
                  with_reducible rfl
                rotate_left
                · simp only [Act.put, List.setIfInBounds_toArray, List.set_cons_zero, List.set_cons_succ, i64_w, i32_w]
                  rfl
                refine take_ (i := 7) (N := some 21) (v := ?_) (a' := ?_) #[true, true, true, true, true, true, true, true, true, true, true, false, false, false, false, false] rfl rfl (take_ofW HT_.out HW_.out (by kernel_rfl)) (fun _ _ _ h => h) (Or.inl ⟨by rfl, ?_⟩) hHeld ?_ ?_
                rotate_left
                · rintro w' ⟨s0, s1, s2, s3⟩
                  go_simp
                  with_reducible rfl
                rotate_left
                · simp only [Act.put, List.setIfInBounds_toArray, List.set_cons_zero, List.set_cons_succ, i64_w, i32_w]
                  rfl
                refine take_ (i := 11) (N := some 25) (v := ?_) (a' := ?_) #[true, true, true, true, true, true, true, true, true, true, true, true, false, false, false, false] rfl rfl (take_ofW HT_.out HW_.out (by kernel_rfl)) (fun _ _ _ h => h) (Or.inl ⟨by rfl, ?_⟩) hHeld ?_ ?_
                rotate_left
                · rintro w' ⟨s0, s1, s2, s3⟩
                  go_simp
                  with_reducible rfl
                rotate_left
                · simp only [Act.put, List.setIfInBounds_toArray, List.set_cons_zero, List.set_cons_succ, i64_w, i32_w]
                  rfl
                refine pure_ (i := 12) (N := some 26) (v := ?_) (a' := ?_) #[true, true, true, true, true, true, true, true, true, true, true, true, true, false, false, false] rfl rfl (any_of HT_.out (by kernel_rfl)) (fun _ _ _ h => h) (Or.inl ⟨by rfl, ?_⟩) ?_ ?_
                rotate_left
                · intro w'
                  go_simp
                  with_reducible rfl
                rotate_left
                · simp only [Act.put, List.setIfInBounds_toArray, List.set_cons_zero, List.set_cons_succ, i64_w, i32_w]
                  rfl
                refine last_ (i := 13) (N := none) #[true, true, true, true, true, true, true, true, true, true, true, true, true, true, false, false] rfl rfl (one_of HT_.out (by kernel_rfl)) (by decide) (fun K hK => ?_)
                refine skip_ (w1 := ?_) (by rfl) rfl ?_ ?_
                rotate_left
                · go_simp
                  rfl
                refine hK.out _ _ ?_
                clear hK K
                refine pure_ (i := 14) (N := some 27) (v := ?_) (a' := ?_) #[true, true, true, true, true, true, true, true, true, true, true, true, true, true, true, false] rfl rfl (any_of HT_.out (by kernel_rfl)) (fun _ _ _ h => h) (Or.inl ⟨by rfl, ?_⟩) ?_ ?_
                rotate_left
                · intro w'
                  go_simp
                  with_reducible rfl
                rotate_left
                · simp only [Act.put, List.setIfInBounds_toArray, List.set_cons_zero, List.set_cons_succ, i64_w, i32_w]
                  rfl
                have hne : x2_1.toNat ≠ x3_1.toNat := by have h1 := of_decide_eq_true c3b0; have h2 := hN3.out; have h3 := of_eq_true hN2.out; omega
                obtain ⟨s0, s1, s2, s3⟩ := hHeld
                have n0 : ((w10.setCell ⟨go8, x2_1.toNat * 2, none⟩ (.int .i64 (rd_T95 x0_1 x3_1).f0)).setCell ⟨go8, x2_1.toNat * 2 + 1, none⟩ (.int .i64 (rd_T95 x0_1 x3_1).f1)).cell? ⟨go8, x3_1.toNat * 2, none⟩ = some (.int .i64 (rd_T95 x0_1 x3_1).f0) := by
                  rw [World.cell?_setCell_other _ _ _ _ (by intro e; injection e with _ e; omega), World.cell?_setCell_other _ _ _ _ (by intro e; injection e with _ e; omega)]; exact s0
                have n1 : (((w10.setCell ⟨go8, x2_1.toNat * 2, none⟩ (.int .i64 (rd_T95 x0_1 x3_1).f0)).setCell ⟨go8, x2_1.toNat * 2 + 1, none⟩ (.int .i64 (rd_T95 x0_1 x3_1).f1)).setCell ⟨go8, x3_1.toNat * 2, none⟩ (.int .i64 (rd_T95 x0_1 x2_1).f0)).cell? ⟨go8, x3_1.toNat * 2 + 1, none⟩ = some (.int .i64 (rd_T95 x0_1 x3_1).f1) := by
                  rw [World.cell?_setCell_other _ _ _ _ (by intro e; injection e with _ e; omega), World.cell?_setCell_other _ _ _ _ (by intro e; injection e with _ e; omega), World.cell?_setCell_other _ _ _ _ (by intro e; injection e with _ e; omega)]; exact s1
                refine last_ (i := 15) (N := none) #[true, true, true, true, true, true, true, true, true, true, true, true, true, true, true, true] rfl rfl (one_of HT_.out (by kernel_rfl)) (by decide) (fun K hK => ?_)
                refine skip_ (w1 := ?_) (by rfl) rfl ?_ ?_
                rotate_left
                · go_simp
                  rfl
                refine hK.out _ _ ?_
                clear hK K
                refine done_ (done_of HT_.out (by kernel_rfl)) ?_
                try go_wp2
                (try simp only [← hl0_1])
                go_roundg k1
                case measure => have := HK1.out; omega
                case rel => exact ⟨(y106), (wrap64 (x2_1 + 1)), (wrap64 (x3_1 - 1)), (by first | rfl | (simp; done) | (simp [*]; done) | (simp [*, bne]; done) | (simp_all; done) | (exfalso; simp_all; done) | (exfalso; simp_all [bne]; done)), (by first | rfl | (simp; done) | (simp [*]; done) | (simp [*, bne]; done) | (simp_all; done) | (exfalso; simp_all; done) | (exfalso; simp_all [bne]; done)), H', ⟨by have := HK1.out; omega⟩, ⟨by (try simp only [hl0_1]); (with_reducible repeat (first | apply Kd.R_alloc | apply Kd.R_drewN | apply Kd.R_drew)); exact HQ12.out⟩, ⟨by repeat (first | (with_reducible first | exact HK.out | apply Kept.alloc | apply Kept.drewN | apply Kept.drew | refine Kept.setCell ?_ HMgo8.out _ | refine Kept.setCell ?_ HMgo8.out _ | refine Kept.setCell ?_ HMgo8.out _ | refine Kept.setCell ?_ HMgo8.out _) | exact HK.out)⟩, ⟨by repeat (first | (with_reducible first | exact HB.out | apply below_alloc | apply pw_below_drewN | apply below_drew1 | refine below_set ?_ GB8.out | refine below_set ?_ GB8.out | refine below_set ?_ GB8.out | refine below_set ?_ GB8.out) | exact HB.out)⟩⟩
              · rw [if_neg c7] at H
                exact absurd H (by simp)
            · rw [if_neg c6] at H
              exact absurd H (by simp)
          · rw [if_neg c5] at H
            exact absurd H (by simp)
        · rw [if_neg c4] at H
          exact absurd H (by simp)
      · rw [if_neg c3] at H
        have c3b0 : decide (x2_1 < x3_1) = false := decide_eq_false c3
        (try simp only [hl0_1] at c3b0)
        clear c3
        obtain rfl := Option.some.inj H
        go_wp2
        first | go_end0 | ((try simp only [Exit.inBlock, Exit.then]); refine bodyPost_ret (results_none rfl _ _ _) rfl ?_)
        exact ⟨by first | rfl | (simp [errW_none, errW_some] <;> rfl) | (simp [*, errW_none, errW_some] <;> rfl) | (simp_all; done) | (exfalso; simp_all; done) | (exfalso; simp_all [bne]; done), (by first | exact (by (with_reducible repeat (first | apply Kd.R_alloc | apply Kd.R_drewN | apply Kd.R_drew)); exact HO_0.out) | (simp only [hl0_1]; exact (by (with_reducible repeat (first | apply Kd.R_alloc | apply Kd.R_drewN | apply Kd.R_drew)); exact HO_0.out))), by repeat (first | (with_reducible first | exact HB.out | apply below_alloc | apply pw_below_drewN | apply below_drew1) | exact HB.out), by repeat (first | (with_reducible first | exact HK.out | apply Kept.alloc | apply Kept.drewN | apply Kept.drew) | exact HK.out)⟩


end Go.Proofs.Ytiladcdogbeomaa.QRangesPlays

namespace Go.Proofs.Ytiladcdogbeomaa.QRangesPlays
open Go.RowKit Go.Shelf Go.Proofs.YtiladcdogbeomaaW.PrintWords Go.Proofs.YtiladcdogbeomaaW.PrintLast Go.Proofs.YtiladcdogbeomaaW.PrintMore Go.Proofs.Ytiladcdogbeomaa.RowLaws Go.Proofs.Ytiladcdogbeomaa.Lazy
attribute [local go_sem] Oper.semAt_some
abbrev gt11_ops : List Oper := [{ dst := some 55, op := .move (.tmp 5), type := 132, pos := "ranges.go:227", after := #[⟨5, .gcOnly .lateStores⟩], guard := none },
  { dst := some 56, op := .nilCheck (.tmp 55), type := 0, pos := "ranges.go:227", after := #[⟨0, .data⟩, ⟨5, .gcOnly .lateStores⟩], guard := none },
  { dst := some 57, op := .fieldAddr 134 (.tmp 56) 2, type := 0, pos := "ranges.go:227", after := #[⟨1, .data⟩, ⟨5, .gcOnly .lateStores⟩], guard := none },
  { dst := some 58, op := .load 29 (.tmp 57), type := 29, pos := "ranges.go:227", after := #[⟨2, .data⟩, ⟨5, .gcOnly .lateStores⟩], guard := none },
  { dst := some 2, op := .assign (.const (.slice none 0 0)), type := 74, pos := "ranges.go:227", after := #[⟨0, .textOnly .lateStores⟩, ⟨1, .textOnly .lateStores⟩, ⟨2, .textOnly .lateStores⟩, ⟨3, .textOnly .lateStores⟩], guard := none },
  { dst := some 3, op := .assign (.const (.int .i64 0)), type := 3, pos := "ranges.go:227", after := #[⟨4, .chain⟩, ⟨0, .textOnly .lateStores⟩, ⟨1, .textOnly .lateStores⟩, ⟨2, .textOnly .lateStores⟩, ⟨3, .textOnly .lateStores⟩, ⟨4, .phase⟩], guard := none },
  { dst := some 4, op := .assign (.tmp 58), type := 29, pos := "ranges.go:227", after := #[⟨3, .data⟩, ⟨5, .chain⟩, ⟨0, .phase⟩, ⟨1, .phase⟩, ⟨2, .phase⟩, ⟨3, .phase⟩, ⟨4, .phase⟩, ⟨5, .phase⟩], guard := none }]
abbrev gt11_tab : List (Option Nat) := [none, none, some 4, some 5, some 6, none, none, none, none, none, none, none, none, none, none, none, none, none, none, none, none, none, none, none, none, none, none, none, none, none, none, none, none, none, none, none, none, none, none, none, none, none, none, none, none, none, none, none, none, none, none, none, none, none, none, some 0, some 1, some 2, some 3, none, none, none, none, none, none, none]

def gt11_val (g : Nat) (e : Int) : Nat → Value → World → Prop := fun j v W => match j with
  | 0 => v = .pointer (some ⟨g, 0, none⟩)
  | 1 => v = .pointer (some ⟨g, 0, none⟩)
  | 2 => v = .pointer (some ⟨g, 2, none⟩)
  | 3 => v = .int .i64 e
  | 4 => v = .slice none 0 0
  | 5 => v = .int .i64 0
  | 6 => v = .int .i64 e
  | _ => True

set_option maxRecDepth 100000 in
set_option maxHeartbeats 4000000 in
theorem Get_r11 (g : Nat) (e : Int) (t0 : List Value) (d0 : List Deferred) (w : World) (Q : Exit → Act → World → Prop) (hl : t0.length = gt11_tab.length)
    (t5 : t0[5]? = some (.pointer (some ⟨g, 0, none⟩))) (k2 : w.cell? ⟨g, 2, none⟩ = some (.int .i64 e))
    (hQ : ∀ σ W, Below w.heap.size w W → σ 4 = .slice none 0 0 ∧ σ 5 = .int .i64 0 ∧ σ 6 = .int .i64 e → Q .normal (lazyA (fun _ => true) σ t0 gt11_tab d0) W) :
    (Code.region 11 gt11_ops.toArray true).wp Try.prog Q { tmps := t0.toArray, defers := d0 } w := by
  refine wp_region_vals (by kernel_rfl) gt11_tab (by kernel_rfl) hl (fun W W' => Below W.heap.size W W') (fun _ => True) (gt11_val g e) (below_drew (Below.refl _ _)) trivial (fun _ _ _ h k => below_step h k) ?hst ⟨(fun j b h => by cases h), (fun j b h => by cases h), (fun j b h => by cases h), (fun j b h => by cases h), (fun j b h => by cases h), (fun j b h => by cases h), (fun j b h => by cases h), trivial⟩ ⟨?s0, ?s1, ?s2, ?s3, ?s4, ?s5, ?s6, trivial⟩ ?hdone
  case hst =>
    intro j v W W' hJ hR h
    match j with
    | 0 => exact h
    | 1 => exact h
    | 2 => exact h
    | 3 => exact h
    | 4 => exact h
    | 5 => exact h
    | 6 => exact h
    | n + 7 => trivial

  case s0 =>
    intro ρ W hR hJ hT
    have q5 := hT.2.1 5 _ t5 rfl
    refine Op1.of_run (v := .pointer (some ⟨g, 0, none⟩)) (W' := W) (by clear hT hJ; go_simp) ⟨Below.refl _ _, trivial, rfl⟩

  case s1 =>
    intro ρ W hR hJ hT
    have q55 : ρ (.tmp 55) = .pointer (some ⟨g, 0, none⟩) := hT.1 55 0 rfl rfl
    refine Op1.of_run (v := .pointer (some ⟨g, 0, none⟩)) (W' := W) (by clear hT hJ; go_simp) ⟨Below.refl _ _, trivial, rfl⟩

  case s2 =>
    intro ρ W hR hJ hT
    have q56 : ρ (.tmp 56) = .pointer (some ⟨g, 0, none⟩) := hT.1 56 1 rfl rfl
    refine Op1.of_run (v := .pointer (some ⟨g, 2, none⟩)) (W' := W) (by clear hT hJ; go_simp) ⟨Below.refl _ _, trivial, rfl⟩

  case s3 =>
    intro ρ W hR hJ hT
    have q57 : ρ (.tmp 57) = .pointer (some ⟨g, 2, none⟩) := hT.1 57 2 rfl rfl
    have cc := (hR.cell (World.block_lt_of_cell? _ _ k2)).trans k2
    refine Op1.of_run (v := .int .i64 e) (W' := W) (by clear hT hJ; go_simp) ⟨Below.refl _ _, trivial, rfl⟩

  case s4 =>
    intro ρ W hR hJ hT
    have qc := hT.2.2.1 (Go.Value.slice none 0 0)
    refine Op1.of_run (v := .slice none 0 0) (W' := W) (by clear hT hJ; go_simp) ⟨Below.refl _ _, trivial, rfl⟩

  case s5 =>
    intro ρ W hR hJ hT
    have qc := hT.2.2.1 (Go.Value.int Go.IntKind.i64 0)
    refine Op1.of_run (v := .int .i64 0) (W' := W) (by clear hT hJ; go_simp) ⟨Below.refl _ _, trivial, rfl⟩

  case s6 =>
    intro ρ W hR hJ hT
    have q58 : ρ (.tmp 58) = .int .i64 e := hT.1 58 3 rfl rfl
    refine Op1.of_run (v := .int .i64 e) (W' := W) (by clear hT hJ; go_simp) ⟨Below.refl _ _, trivial, rfl⟩

  case hdone =>
    intro σ W hR hJ hV
    exact hQ σ W hR ⟨hV 4 (by decide), hV 5 (by decide), hV 6 (by decide)⟩
abbrev gt13_ops : List Oper := [{ dst := some 61, op := .move (.tmp 8), type := 74, pos := "ranges.go:230", after := #[], guard := none },
  { dst := some 62, op := .move (.tmp 5), type := 132, pos := "ranges.go:230", after := #[⟨5, .gcOnly .lateStores⟩], guard := none },
  { dst := some 63, op := .nilCheck (.tmp 62), type := 0, pos := "ranges.go:230", after := #[⟨1, .data⟩, ⟨5, .gcOnly .lateStores⟩], guard := none },
  { dst := some 64, op := .fieldAddr 134 (.tmp 63) 1, type := 0, pos := "ranges.go:230", after := #[⟨2, .data⟩, ⟨5, .gcOnly .lateStores⟩], guard := none },
  { dst := some 65, op := .load 3 (.tmp 64), type := 3, pos := "ranges.go:230", after := #[⟨3, .data⟩, ⟨5, .gcOnly .lateStores⟩], guard := none },
  { dst := some 2, op := .assign (.tmp 61), type := 74, pos := "ranges.go:230", after := #[⟨0, .data⟩, ⟨0, .phase⟩, ⟨1, .textOnly .lateStores⟩, ⟨2, .textOnly .lateStores⟩, ⟨3, .textOnly .lateStores⟩, ⟨4, .textOnly .lateStores⟩], guard := none },
  { dst := some 3, op := .assign (.tmp 65), type := 3, pos := "ranges.go:230", after := #[⟨4, .data⟩, ⟨5, .chain⟩, ⟨0, .phase⟩, ⟨1, .phase⟩, ⟨2, .phase⟩, ⟨3, .phase⟩, ⟨4, .phase⟩, ⟨5, .phase⟩], guard := none },
  { dst := some 4, op := .assign (.const (.int .i64 0)), type := 29, pos := "ranges.go:230", after := #[⟨6, .chain⟩, ⟨0, .phase⟩, ⟨1, .phase⟩, ⟨2, .phase⟩, ⟨3, .phase⟩, ⟨4, .phase⟩, ⟨5, .phase⟩, ⟨6, .phase⟩], guard := none }]
abbrev gt13_tab : List (Option Nat) := [none, none, some 5, some 6, some 7, none, none, none, none, none, none, none, none, none, none, none, none, none, none, none, none, none, none, none, none, none, none, none, none, none, none, none, none, none, none, none, none, none, none, none, none, none, none, none, none, none, none, none, none, none, none, none, none, none, none, none, none, none, none, none, none, some 0, some 1, some 2, some 3, some 4]

def gt13_val (g : Nat) (A : Option Addr) (n c : Nat) (u : Int) : Nat → Value → World → Prop := fun j v W => match j with
  | 0 => v = .slice A n c
  | 1 => v = .pointer (some ⟨g, 0, none⟩)
  | 2 => v = .pointer (some ⟨g, 0, none⟩)
  | 3 => v = .pointer (some ⟨g, 1, none⟩)
  | 4 => v = .int .i64 u
  | 5 => v = .slice A n c
  | 6 => v = .int .i64 u
  | 7 => v = .int .i64 0
  | _ => True

set_option maxRecDepth 100000 in
set_option maxHeartbeats 4000000 in
theorem Get_r13 (g : Nat) (A : Option Addr) (n c : Nat) (u : Int) (t0 : List Value) (d0 : List Deferred) (w : World) (Q : Exit → Act → World → Prop) (hl : t0.length = gt13_tab.length)
    (t5 : t0[5]? = some (.pointer (some ⟨g, 0, none⟩))) (t8 : t0[8]? = some (.slice A n c)) (k1 : w.cell? ⟨g, 1, none⟩ = some (.int .i64 u))
    (hQ : ∀ σ W, Below w.heap.size w W → σ 5 = .slice A n c ∧ σ 6 = .int .i64 u ∧ σ 7 = .int .i64 0 → Q .normal (lazyA (fun _ => true) σ t0 gt13_tab d0) W) :
    (Code.region 13 gt13_ops.toArray true).wp Try.prog Q { tmps := t0.toArray, defers := d0 } w := by
  refine wp_region_vals (by kernel_rfl) gt13_tab (by kernel_rfl) hl (fun W W' => Below W.heap.size W W') (fun _ => True) (gt13_val g A n c u) (below_drew (Below.refl _ _)) trivial (fun _ _ _ h k => below_step h k) ?hst ⟨(fun j b h => by cases h), (fun j b h => by cases h), (fun j b h => by cases h), (fun j b h => by cases h), (fun j b h => by cases h), (fun j b h => by cases h), (fun j b h => by cases h), (fun j b h => by cases h), trivial⟩ ⟨?s0, ?s1, ?s2, ?s3, ?s4, ?s5, ?s6, ?s7, trivial⟩ ?hdone
  case hst =>
    intro j v W W' hJ hR h
    match j with
    | 0 => exact h
    | 1 => exact h
    | 2 => exact h
    | 3 => exact h
    | 4 => exact h
    | 5 => exact h
    | 6 => exact h
    | 7 => exact h
    | n + 8 => trivial

  case s0 =>
    intro ρ W hR hJ hT
    have q8 := hT.2.1 8 _ t8 rfl
    refine Op1.of_run (v := .slice A n c) (W' := W) (by clear hT hJ; go_simp) ⟨Below.refl _ _, trivial, rfl⟩

  case s1 =>
    intro ρ W hR hJ hT
    have q5 := hT.2.1 5 _ t5 rfl
    refine Op1.of_run (v := .pointer (some ⟨g, 0, none⟩)) (W' := W) (by clear hT hJ; go_simp) ⟨Below.refl _ _, trivial, rfl⟩

  case s2 =>
    intro ρ W hR hJ hT
    have q62 : ρ (.tmp 62) = .pointer (some ⟨g, 0, none⟩) := hT.1 62 1 rfl rfl
    refine Op1.of_run (v := .pointer (some ⟨g, 0, none⟩)) (W' := W) (by clear hT hJ; go_simp) ⟨Below.refl _ _, trivial, rfl⟩

  case s3 =>
    intro ρ W hR hJ hT
    have q63 : ρ (.tmp 63) = .pointer (some ⟨g, 0, none⟩) := hT.1 63 2 rfl rfl
    refine Op1.of_run (v := .pointer (some ⟨g, 1, none⟩)) (W' := W) (by clear hT hJ; go_simp) ⟨Below.refl _ _, trivial, rfl⟩

  case s4 =>
    intro ρ W hR hJ hT
    have q64 : ρ (.tmp 64) = .pointer (some ⟨g, 1, none⟩) := hT.1 64 3 rfl rfl
    have cc := (hR.cell (World.block_lt_of_cell? _ _ k1)).trans k1
    refine Op1.of_run (v := .int .i64 u) (W' := W) (by clear hT hJ; go_simp) ⟨Below.refl _ _, trivial, rfl⟩

  case s5 =>
    intro ρ W hR hJ hT
    have q61 : ρ (.tmp 61) = .slice A n c := hT.1 61 0 rfl rfl
    refine Op1.of_run (v := .slice A n c) (W' := W) (by clear hT hJ; go_simp) ⟨Below.refl _ _, trivial, rfl⟩

  case s6 =>
    intro ρ W hR hJ hT
    have q65 : ρ (.tmp 65) = .int .i64 u := hT.1 65 4 rfl rfl
    refine Op1.of_run (v := .int .i64 u) (W' := W) (by clear hT hJ; go_simp) ⟨Below.refl _ _, trivial, rfl⟩

  case s7 =>
    intro ρ W hR hJ hT
    have qc := hT.2.2.1 (Go.Value.int Go.IntKind.i64 0)
    refine Op1.of_run (v := .int .i64 0) (W' := W) (by clear hT hJ; go_simp) ⟨Below.refl _ _, trivial, rfl⟩

  case hdone =>
    intro σ W hR hJ hV
    exact hQ σ W hR ⟨hV 5 (by decide), hV 6 (by decide), hV 7 (by decide)⟩

/-- A mark in a walk: which call comes next. -/
def Mk_ (n : Nat) : Prop := n = n
set_option maxRecDepth 100000 in
set_option maxHeartbeats 4000000 in
theorem Span_calls (k g : Nat) (A : Option Addr) (c : Nat) (bs : List Int) (u e tq r u' e' : Int) (w : World) (hg : Cur w g A bs.length c u e) (hC : Kd.C (Kd.int .u8) w A bs.length bs) (hc : bs.length ≤ c)
    (hu : 0 ≤ u) (hu2 : u ≤ bs.length) (hf : nextF k bs u e tq = some (r, u', e')) :
    Calls Try.prog 84 #[.pointer (some ⟨g, 0, none⟩), .int .i64 tq] w fun x w' => x = .returned (.agg #[.int .i64 (wrap64 (tq - r)), .int .i64 tq]) ∧ Cur w' g A bs.length c u' e' ∧ Only g w w' := by
  have hgl := lt_of_block hg
  have HG := Aside0.mk hg
  have HN := Aside0.mk (Next_calls k g A c bs u e tq r u' e' (w.alloc (.cells #[.int .i64 0, .int .i64 0] 95)) (hg.below (below_alloc (Below.refl _ _) _)) (Kd.C_below hC (below_alloc (Below.refl _ _) _)) hc hu hu2 hf)
  clear hg hC hc hu hu2 hf
  go_enter Try.func84, Try.ntmps84
  go_wp2_with (go_at_call 83; refine HN.out.mono ?_; rintro x w2 ⟨rfl, hg2, ho⟩; have HG2 := Aside0.mk hg2; have HO := Aside0.mk ho; have hx : w2.heap[w.heap.size]? = some (.cells #[.int .i64 0, .int .i64 0] 95 (0, 0)) := (ho.block _ (by simp) (by intro e; injection e; omega)).trans (heap_alloc_new w _); have x0 : w2.cell? ⟨w.heap.size, 0, none⟩ = some (.int .i64 0) := (by unfold World.cell?; rw [hx]; rfl); have x1 : w2.cell? ⟨w.heap.size, 1, none⟩ = some (.int .i64 0) := (by unfold World.cell?; rw [hx]; rfl); have y0 : w2.frozen? ⟨w.heap.size, 0, none⟩ = false := (by unfold World.frozen?; rw [hx]; rfl); have y1 : w2.frozen? ⟨w.heap.size, 1, none⟩ = false := (by unfold World.frozen?; rw [hx]; rfl); clear hg2 ho)
  (try simp only [Exit.inBlock, Exit.then])
  have hb2 : ((w2.setCell ⟨w.heap.size, 0, none⟩ (.int .i64 (wrap64 (tq - r)))).setCell ⟨w.heap.size, 1, none⟩ (.int .i64 tq)).heap[w.heap.size]? = some (.cells #[.int .i64 (wrap64 (tq - r)), .int .i64 tq] 95 (0, 0)) := cells_set _ (cells_set _ hx)
  refine bodyPost_ret (results_cell_row rfl _ _ w.heap.size 95 #[.int .i64 (wrap64 (tq - r)), .int .i64 tq] (0, 0) _ rfl hb2 Try.underlying95 rfl (by kernel_rfl)) rfl ⟨rfl, ?_, ?_⟩
  · unfold Cur
    exact (Below.heap_setCell _ _ _ _ (by show g ≠ w.heap.size; omega)).trans ((Below.heap_setCell _ _ _ _ (by show g ≠ w.heap.size; omega)).trans HG2.out)
  · have h1 : Only g w w2 := (Only.of_below (below_alloc (Below.refl w.heap.size w) _)).trans HO.out
    exact only_far (p := ⟨w.heap.size, 1, none⟩) (only_far (p := ⟨w.heap.size, 0, none⟩) h1 (Nat.le_refl _) _) (Nat.le_refl _) _
/-- Only g from a world that ends at g or below: nothing of that world has turned. -/
theorem Only.belowN {g B : Nat} {a W W' : World} (h : Below B a W) (ho : Only g W W') (hg : B ≤ g) (hB : B ≤ W.heap.size) : Below B a W' :=
  ⟨ho.os.trans h.os, ho.tape.trans h.tape, ho.output.trans h.output, Nat.le_trans h.size ho.size, fun k hk => (ho.block k (Nat.lt_of_lt_of_le hk hB) (by intro e; injection e; omega)).trans (h.block k hk)⟩
theorem OwnS.toR {W : World} {B B' : Nat} {v : Value} {xs : List S95} (h : OwnS W B v xs) (hB : B' ≤ B) : Kd.R k95 95 W B' (fun k => B ≤ k) v xs := by
  refine ⟨fun k hk => (h.lt hk).1, rowC xs, own_weaken h hB, ?_⟩
  have key : ∀ l : List S95, Reps (k95.M W B' (fun k => B ≤ k ∧ some k ≠ v.ownBlock)) k95.sz l (rowC l) := by
    intro l
    induction l with
    | nil => exact Reps.none _ _
    | cons x r ih =>
      have h1 : Reps (k95.M W B' (fun k => B ≤ k ∧ some k ≠ v.ownBlock)) k95.sz [x] [.int .i64 x.f0, .int .i64 x.f1] := by
        refine ⟨rfl, fun j p hj => ?_⟩
        match j with
        | 0 => simp only [List.getElem?_cons_zero, Option.some.injEq] at hj; subst hj; exact k95_mkM _ _ _ _
        | j + 1 => simp at hj
      exact Kd.reps_append h1 ih
  exact key xs
theorem OwnS.only {W W' : World} {B g : Nat} {v : Value} {xs : List S95} (h : OwnS W B v xs) (ho : Only g W W') (hg : g < B) : OwnS W' B v xs :=
  own_move h (fun k hk => ho.block k (h.lt hk).2 (by have := (h.lt hk).1; intro e; injection e; omega))
theorem OwnS.lit (W : World) (B : Nat) (hB : B ≤ W.heap.size) (a b : Int) : OwnS (W.alloc (.cells #[.int .i64 a, .int .i64 b] 95)) B (.slice (some ⟨W.heap.size, 0, none⟩) 1 1) [⟨a, b⟩] :=
  World.ownsRow_lit W _ 1 hB (by unfold maxLen; omega) rfl
theorem get_used {k : Nat} {l : List Int} {n u e : Int} (h : varint_Get.f k l = some (n, u, e)) : 0 ≤ u ∧ u ≤ l.length := by
  have hl0 : ∀ k x2 x5 l2 x28 x29, varint_Get.l0 k x2 x5 l2 x28 x29 = some (n, u, e) → u = x5 := by
    intro k
    induction k with
    | zero => intro _ _ _ _ _ h; simp [varint_Get.l0] at h
    | succ k ih =>
      intro x2 x5 l2 x28 x29 h
      simp only [varint_Get.l0] at h
      split at h
      · split at h
        · split at h
          · exact ih _ _ _ _ _ h
          · cases h
        · cases h
      · simp only [Option.some.injEq, Prod.mk.injEq] at h; exact h.2.1.symm
  unfold varint_Get.f at h
  split at h
  · simp only [Option.some.injEq, Prod.mk.injEq] at h; omega
  · split at h
    · split at h
      · split at h
        · simp only [Option.some.injEq, Prod.mk.injEq] at h; omega
        · split at h
          · split at h
            · have := hl0 _ _ _ _ _ _ h; omega
            · cases h
          · cases h
      · cases h
    · cases h
theorem short_used {k : Nat} {l : List Int} {n u e : Int} (h : varint_Shortest.f k l = some (n, u, e)) : 0 ≤ u ∧ u ≤ l.length := by
  unfold varint_Shortest.f at h
  obtain ⟨⟨n1, u1, e1⟩, h1, h⟩ := Option.bind_eq_some_iff.1 h
  have := get_used h1
  simp only at h
  split at h
  · obtain ⟨t, _, h⟩ := Option.bind_eq_some_iff.1 h
    split at h <;> (simp only [Option.some.injEq, Prod.mk.injEq] at h; omega)
  · simp only [Option.some.injEq, Prod.mk.injEq] at h; omega
theorem next_used {k : Nat} {bs : List Int} {u e most r u' e' : Int} (hl : bs.length ≤ 4611686018427387904) (hu : 0 ≤ u) (hu2 : u ≤ bs.length) (h : nextF k bs u e most = some (r, u', e')) : 0 ≤ u' ∧ u' ≤ bs.length := by
  unfold nextF at h
  split at h
  · obtain ⟨⟨n1, u1, e1⟩, h1, h⟩ := Option.bind_eq_some_iff.1 h
    have := short_used h1
    rw [List.length_drop] at this
    simp only at h
    split at h
    · split at h
      · simp only [Option.some.injEq, Prod.mk.injEq] at h; omega
      · simp only [Option.some.injEq, Prod.mk.injEq] at h
        have e2 : wrap64 (u + u1) = u + u1 := w64v (by omega)
        omega
    · simp only [Option.some.injEq, Prod.mk.injEq] at h; omega
  · simp only [Option.some.injEq, Prod.mk.injEq] at h; omega
/-- The loop of Get: what has been read, what is used, the error. -/
def getL (k : Nat) (bs : List Int) : Nat → Int → Int → List S95 → Int → Int → Option (List S95 × Int × Int)
  | 0, _, _, _, _, _ => none
  | q + 1, i, n, l, u, e => if i < n ∧ e = 0 then
      (nextF k bs u e (wrap64 ((sp l i.toNat).f0 - 2))).bind fun x => (nextF k bs x.2.1 x.2.2 (wrap64 (wrap64 ((sp l i.toNat).f0 - 2) - x.1))).bind fun y =>
        getL k bs q (i + 1) n (l ++ [⟨wrap64 (wrap64 (wrap64 ((sp l i.toNat).f0 - 2) - x.1) - y.1), wrap64 (wrap64 ((sp l i.toNat).f0 - 2) - x.1)⟩]) y.2.1 y.2.2
    else some (l, u, e)
def getF (k : Nat) (bs : List Int) : Option (List S95 × Int × Int) :=
  (nextF k bs 0 0 1099511627776).bind fun x => (nextF k bs x.2.1 x.2.2 63).bind fun y => (nextF k bs y.2.1 y.2.2 x.1).bind fun z =>
    (getL k bs 66 0 y.1 [⟨wrap64 (x.1 - z.1), x.1⟩] z.2.1 z.2.2).bind fun r => if r.2.2 = 0 then (api_Span_85.f k r.1).bind fun l => some (l, r.2.1, 0) else some ([], 0, r.2.2)
theorem getL_go {k q : Nat} {bs : List Int} {i n u : Int} {l : List S95} {r : List S95 × Int × Int} (h : getL k bs (q + 1) i n l u 0 = some r) (hi : i < n) :
    ∃ xa ua ea xb ub eb, nextF k bs u 0 (wrap64 ((sp l i.toNat).f0 - 2)) = some (xa, ua, ea) ∧ nextF k bs ua ea (wrap64 (wrap64 ((sp l i.toNat).f0 - 2) - xa)) = some (xb, ub, eb) ∧
      getL k bs q (i + 1) n (l ++ [⟨wrap64 (wrap64 (wrap64 ((sp l i.toNat).f0 - 2) - xa) - xb), wrap64 (wrap64 ((sp l i.toNat).f0 - 2) - xa)⟩]) ub eb = some r := by
  unfold getL at h
  rw [if_pos ⟨hi, rfl⟩] at h
  obtain ⟨⟨xa, ua, ea⟩, h1, h⟩ := Option.bind_eq_some_iff.1 h
  obtain ⟨⟨xb, ub, eb⟩, h2, h⟩ := Option.bind_eq_some_iff.1 h
  exact ⟨xa, ua, ea, xb, ub, eb, h1, h2, h⟩
theorem getL_end {k q : Nat} {bs : List Int} {i n u e : Int} {l lr : List S95} {ur er : Int} (h : getL k bs (q + 1) i n l u e = some (lr, ur, er)) (hi : ¬ (i < n ∧ e = 0)) : l = lr ∧ u = ur ∧ e = er := by
  unfold getL at h
  rw [if_neg hi] at h
  simpa using h
set_option maxRecDepth 100000 in
set_option maxHeartbeats 4000000 in
theorem Get_walk (k : Nat) (A : Option Addr) (c : Nat) (bs : List Int) (l lr : List S95) (u e x1 u1 e1 y1 u2 e2 z1 u3 e3 ur er : Int) (w : World) (hC : Kd.C (Kd.int .u8) w A bs.length bs) (hc : bs.length ≤ c) (hl : bs.length ≤ 4611686018427387904)
    (hx : nextF k bs 0 0 1099511627776 = some (x1, u1, e1)) (hy : nextF k bs u1 e1 63 = some (y1, u2, e2)) (hz : nextF k bs u2 e2 x1 = some (z1, u3, e3)) (hr : getL k bs 66 0 y1 [⟨wrap64 (x1 - z1), x1⟩] u3 e3 = some (lr, ur, er))
    (hf : (if er = 0 then (api_Span_85.f k lr).bind fun l => some (l, ur, 0) else some ([], 0, er)) = some (l, u, e)) :
    Calls Try.prog 44 #[.slice A bs.length c] w fun x w' => ∃ v, x = .returned (.tuple #[v, .int .i64 u, .int .i64 e]) ∧ Kd.R k95 95 w' w.heap.size (fun _ => True) v l ∧ Below w.heap.size w w' := by
  have hu1 := next_used hl (Int.le_refl _) (by omega) hx
  have hu2 := next_used hl hu1.1 hu1.2 hy
  have hu3 := next_used hl hu2.1 hu2.2 hz
  have HC := Aside0.mk hC
  have HLC := Aside0.mk hc
  have HLL := Aside0.mk hl
  have HX := Aside0.mk hx
  have HY := Aside0.mk hy
  have HZ := Aside0.mk hz
  have HR := Aside0.mk hr
  have HF := Aside0.mk hf
  have HU := Aside0.mk (And.intro hu1 (And.intro hu2 hu3))
  clear hC hc hl hx hy hz hr hf hu1 hu2 hu3
  obtain ⟨g, hg⟩ : ∃ g, w.heap.size = g := ⟨_, rfl⟩
  have HB0 := Aside0.mk (below_alloc (Below.refl w.heap.size w) (.cells #[.slice A bs.length c, .int .i64 0, .int .i64 0] 134))
  have HG0 := Aside0.mk (show Cur (w.alloc (.cells #[.slice A bs.length c, .int .i64 0, .int .i64 0] 134)) g A bs.length c 0 0 by rw [← hg]; exact heap_alloc_new w _)
  have HGW := Aside0.mk hg
  have HS0 := Aside0.mk (show g + 1 = (w.alloc (.cells #[.slice A bs.length c, .int .i64 0, .int .i64 0] 134)).heap.size by rw [World.size_alloc, hg])
  have HN1 := Aside0.mk (Next_calls k g A c bs 0 0 1099511627776 x1 u1 e1 _ HG0.out (Kd.C_below HC.out HB0.out) HLC.out (by decide) (by omega) HX.out)
  have HN2 := Aside0.mk (fun w2 (h1 : Cur w2 g A bs.length c u1 e1) (h2 : Below w.heap.size w w2) => Next_calls k g A c bs u1 e1 63 y1 u2 e2 w2 h1 (Kd.C_below HC.out h2) HLC.out HU.out.1.1 HU.out.1.2 HY.out)
  have HN3 := Aside0.mk (fun w2 (h1 : Cur w2 g A bs.length c u2 e2) (h2 : Below w.heap.size w w2) => Span_calls k g A c bs u2 e2 x1 z1 u3 e3 w2 h1 (Kd.C_below HC.out h2) HLC.out HU.out.2.1.1 HU.out.2.1.2 HZ.out)
  go_enter Try.func44, Try.ntmps44
  rw [hg]
  have HM : Mk_ 0 := rfl
  go_wp2_with (first
    | (have hm_ := (HM : Mk_ 0); clear hm_ HM; have HM : Mk_ 1 := rfl; go_at_call 83; refine HN1.out.mono ?_; rintro x w2 ⟨rfl, hg2, ho⟩; have HG1 := Aside0.mk hg2; have HB1 := Aside0.mk (Only.belowN HB0.out ho (Nat.le_of_eq HGW.out) HB0.out.size); have HS1 := Aside0.mk (show g + 1 ≤ w2.heap.size from Nat.le_trans (Nat.le_of_eq HS0.out) ho.size); clear hg2 ho)
    | (have hm_ := (HM : Mk_ 1); clear hm_ HM; have HM : Mk_ 2 := rfl; go_at_call 83; refine (HN2.out _ HG1.out HB1.out).mono ?_; rintro x w3 ⟨rfl, hg3, ho⟩; have HG2 := Aside0.mk hg3; have HB2 := Aside0.mk (Only.belowN HB1.out ho (Nat.le_of_eq HGW.out) HB1.out.size); have HS2 := Aside0.mk (Nat.le_trans HS1.out ho.size); clear hg3 ho)
    | (have hm_ := (HM : Mk_ 2); clear hm_ HM; have HM : Mk_ 3 := rfl; go_at_call 84; refine (HN3.out _ HG2.out HB2.out).mono ?_; rintro x w4 ⟨rfl, hg4, ho⟩; have HG3 := Aside0.mk hg4; have HB3 := Aside0.mk (Only.belowN HB2.out ho (Nat.le_of_eq HGW.out) HB2.out.size); have HS3 := Aside0.mk (Nat.le_trans HS2.out ho.size); clear hg4 ho))
  have HO0 := Aside0.mk (OwnS.lit w4 (g + 1) HS3.out (wrap64 (x1 - z1)) x1)
  have HG4 := Aside0.mk (HG3.out.below (below_alloc (Below.refl _ _) (.cells #[.int .i64 (wrap64 (x1 - z1)), .int .i64 x1] 95)))
  have HB4 := Aside0.mk (below_step HB3.out (below_alloc (Below.refl _ _) (.cells #[.int .i64 (wrap64 (x1 - z1)), .int .i64 x1] 95)))
  clear HM HN1 HN2 HN3 HG1 HG2 HG3 HB0 HB1 HB2 HB3 HG0 HS0 HS1 HS2
  go_loopw [8, 9] (fun v iv wr => ∃ (q i : Nat), i + q = 66 ∧ iv = .int .i64 (i : Int) ∧ Aside0 (∃ (ls : List S95) (uu ee : Int), ls.length = i + 1 ∧ getL k bs q i y1 ls uu ee = some (lr, ur, er) ∧ Cur wr g A bs.length c uu ee ∧ 0 ≤ uu ∧ uu ≤ bs.length ∧ OwnS wr (g + 1) v ls ∧ Below w.heap.size w wr)) (fun _ iv _ => 66 - (intOf iv).toNat)
  case atStart => exact ⟨66, 0, rfl, rfl, ⟨[⟨wrap64 (x1 - z1), x1⟩], u3, e3, rfl, HR.out, HG4.out, HU.out.2.2.1, HU.out.2.2.2, HO0.out, HB4.out⟩⟩
  case round =>
    obtain ⟨q, i, hq, rfl, HL⟩ := hrel
    obtain ⟨ls, uu, ee, h1, h2, h3, h4, h5, h6, h7⟩ := HL.out
    clear HL
    cases q with
    | zero => simp [getL] at h2
    | succ q =>
      obtain ⟨k0, k1, k2⟩ := h3.cells
      obtain ⟨A8, c8, rfl, hc8, hC8⟩ := h6.reads
      have H3 := Aside0.mk h3
      have H45 := Aside0.mk (And.intro h4 h5)
      have H6 := Aside0.mk h6
      have H7 := Aside0.mk h7
      have H1 := Aside0.mk h1
      have HCur := Aside0.mk hC8
      by_cases hin : (i : Int) < y1
      · by_cases hee : ee = 0
        · subst hee
          obtain ⟨xa, ua, ea, xb, ub, eb, ha, hb, hc9⟩ := getL_go h2 hin
          have hua := next_used HLL.out h4 h5 ha
          have HN := Aside0.mk (And.intro hua (next_used HLL.out hua.1 hua.2 hb))
          obtain ⟨b8, o8, rfl, z0, -⟩ := row_at hC8 i (by omega)
          rw [← sp_get (by omega)] at z0
          rw [Int.toNat_natCast] at ha hb hc9
          obtain ⟨mo, hmo⟩ : ∃ mo, wrap64 ((sp ls i).f0 - 2) = mo := ⟨_, rfl⟩
          rw [hmo] at ha hb hc9
          obtain ⟨tb, htb⟩ : ∃ x, wrap64 (mo - xa) = x := ⟨_, rfl⟩
          rw [htb] at hb hc9
          have HNA := Aside0.mk (Next_calls k g A c bs uu 0 mo xa ua ea wr H3.out (Kd.C_below HC.out H7.out) HLC.out h4 h5 ha)
          have HNB := Aside0.mk (fun w2 (h1 : Cur w2 g A bs.length c ua ea) (h2 : Below w.heap.size w w2) => Span_calls k g A c bs ua ea tb xb ub eb w2 h1 (Kd.C_below HC.out h2) HLC.out HN.out.1.1 HN.out.1.2 hb)
          have HC9 := Aside0.mk hc9
          have e1 : (i : Int) < ((ls.length : Nat) : Int) := by omega
          have hgb : w.heap.size ≤ g := Nat.le_of_eq HGW.out
          have HGB := Aside0.mk hgb
          clear h1 h2 h3 h4 h5 h6 h7 hC8 ha hb hc9 hua hgb
          have HM : Mk_ 0 := rfl
          obtain ⟨i0, hi0, hz0, hz1, hz2⟩ := info_parts info95f
          go_wp2_with (first
            | (have hm_ := (HM : Mk_ 0); clear hm_ HM; have HM : Mk_ 1 := rfl; go_at_call 83; refine HNA.out.mono ?_; rintro x wa ⟨rfl, hga, ho⟩; have HGa := Aside0.mk hga; have HBa := Aside0.mk (Only.belowN H7.out ho HGB.out H7.out.size); have HOa := Aside0.mk (H6.out.only ho (Nat.lt_succ_self g)); clear hga ho)
            | (have hm_ := (HM : Mk_ 1); clear hm_ HM; have HM : Mk_ 2 := rfl; go_at_call 84; refine (HNB.out _ HGa.out HBa.out).mono ?_; rintro x wb ⟨rfl, hgb, ho⟩; have HGb := Aside0.mk hgb; have HBb := Aside0.mk (Only.belowN HBa.out ho HGB.out HBa.out.size); have HOb := Aside0.mk (HOa.out.only ho (Nat.lt_succ_self g)); clear hgb ho)
            | ((with_reducible refine gate_builtin (b := .append) (xs := #[.tmp 40, .tmp 48]) rfl ?_); at_builtin; refine wpList_append_own _ rfl (.tmp 40) (.tmp 48) 74 rfl (g + 1) 95 i0 (.agg #[.int .i64 0, .int .i64 0]) 2 16 Try.underlying74 hi0 hz0 hz1 hz2 rfl (by decide) _ _ _ rfl (HOb.out.one _) ⟨wb.heap.size, 0, none⟩ 1 1 [.int .i64 (wrap64 (tb - xb)), .int .i64 tb] rfl rfl (World.news_of_block (heap_alloc_new wb _)) (by simp [Value.oneCell']) (by have := H1.out; unfold maxLen; omega) (by have := H1.out; omega) (Nat.le_trans (Nat.succ_le_of_lt (lt_of_block HGb.out)) (by simp)) ?_; intro v5 w5 ho hgr hn_; clear hn_; have HO5 := Aside0.mk (show OwnS w5 (g + 1) v5 (ls ++ [⟨wrap64 (tb - xb), tb⟩]) from own_snoc ho); have HGR := Aside0.mk hgr; clear ho hgr))
          have hbl : ∀ k, (Value.slice (some ⟨b8, o8, none⟩) ls.length c8).ownBlock = some k → g + 1 ≤ k := fun k hk => (HOb.out.lt hk).1
          have HG5 := Aside0.mk (show Cur w5 g A bs.length c ub eb from (HGR.out.block g (Nat.lt_of_lt_of_le (lt_of_block HGb.out) (by simp)) (fun e => by have := hbl g e.symm; omega)).trans (HGb.out.below (below_alloc (Below.refl _ _) _)))
          have HB5 := Aside0.mk (Below.grown (below_step HBb.out (below_alloc (Below.refl _ _) _)) HGR.out (Nat.le_trans HBb.out.size (by simp)) (fun k hk => Nat.le_trans HGB.out (Nat.le_of_succ_le (hbl k hk))))
          go_roundw
          case rel => exact ⟨q, i + 1, by omega, by simp, ⟨ls ++ [⟨wrap64 (tb - xb), tb⟩], ub, eb, by have := H1.out; simp [this], by have := HC9.out; simpa using this, HG5.out, HN.out.2.1, HN.out.2.2, HO5.out, HB5.out⟩⟩
          case measure => simp [intOf]; omega
        · obtain ⟨rfl, rfl, rfl⟩ := getL_end h2 (by omega)
          have q1 : (ee == 0) = false := by simp [hee]
          have q2 : (ee != 0) = true := by simp [hee]
          have hf2 := HF.out
          rw [if_neg hee] at hf2
          simp only [Option.some.injEq, Prod.mk.injEq] at hf2
          obtain ⟨rfl, rfl, rfl⟩ := hf2
          clear h1 h2 h3 h4 h5 h6 h7 hC8
          go_wp2
          refine Get_r11 g ee _ _ _ _ (by rfl) (by rfl) k2 ?_
          intro σ W hB hσ
          obtain ⟨s1, s2, s3⟩ := hσ
          have HBW := Aside0.mk hB
          clear hB
          simp only [lazyA, lazyT, gt11_tab, List.zipWith_cons_cons, List.zipWith_nil_left, cond_true]
          rename_i K0 hK0
          refine hK0 _ _ ?_
          rw [s1, s2, s3]
          go_wp2
          go_ret3
          rw [← HGW.out]
          exact ⟨_, rfl, Kd.R_nil _ _ _ _ _, below_step H7.out HBW.out⟩
      · by_cases hee : ee = 0
        · subst hee
          obtain ⟨rfl, rfl, rfl⟩ := getL_end h2 (by omega)
          have hf2 := HF.out
          rw [if_pos rfl] at hf2
          obtain ⟨l', hl', hf2⟩ := Option.bind_eq_some_iff.1 hf2
          simp only [Option.some.injEq, Prod.mk.injEq] at hf2
          obtain ⟨rfl, rfl, rfl⟩ := hf2
          have HRV := Aside0.mk (api_Span_85.calls k (fun k => g + 1 ≤ k) (.slice A8 ls.length c8) ls l' w wr H7.out (H6.out.toR (Nat.le_succ_of_le (Nat.le_of_eq HGW.out))) hl')
          clear h1 h2 h3 h4 h5 h6 h7 hC8 hl'
          go_wp2_with (go_at_call 85; refine HRV.out.mono ?_; rintro x wv ⟨rfl, hrv, hbv, hkv⟩; have HRR := Aside0.mk hrv; have HBV := Aside0.mk hbv; have HGV := Aside0.mk (show Cur wv g A bs.length c uu 0 from (hkv.2 g (lt_of_block H3.out) (by omega)).trans H3.out); have j1 := HGV.out.cells.2.1; clear hrv hbv hkv)
          refine Get_r13 g A8 ls.length c8 uu _ _ _ _ (by rfl) (by rfl) (by rfl) j1 ?_
          intro σ W hB hσ
          obtain ⟨s1, s2, s3⟩ := hσ
          have HBW := Aside0.mk hB
          clear hB
          simp only [lazyA, lazyT, gt13_tab, List.zipWith_cons_cons, List.zipWith_nil_left, cond_true]
          rename_i K0 hK0
          refine hK0 _ _ ?_
          rw [s1, s2, s3]
          go_wp2
          go_ret3
          rw [← HGW.out]
          exact ⟨_, rfl, Kd.R_mono (Kd.R_below HRR.out HBW.out) (fun _ _ => trivial), below_step HBV.out HBW.out⟩
        · obtain ⟨rfl, rfl, rfl⟩ := getL_end h2 (by omega)
          have q1 : (ee == 0) = false := by simp [hee]
          have q2 : (ee != 0) = true := by simp [hee]
          have hf2 := HF.out
          rw [if_neg hee] at hf2
          simp only [Option.some.injEq, Prod.mk.injEq] at hf2
          obtain ⟨rfl, rfl, rfl⟩ := hf2
          clear h1 h2 h3 h4 h5 h6 h7 hC8
          go_wp2
          refine Get_r11 g ee _ _ _ _ (by rfl) (by rfl) k2 ?_
          intro σ W hB hσ
          obtain ⟨s1, s2, s3⟩ := hσ
          have HBW := Aside0.mk hB
          clear hB
          simp only [lazyA, lazyT, gt11_tab, List.zipWith_cons_cons, List.zipWith_nil_left, cond_true]
          rename_i K0 hK0
          refine hK0 _ _ ?_
          rw [s1, s2, s3]
          go_wp2
          go_ret3
          rw [← HGW.out]
          exact ⟨_, rfl, Kd.R_nil _ _ _ _ _, below_step H7.out HBW.out⟩
theorem Get_calls (k : Nat) (A : Option Addr) (c : Nat) (bs : List Int) (l : List S95) (u e : Int) (w : World) (hC : Kd.C (Kd.int .u8) w A bs.length bs) (hc : bs.length ≤ c) (hl : bs.length ≤ 4611686018427387904) (hf : getF k bs = some (l, u, e)) :
    Calls Try.prog 44 #[.slice A bs.length c] w fun x w' => ∃ v, x = .returned (.tuple #[v, .int .i64 u, .int .i64 e]) ∧ Kd.R k95 95 w' w.heap.size (fun _ => True) v l ∧ Below w.heap.size w w' := by
  unfold getF at hf
  obtain ⟨⟨x1, u1, e1⟩, hx, hf⟩ := Option.bind_eq_some_iff.1 hf
  obtain ⟨⟨y1, u2, e2⟩, hy, hf⟩ := Option.bind_eq_some_iff.1 hf
  obtain ⟨⟨z1, u3, e3⟩, hz, hf⟩ := Option.bind_eq_some_iff.1 hf
  obtain ⟨⟨lr, ur, er⟩, hr, hf⟩ := Option.bind_eq_some_iff.1 hf
  exact Get_walk k A c bs l lr u e x1 u1 e1 y1 u2 e2 z1 u3 e3 ur er w hC hc hl hx hy hz hr hf
end Go.Proofs.Ytiladcdogbeomaa.QRangesPlays
