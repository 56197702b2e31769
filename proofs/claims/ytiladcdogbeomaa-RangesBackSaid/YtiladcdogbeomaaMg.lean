/- Law 17 (ranges): contracts of functions that its statements reach, and plain laws behind them (part 7 of 12). No condition. -/
import Derived.Test.YtiladcdogbeomaaMf
import Derived.Test.YtiladcdogbeomaaMa
import Derived.Laws.ResultCell
namespace Go.Proofs.Ytiladcdogbeomaa.QRangesPlays
open Go.RowKit Go.Shelf Go.Proofs.YtiladcdogbeomaaW.PrintWords Go.Proofs.YtiladcdogbeomaaW.PrintLast Go.Proofs.YtiladcdogbeomaaW.PrintMore Go.Proofs.Ytiladcdogbeomaa.RowLaws Go.Proofs.Ytiladcdogbeomaa.Lazy
attribute [local go_sem] Oper.semAt_some
/-- Block b holds a reference's set that reads as l. -/
def Fin1 (b : Nat) (l : List S95) (W : World) : Prop := ∃ A c, W.heap[b]? = some (.cells #[.slice A l.length c] 80 (0, 0)) ∧ l.length ≤ c ∧ Kd.C k95 W A l.length l
def Sl1 (b : Nat) (W : World) : Prop := ∃ A n c, W.heap[b]? = some (.cells #[.slice A n c] 80 (0, 0))
def Rd (b : Nat) (l : List S95) (W W' : World) : Prop := Only b W W' ∧ (Fin1 b l W → Fin1 b l W')
theorem C_one {W W' : World} {g : Nat} {A : Option Addr} {n : Nat} {l : List S95} {t : TypeId} (h : Kd.C k95 W A n l) (ho : Only g W W') {v : Value} (hg : W.heap[g]? = some (.cells #[v] t (0, 0))) (hv : ∀ k i, v ≠ .int k i) : Kd.C k95 W' A n l := by
  refine ⟨h.1, h.2.1, fun hn => ?_⟩
  obtain ⟨b, o, hA, z0, _⟩ := row_at h 0 (by have := h.1; omega)
  subst hA
  refine ⟨_, rfl, ?_⟩
  intro j p hj
  obtain ⟨ad, hA, hc⟩ := h.2.2 hn
  injection hA with hA
  subst hA
  obtain ⟨c, h1, h2, h3⟩ := hc j p hj
  refine ⟨c, h1, h2, fun i u hu => ?_⟩
  have hcell := h3 i u hu
  rw [add_off] at hcell ⊢
  have hne : b ≠ g := by
    intro e
    subst e
    have z1 : (#[v] : Array Value)[o + 0 * 2]? = some (.int .i64 (l[0]'(by have := h.1; omega)).f0) := by simpa [World.cell?, hg] using z0
    have ho0 : o + 0 * 2 < 1 := by simpa using (Array.getElem?_eq_some_iff.1 z1).1
    have e0 : o + 0 * 2 = 0 := by omega
    rw [e0] at z1
    exact hv _ _ (by simpa using z1)
  exact ho.cell (p := ⟨b, _, none⟩) hne hcell
theorem C_sl1 {W W' : World} {b : Nat} {A : Option Addr} {n : Nat} {l : List S95} (h : Kd.C k95 W A n l) (hJ : Sl1 b W) (ho : Only b W W') : Kd.C k95 W' A n l := by
  obtain ⟨_, _, _, hb⟩ := hJ
  exact C_one h ho hb (by intro k i e; cases e)
theorem Rd.refl (b : Nat) (l : List S95) (W : World) : Rd b l W W := ⟨Only.refl _ _, id⟩
theorem Rd.trans {b : Nat} {l : List S95} {A B C : World} (h : Rd b l A B) (k : Rd b l B C) : Rd b l A C := ⟨h.1.trans k.1, fun x => k.2 (h.2 x)⟩
theorem Fin1.below {b : Nat} {l : List S95} {W W' : World} (h : Fin1 b l W) (hb : Below W.heap.size W W') : Fin1 b l W' := by
  obtain ⟨A, c, h1, h2, h3⟩ := h
  exact ⟨A, c, (hb.block b (lt_of_block h1)).trans h1, h2, Kd.C_below h3 hb⟩
theorem Sl1.below {b : Nat} {W W' : World} (h : Sl1 b W) (hb : Below W.heap.size W W') : Sl1 b W' := by
  obtain ⟨A, n, c, h1⟩ := h
  exact ⟨A, n, c, (hb.block b (lt_of_block h1)).trans h1⟩
theorem Rd.of_below {b : Nat} {l : List S95} {W W' : World} (hb : Below W.heap.size W W') : Rd b l W W' := ⟨Only.of_below hb, fun h => h.below hb⟩
/-- The store into the result's box. -/
theorem Rd.put {b : Nat} {l : List S95} {W : World} {A : Option Addr} {n c : Nat} (hJ : Sl1 b W) (hn : l.length = n) (hc : n ≤ c) (h : Kd.C k95 W A n l) :
    Rd b l W (W.setCell ⟨b, 0, none⟩ (.slice A n c)) ∧ Sl1 b (W.setCell ⟨b, 0, none⟩ (.slice A n c)) ∧ Fin1 b l (W.setCell ⟨b, 0, none⟩ (.slice A n c)) := by
  subst hn
  have ho : Only b W (W.setCell ⟨b, 0, none⟩ (.slice A l.length c)) := (Only.refl b W).setCell rfl _
  have h2 := C_sl1 h hJ ho
  obtain ⟨A', n', c', hb⟩ := hJ
  have hb2 := Boxed.set (t := 80) (.slice A l.length c) (show Boxed W b 80 _ from hb)
  have hf : Fin1 b l (W.setCell ⟨b, 0, none⟩ (.slice A l.length c)) := ⟨A, c, hb2, hc, h2⟩
  exact ⟨⟨ho, fun _ => hf⟩, ⟨_, _, _, hb2⟩, hf⟩

abbrev d9_ops : List Oper := [{ dst := some 51, op := .load 80 (.tmp 4), type := 80, pos := "law.go:31", after := #[], guard := none },
  { dst := some 52, op := .move (.tmp 9), type := 3, pos := "law.go:31", after := #[⟨7, .gcOnly .lateStores⟩], guard := none },
  { dst := some 53, op := .move (.tmp 8), type := 3, pos := "law.go:31", after := #[⟨7, .gcOnly .lateStores⟩], guard := none },
  { dst := some 54, op := .load 80 (.tmp 4), type := 80, pos := "law.go:31", after := #[], guard := none },
  { dst := some 55, op := .call { callee := .value (.func 76), args := #[.tmp 54], argTypes := #[80] }, type := 3, pos := "law.go:31", after := #[⟨3, .data⟩], guard := none },
  { dst := some 56, op := .binOp .sub 3 (.tmp 53) (.tmp 55) 3, type := 3, pos := "law.go:31", after := #[⟨2, .data⟩, ⟨4, .data⟩, ⟨7, .gcOnly .lateStores⟩], guard := none },
  { dst := some 57, op := .binOp .eql 3 (.tmp 52) (.tmp 56) 3, type := 4, pos := "law.go:31", after := #[⟨1, .data⟩, ⟨5, .data⟩, ⟨7, .gcOnly .lateStores⟩], guard := none },
  { dst := none, op := .store 80 (.tmp 6) (.tmp 51), type := 0, pos := "law.go:31", after := #[⟨0, .data⟩, ⟨4, .chain⟩, ⟨0, .phase⟩, ⟨1, .textOnly .lateStores⟩, ⟨2, .textOnly .lateStores⟩, ⟨3, .textOnly .lateStores⟩, ⟨4, .textOnly .lateStoresUnsure⟩, ⟨5, .textOnly .lateStores⟩, ⟨6, .textOnly .lateStores⟩], guard := none },
  { dst := some 7, op := .assign (.tmp 57), type := 4, pos := "law.go:31", after := #[⟨6, .data⟩, ⟨7, .chain⟩, ⟨0, .phase⟩, ⟨1, .phase⟩, ⟨2, .phase⟩, ⟨3, .phase⟩, ⟨4, .phase⟩, ⟨5, .phase⟩, ⟨6, .phase⟩, ⟨7, .phase⟩], guard := none }]
abbrev d9_tab : List (Option Nat) := [none, none, none, none, none, none, none, some 8, none, none, none, none, none, none, none, none, none, none, none, none, none, none, none, none, none, none, none, none, none, none, none, none, none, none, none, none, none, none, none, none, none, none, none, none, none, none, none, none, none, none, none, some 0, some 1, some 2, some 3, some 4, some 5, some 6, none, none, none, none, none, none, none, none, none, none, none, none, none, none, none, none, none, none, none, none]

def d9_val (b4 b6 : Nat) (A : Option Addr) (c : Nat) (l : List S95) (n0 c0 : Int) : Nat → Value → World → Prop := fun j v W => match j with
  | 0 => v = Value.agg #[.slice A l.length c]
  | 1 => v = .int .i64 n0
  | 2 => v = .int .i64 c0
  | 3 => v = Value.agg #[.slice A l.length c]
  | 4 => v = .int .i64 (cntF l)
  | 5 => v = .int .i64 n0
  | 6 => v = .bool true
  | 7 => Fin1 b6 l W
  | 8 => v = .bool true
  | _ => True

set_option maxRecDepth 100000 in
set_option maxHeartbeats 4000000 in
theorem Do_d9 (b4 b6 : Nat) (A : Option Addr) (c : Nat) (l : List S95) (n0 c0 : Int) (t0 : List Value) (d0 : List Deferred) (w : World) (Q : Exit → Act → World → Prop) (hl : t0.length = d9_tab.length)
    (t4 : t0[4]? = some (.pointer (some ⟨b4, 0, none⟩))) (t6 : t0[6]? = some (.pointer (some ⟨b6, 0, none⟩))) (t9 : t0[9]? = some (.int .i64 n0)) (t8 : t0[8]? = some (.int .i64 c0)) (hn : wrap64 (c0 - cntF l) = n0)
    (h4 : w.cell? ⟨b4, 0, none⟩ = some (.slice A l.length c)) (hC : Kd.C k95 w A l.length l) (hlc : l.length ≤ c) (hll : l.length < 8796093022208) (h46 : b4 ≠ b6) (h6 : Sl1 b6 w)
    (hQ : ∀ σ W, Only b6 w W → Fin1 b6 l W → σ 8 = .bool true → Q .normal (lazyA (fun _ => true) σ t0 d9_tab d0) W) :
    (Code.region 9 d9_ops.toArray true).wp Try.prog Q { tmps := t0.toArray, defers := d0 } w := by
  refine wp_region_vals (by kernel_rfl) d9_tab (by kernel_rfl) hl (Rd b6 l) (Sl1 b6) (d9_val b4 b6 A c l n0 c0) ⟨(Only.refl _ w).drew, fun h => h.below (below_drew (Below.refl _ _))⟩ (h6.below (below_drew (Below.refl _ _))) (fun _ _ _ => Rd.trans) ?hst ⟨(fun j b h => by cases h), (fun j b h => by cases h), (fun j b h => by cases h), (fun j b h => by cases h), (fun j b h => by cases h), (fun j b h => by cases h), (fun j b h => by cases h), (fun j b h => by cases h), (fun j b h => by cases h), trivial⟩ ⟨?s0, ?s1, ?s2, ?s3, ?s4, ?s5, ?s6, ?s7, ?s8, trivial⟩ ?hdone

  case hst =>
    intro j v W W' hJ hR h
    match j with
    | 0 => exact h
    | 1 => exact h
    | 2 => exact h
    | 3 => exact h
    | 4 => exact h
    | 5 => exact h
    | 6 => exact h
    | 7 => exact hR.2 h
    | 8 => exact h
    | n + 9 => trivial

  case s0 =>
    intro ρ W hR hJ hT
    have q4 := hT.2.1 4 _ t4 rfl
    have c4 := hR.1.cell (p := ⟨b4, 0, none⟩) h46 h4
    refine Op1.of_run (v := Value.agg #[.slice A l.length c]) (W' := W) (by clear hT hJ; go_simp) ⟨Rd.refl _ _ _, hJ, rfl⟩

  case s1 =>
    intro ρ W hR hJ hT
    have q9 := hT.2.1 9 _ t9 rfl
    refine Op1.of_run (v := .int .i64 n0) (W' := W) (by clear hT hJ; go_simp) ⟨Rd.refl _ _ _, hJ, rfl⟩

  case s2 =>
    intro ρ W hR hJ hT
    have q8 := hT.2.1 8 _ t8 rfl
    refine Op1.of_run (v := .int .i64 c0) (W' := W) (by clear hT hJ; go_simp) ⟨Rd.refl _ _ _, hJ, rfl⟩

  case s3 =>
    intro ρ W hR hJ hT
    have q4 := hT.2.1 4 _ t4 rfl
    have c4 := hR.1.cell (p := ⟨b4, 0, none⟩) h46 h4
    refine Op1.of_run (v := Value.agg #[.slice A l.length c]) (W' := W) (by clear hT hJ; go_simp) ⟨Rd.refl _ _ _, hJ, rfl⟩

  case s4 =>
    intro ρ W hR hJ hT
    have q54 : ρ (.tmp 54) = Value.agg #[.slice A l.length c] := hT.1 54 3 rfl rfl
    have qf := hT.2.2.2 76
    refine Op1.of_call (f := 76) (args := #[Value.agg #[.slice A l.length c]]) (W' := W) (by clear hT hJ; go_simp) ?_
    refine (RefCount_calls l _ W ⟨A, c, rfl, hlc, C_sl1 hC h6 hR.1⟩ hll).mono ?_
    rintro e W2 ⟨rfl, hb⟩
    exact ⟨_, rfl, Rd.of_below hb, hJ.below hb, rfl⟩

  case s5 =>
    intro ρ W hR hJ hT
    have q53 : ρ (.tmp 53) = .int .i64 c0 := hT.1 53 2 rfl rfl
    have q55 : ρ (.tmp 55) = .int .i64 (cntF l) := hT.1 55 4 rfl rfl
    have hn2 : IntKind.i64.wrap (c0 - cntF l) = n0 := by rw [← hn]; simp [IntKind.wrap_i64, wrap64]
    refine Op1.of_run (v := .int .i64 n0) (W' := W) (by clear hT hJ; go_simp) ⟨Rd.refl _ _ _, hJ, rfl⟩

  case s6 =>
    intro ρ W hR hJ hT
    have q52 : ρ (.tmp 52) = .int .i64 n0 := hT.1 52 1 rfl rfl
    have q56 : ρ (.tmp 56) = .int .i64 n0 := hT.1 56 5 rfl rfl
    refine Op1.of_run (v := .bool true) (W' := W) (by clear hT hJ; go_simp) ⟨Rd.refl _ _ _, hJ, rfl⟩

  case s7 =>
    intro ρ W hR hJ hT
    have q6 := hT.2.1 6 _ t6 rfl
    have q51 : ρ (.tmp 51) = Value.agg #[.slice A l.length c] := hT.1 51 0 rfl rfl
    obtain ⟨A', n', c', hb⟩ := hJ
    have cb := cell_of_one hb
    have fb := free_of_one hb
    obtain ⟨k1, k2, k3⟩ := Rd.put ⟨_, _, _, hb⟩ rfl hlc (C_sl1 hC h6 hR.1)
    refine Op1.of_skip (W' := W.setCell ⟨b6, 0, none⟩ (.slice A l.length c)) (by clear hT; go_simp) ⟨k1, k2, k3⟩

  case s8 =>
    intro ρ W hR hJ hT
    have q57 : ρ (.tmp 57) = .bool true := hT.1 57 6 rfl rfl
    refine Op1.of_run (v := .bool true) (W' := W) (by clear hT hJ; go_simp) ⟨Rd.refl _ _ _, hJ, rfl⟩

  case hdone =>
    intro σ W hR hJ hV
    exact hQ σ W hR.1 (hV 7 (by decide)) (hV 8 (by decide))

abbrev d13_ops : List Oper := [{ dst := some 68, op := .load 80 (.tmp 11), type := 80, pos := "law.go:35", after := #[], guard := none },
  { dst := some 69, op := .move (.tmp 10), type := 3, pos := "law.go:35", after := #[⟨10, .gcOnly .lateStores⟩], guard := none },
  { dst := some 70, op := .fieldAddr 80 (.tmp 4) 0, type := 0, pos := "law.go:35", after := #[], guard := none },
  { dst := some 71, op := .load 74 (.tmp 70), type := 74, pos := "law.go:35", after := #[⟨2, .data⟩], guard := none },
  { dst := some 72, op := .call { callee := .builtin .len, args := #[.tmp 71], argTypes := #[74] }, type := 3, pos := "law.go:35", after := #[⟨3, .data⟩], guard := none },
  { dst := some 73, op := .fieldAddr 80 (.tmp 11) 0, type := 0, pos := "law.go:35", after := #[], guard := none },
  { dst := some 74, op := .load 74 (.tmp 73), type := 74, pos := "law.go:35", after := #[⟨5, .data⟩], guard := none },
  { dst := some 75, op := .call { callee := .builtin .len, args := #[.tmp 74], argTypes := #[74] }, type := 3, pos := "law.go:35", after := #[⟨6, .data⟩], guard := none },
  { dst := some 76, op := .binOp .sub 3 (.tmp 72) (.tmp 75) 3, type := 3, pos := "law.go:35", after := #[⟨4, .data⟩, ⟨7, .data⟩, ⟨10, .gcOnly .lateStores⟩], guard := none },
  { dst := some 77, op := .binOp .eql 3 (.tmp 69) (.tmp 76) 3, type := 4, pos := "law.go:35", after := #[⟨1, .data⟩, ⟨8, .data⟩, ⟨10, .gcOnly .lateStores⟩], guard := none },
  { dst := none, op := .store 80 (.tmp 6) (.tmp 68), type := 0, pos := "law.go:35", after := #[⟨0, .data⟩, ⟨0, .phase⟩, ⟨1, .textOnly .lateStores⟩, ⟨2, .textOnly .lateStores⟩, ⟨3, .textOnly .lateStores⟩, ⟨4, .textOnly .lateStoresUnsure⟩, ⟨5, .textOnly .lateStores⟩, ⟨6, .textOnly .lateStores⟩, ⟨7, .textOnly .lateStoresUnsure⟩, ⟨8, .textOnly .lateStores⟩, ⟨9, .textOnly .lateStores⟩], guard := none },
  { dst := some 7, op := .assign (.tmp 77), type := 4, pos := "law.go:35", after := #[⟨9, .data⟩, ⟨10, .chain⟩, ⟨0, .phase⟩, ⟨1, .phase⟩, ⟨2, .phase⟩, ⟨3, .phase⟩, ⟨4, .phase⟩, ⟨5, .phase⟩, ⟨6, .phase⟩, ⟨7, .phase⟩, ⟨8, .phase⟩, ⟨9, .phase⟩, ⟨10, .phase⟩], guard := none }]
abbrev d13_tab : List (Option Nat) := [none, none, none, none, none, none, none, some 11, none, none, none, none, none, none, none, none, none, none, none, none, none, none, none, none, none, none, none, none, none, none, none, none, none, none, none, none, none, none, none, none, none, none, none, none, none, none, none, none, none, none, none, none, none, none, none, none, none, none, none, none, none, none, none, none, none, none, none, none, some 0, some 1, some 2, some 3, some 4, some 5, some 6, some 7, some 8, some 9]

def d13_val (b4 b6 b11 : Nat) (A4 : Option Addr) (m4 e4 : Nat) (A : Option Addr) (c : Nat) (l : List S95) (n0 : Int) : Nat → Value → World → Prop := fun j v W => match j with
  | 0 => v = Value.agg #[.slice A l.length c]
  | 1 => v = .int .i64 n0
  | 2 => v = Value.pointer (some ⟨b4, 0, none⟩)
  | 3 => v = .slice A4 m4 e4
  | 4 => v = .int .i64 (m4 : Int)
  | 5 => v = Value.pointer (some ⟨b11, 0, none⟩)
  | 6 => v = .slice A l.length c
  | 7 => v = .int .i64 (l.length : Int)
  | 8 => v = .int .i64 n0
  | 9 => v = .bool true
  | 10 => Fin1 b6 l W
  | 11 => v = .bool true
  | _ => True

set_option maxRecDepth 100000 in
set_option maxHeartbeats 4000000 in
theorem Do_d13 (b4 b6 b11 : Nat) (A4 : Option Addr) (m4 e4 : Nat) (A : Option Addr) (c : Nat) (l : List S95) (n0 : Int) (t0 : List Value) (d0 : List Deferred) (w : World) (Q : Exit → Act → World → Prop) (hl : t0.length = d13_tab.length)
    (t4 : t0[4]? = some (.pointer (some ⟨b4, 0, none⟩))) (t6 : t0[6]? = some (.pointer (some ⟨b6, 0, none⟩))) (t11 : t0[11]? = some (.pointer (some ⟨b11, 0, none⟩))) (t10 : t0[10]? = some (.int .i64 n0)) (hn : wrap64 ((m4 : Int) - (l.length : Int)) = n0)
    (h4 : w.cell? ⟨b4, 0, none⟩ = some (.slice A4 m4 e4)) (h11 : w.cell? ⟨b11, 0, none⟩ = some (.slice A l.length c)) (hC : Kd.C k95 w A l.length l) (hlc : l.length ≤ c) (h46 : b4 ≠ b6) (h116 : b11 ≠ b6) (h6 : Sl1 b6 w)
    (hQ : ∀ σ W, Only b6 w W → Fin1 b6 l W → σ 11 = .bool true → Q .normal (lazyA (fun _ => true) σ t0 d13_tab d0) W) :
    (Code.region 13 d13_ops.toArray true).wp Try.prog Q { tmps := t0.toArray, defers := d0 } w := by
  refine wp_region_vals (by kernel_rfl) d13_tab (by kernel_rfl) hl (Rd b6 l) (Sl1 b6) (d13_val b4 b6 b11 A4 m4 e4 A c l n0) ⟨(Only.refl _ w).drew, fun h => h.below (below_drew (Below.refl _ _))⟩ (h6.below (below_drew (Below.refl _ _))) (fun _ _ _ => Rd.trans) ?hst ⟨(fun j b h => by cases h), (fun j b h => by cases h), (fun j b h => by cases h), (fun j b h => by cases h), (fun j b h => by cases h), (fun j b h => by cases h), (fun j b h => by cases h), (fun j b h => by cases h), (fun j b h => by cases h), (fun j b h => by cases h), (fun j b h => by cases h), (fun j b h => by cases h), trivial⟩ ⟨?s0, ?s1, ?s2, ?s3, ?s4, ?s5, ?s6, ?s7, ?s8, ?s9, ?s10, ?s11, trivial⟩ ?hdone

  case hst =>
    intro j v W W' hJ hR h
    match j with
    | 0 => exact h
    | 1 => exact h
    | 2 => exact h
    | 3 => exact h
    | 4 => exact h
    | 5 => exact h
    | 6 => exact h
    | 7 => exact h
    | 8 => exact h
    | 9 => exact h
    | 10 => exact hR.2 h
    | 11 => exact h
    | n + 12 => trivial

  case s0 =>
    intro ρ W hR hJ hT
    have q11 := hT.2.1 11 _ t11 rfl
    have cc := hR.1.cell (p := ⟨b11, 0, none⟩) h116 h11
    refine Op1.of_run (v := Value.agg #[.slice A l.length c]) (W' := W) (by clear hT hJ; go_simp) ⟨Rd.refl _ _ _, hJ, rfl⟩

  case s1 =>
    intro ρ W hR hJ hT
    have q10 := hT.2.1 10 _ t10 rfl
    refine Op1.of_run (v := .int .i64 n0) (W' := W) (by clear hT hJ; go_simp) ⟨Rd.refl _ _ _, hJ, rfl⟩

  case s2 =>
    intro ρ W hR hJ hT
    have q4 := hT.2.1 4 _ t4 rfl
    refine Op1.of_run (v := Value.pointer (some ⟨b4, 0, none⟩)) (W' := W) (by clear hT hJ; go_simp) ⟨Rd.refl _ _ _, hJ, rfl⟩

  case s3 =>
    intro ρ W hR hJ hT
    have q70 : ρ (.tmp 70) = Value.pointer (some ⟨b4, 0, none⟩) := hT.1 70 2 rfl rfl
    have cc := hR.1.cell (p := ⟨b4, 0, none⟩) h46 h4
    refine Op1.of_run (v := .slice A4 m4 e4) (W' := W) (by clear hT hJ; go_simp) ⟨Rd.refl _ _ _, hJ, rfl⟩

  case s4 =>
    intro ρ W hR hJ hT
    have q71 : ρ (.tmp 71) = .slice A4 m4 e4 := hT.1 71 3 rfl rfl
    refine Op1.of_run (v := .int .i64 (m4 : Int)) (W' := W) (by clear hT hJ; go_simp) ⟨Rd.refl _ _ _, hJ, rfl⟩

  case s5 =>
    intro ρ W hR hJ hT
    have q11 := hT.2.1 11 _ t11 rfl
    refine Op1.of_run (v := Value.pointer (some ⟨b11, 0, none⟩)) (W' := W) (by clear hT hJ; go_simp) ⟨Rd.refl _ _ _, hJ, rfl⟩

  case s6 =>
    intro ρ W hR hJ hT
    have q73 : ρ (.tmp 73) = Value.pointer (some ⟨b11, 0, none⟩) := hT.1 73 5 rfl rfl
    have cc := hR.1.cell (p := ⟨b11, 0, none⟩) h116 h11
    refine Op1.of_run (v := .slice A l.length c) (W' := W) (by clear hT hJ; go_simp) ⟨Rd.refl _ _ _, hJ, rfl⟩

  case s7 =>
    intro ρ W hR hJ hT
    have q74 : ρ (.tmp 74) = .slice A l.length c := hT.1 74 6 rfl rfl
    refine Op1.of_run (v := .int .i64 (l.length : Int)) (W' := W) (by clear hT hJ; go_simp) ⟨Rd.refl _ _ _, hJ, rfl⟩

  case s8 =>
    intro ρ W hR hJ hT
    have q72 : ρ (.tmp 72) = .int .i64 (m4 : Int) := hT.1 72 4 rfl rfl
    have q75 : ρ (.tmp 75) = .int .i64 (l.length : Int) := hT.1 75 7 rfl rfl
    have hn2 : IntKind.i64.wrap ((m4 : Int) - (l.length : Int)) = n0 := by rw [← hn]; simp [IntKind.wrap_i64, wrap64]
    refine Op1.of_run (v := .int .i64 n0) (W' := W) (by clear hT hJ; go_simp) ⟨Rd.refl _ _ _, hJ, rfl⟩

  case s9 =>
    intro ρ W hR hJ hT
    have q69 : ρ (.tmp 69) = .int .i64 n0 := hT.1 69 1 rfl rfl
    have q76 : ρ (.tmp 76) = .int .i64 n0 := hT.1 76 8 rfl rfl
    refine Op1.of_run (v := .bool true) (W' := W) (by clear hT hJ; go_simp) ⟨Rd.refl _ _ _, hJ, rfl⟩

  case s10 =>
    intro ρ W hR hJ hT
    have q6 := hT.2.1 6 _ t6 rfl
    have q68 : ρ (.tmp 68) = Value.agg #[.slice A l.length c] := hT.1 68 0 rfl rfl
    obtain ⟨A', n', c', hb⟩ := hJ
    have cb := cell_of_one hb
    have fb := free_of_one hb
    obtain ⟨k1, k2, k3⟩ := Rd.put ⟨_, _, _, hb⟩ rfl hlc (C_sl1 hC h6 hR.1)
    refine Op1.of_skip (W' := W.setCell ⟨b6, 0, none⟩ (.slice A l.length c)) (by clear hT; go_simp) ⟨k1, k2, k3⟩

  case s11 =>
    intro ρ W hR hJ hT
    have q77 : ρ (.tmp 77) = .bool true := hT.1 77 9 rfl rfl
    refine Op1.of_run (v := .bool true) (W' := W) (by clear hT hJ; go_simp) ⟨Rd.refl _ _ _, hJ, rfl⟩

  case hdone =>
    intro σ W hR hJ hV
    exact hQ σ W hR.1 (hV 10 (by decide)) (hV 11 (by decide))

abbrev d5_ops : List Oper := [{ dst := some 30, op := .load 80 (.tmp 4), type := 80, pos := "law.go:39", after := #[], guard := none },
  { dst := some 31, op := .move (.tmp 12), type := 4, pos := "law.go:39", after := #[⟨7, .gcOnly .lateStores⟩], guard := none },
  { dst := some 32, op := .load 80 (.tmp 4), type := 80, pos := "law.go:39", after := #[], guard := none },
  { dst := some 33, op := .call { callee := .value (.func 76), args := #[.tmp 32], argTypes := #[80] }, type := 3, pos := "law.go:39", after := #[⟨2, .data⟩], guard := none },
  { dst := some 34, op := .move (.tmp 8), type := 3, pos := "law.go:39", after := #[⟨7, .gcOnly .lateStores⟩], guard := none },
  { dst := some 35, op := .binOp .gtr 3 (.tmp 33) (.tmp 34) 3, type := 4, pos := "law.go:39", after := #[⟨3, .data⟩, ⟨4, .data⟩, ⟨7, .gcOnly .lateStores⟩], guard := none },
  { dst := some 36, op := .binOp .eql 4 (.tmp 31) (.tmp 35) 4, type := 4, pos := "law.go:39", after := #[⟨1, .data⟩, ⟨5, .data⟩, ⟨7, .gcOnly .lateStores⟩], guard := none },
  { dst := none, op := .store 80 (.tmp 6) (.tmp 30), type := 0, pos := "law.go:39", after := #[⟨0, .data⟩, ⟨3, .chain⟩, ⟨0, .phase⟩, ⟨1, .textOnly .lateStores⟩, ⟨2, .textOnly .lateStores⟩, ⟨3, .textOnly .lateStoresUnsure⟩, ⟨4, .textOnly .lateStores⟩, ⟨5, .textOnly .lateStores⟩, ⟨6, .textOnly .lateStores⟩], guard := none },
  { dst := some 7, op := .assign (.tmp 36), type := 4, pos := "law.go:39", after := #[⟨6, .data⟩, ⟨7, .chain⟩, ⟨0, .phase⟩, ⟨1, .phase⟩, ⟨2, .phase⟩, ⟨3, .phase⟩, ⟨4, .phase⟩, ⟨5, .phase⟩, ⟨6, .phase⟩, ⟨7, .phase⟩], guard := none }]
abbrev d5_tab : List (Option Nat) := [none, none, none, none, none, none, none, some 8, none, none, none, none, none, none, none, none, none, none, none, none, none, none, none, none, none, none, none, none, none, none, some 0, some 1, some 2, some 3, some 4, some 5, some 6, none, none, none, none, none, none, none, none, none, none, none, none, none, none, none, none, none, none, none, none, none, none, none, none, none, none, none, none, none, none, none, none, none, none, none, none, none, none, none, none, none]

def d5_val (b4 b6 : Nat) (A : Option Addr) (c : Nat) (l : List S95) (c0 : Int) : Nat → Value → World → Prop := fun j v W => match j with
  | 0 => v = Value.agg #[.slice A l.length c]
  | 1 => v = .bool (decide (c0 < cntF l))
  | 2 => v = Value.agg #[.slice A l.length c]
  | 3 => v = .int .i64 (cntF l)
  | 4 => v = .int .i64 c0
  | 5 => v = .bool (decide (c0 < cntF l))
  | 6 => v = .bool true
  | 7 => Fin1 b6 l W
  | 8 => v = .bool true
  | _ => True

set_option maxRecDepth 100000 in
set_option maxHeartbeats 4000000 in
theorem Do_d5 (b4 b6 : Nat) (A : Option Addr) (c : Nat) (l : List S95) (c0 : Int) (t0 : List Value) (d0 : List Deferred) (w : World) (Q : Exit → Act → World → Prop) (hl : t0.length = d5_tab.length)
    (t4 : t0[4]? = some (.pointer (some ⟨b4, 0, none⟩))) (t6 : t0[6]? = some (.pointer (some ⟨b6, 0, none⟩))) (t12 : t0[12]? = some (.bool (decide (c0 < cntF l)))) (t8 : t0[8]? = some (.int .i64 c0))
    (h4 : w.cell? ⟨b4, 0, none⟩ = some (.slice A l.length c)) (hC : Kd.C k95 w A l.length l) (hlc : l.length ≤ c) (hll : l.length < 8796093022208) (h46 : b4 ≠ b6) (h6 : Sl1 b6 w)
    (hQ : ∀ σ W, Only b6 w W → Fin1 b6 l W → σ 8 = .bool true → Q .normal (lazyA (fun _ => true) σ t0 d5_tab d0) W) :
    (Code.region 5 d5_ops.toArray true).wp Try.prog Q { tmps := t0.toArray, defers := d0 } w := by
  refine wp_region_vals (by kernel_rfl) d5_tab (by kernel_rfl) hl (Rd b6 l) (Sl1 b6) (d5_val b4 b6 A c l c0) ⟨(Only.refl _ w).drew, fun h => h.below (below_drew (Below.refl _ _))⟩ (h6.below (below_drew (Below.refl _ _))) (fun _ _ _ => Rd.trans) ?hst ⟨(fun j b h => by cases h), (fun j b h => by cases h), (fun j b h => by cases h), (fun j b h => by cases h), (fun j b h => by cases h), (fun j b h => by cases h), (fun j b h => by cases h), (fun j b h => by cases h), (fun j b h => by cases h), trivial⟩ ⟨?s0, ?s1, ?s2, ?s3, ?s4, ?s5, ?s6, ?s7, ?s8, trivial⟩ ?hdone

  case hst =>
    intro j v W W' hJ hR h
    match j with
    | 0 => exact h
    | 1 => exact h
    | 2 => exact h
    | 3 => exact h
    | 4 => exact h
    | 5 => exact h
    | 6 => exact h
    | 7 => exact hR.2 h
    | 8 => exact h
    | n + 9 => trivial

  case s0 =>
    intro ρ W hR hJ hT
    have q4 := hT.2.1 4 _ t4 rfl
    have c4 := hR.1.cell (p := ⟨b4, 0, none⟩) h46 h4
    refine Op1.of_run (v := Value.agg #[.slice A l.length c]) (W' := W) (by clear hT hJ; go_simp) ⟨Rd.refl _ _ _, hJ, rfl⟩

  case s1 =>
    intro ρ W hR hJ hT
    have q12 := hT.2.1 12 _ t12 rfl
    refine Op1.of_run (v := .bool (decide (c0 < cntF l))) (W' := W) (by clear hT hJ; go_simp) ⟨Rd.refl _ _ _, hJ, rfl⟩

  case s2 =>
    intro ρ W hR hJ hT
    have q4 := hT.2.1 4 _ t4 rfl
    have c4 := hR.1.cell (p := ⟨b4, 0, none⟩) h46 h4
    refine Op1.of_run (v := Value.agg #[.slice A l.length c]) (W' := W) (by clear hT hJ; go_simp) ⟨Rd.refl _ _ _, hJ, rfl⟩

  case s3 =>
    intro ρ W hR hJ hT
    have q32 : ρ (.tmp 32) = Value.agg #[.slice A l.length c] := hT.1 32 2 rfl rfl
    have qf := hT.2.2.2 76
    refine Op1.of_call (f := 76) (args := #[Value.agg #[.slice A l.length c]]) (W' := W) (by clear hT hJ; go_simp) ?_
    refine (RefCount_calls l _ W ⟨A, c, rfl, hlc, C_sl1 hC h6 hR.1⟩ hll).mono ?_
    rintro e W2 ⟨rfl, hb⟩
    exact ⟨_, rfl, Rd.of_below hb, hJ.below hb, rfl⟩

  case s4 =>
    intro ρ W hR hJ hT
    have q8 := hT.2.1 8 _ t8 rfl
    refine Op1.of_run (v := .int .i64 c0) (W' := W) (by clear hT hJ; go_simp) ⟨Rd.refl _ _ _, hJ, rfl⟩

  case s5 =>
    intro ρ W hR hJ hT
    have q33 : ρ (.tmp 33) = .int .i64 (cntF l) := hT.1 33 3 rfl rfl
    have q34 : ρ (.tmp 34) = .int .i64 c0 := hT.1 34 4 rfl rfl
    refine Op1.of_run (v := .bool (decide (c0 < cntF l))) (W' := W) (by clear hT hJ; go_simp) ⟨Rd.refl _ _ _, hJ, rfl⟩

  case s6 =>
    intro ρ W hR hJ hT
    have q31 : ρ (.tmp 31) = .bool (decide (c0 < cntF l)) := hT.1 31 1 rfl rfl
    have q35 : ρ (.tmp 35) = .bool (decide (c0 < cntF l)) := hT.1 35 5 rfl rfl
    refine Op1.of_run (v := .bool true) (W' := W) (by clear hT hJ; go_simp) ⟨Rd.refl _ _ _, hJ, rfl⟩

  case s7 =>
    intro ρ W hR hJ hT
    have q6 := hT.2.1 6 _ t6 rfl
    have q30 : ρ (.tmp 30) = Value.agg #[.slice A l.length c] := hT.1 30 0 rfl rfl
    obtain ⟨A', n', c', hb⟩ := hJ
    have cb := cell_of_one hb
    have fb := free_of_one hb
    obtain ⟨k1, k2, k3⟩ := Rd.put ⟨_, _, _, hb⟩ rfl hlc (C_sl1 hC h6 hR.1)
    refine Op1.of_skip (W' := W.setCell ⟨b6, 0, none⟩ (.slice A l.length c)) (by clear hT; go_simp) ⟨k1, k2, k3⟩

  case s8 =>
    intro ρ W hR hJ hT
    have q36 : ρ (.tmp 36) = .bool true := hT.1 36 6 rfl rfl
    refine Op1.of_run (v := .bool true) (W' := W) (by clear hT hJ; go_simp) ⟨Rd.refl _ _ _, hJ, rfl⟩

  case hdone =>
    intro σ W hR hJ hV
    exact hQ σ W hR.1 (hV 7 (by decide)) (hV 8 (by decide))

end Go.Proofs.Ytiladcdogbeomaa.QRangesPlays

namespace Go.Proofs.Ytiladcdogbeomaa.QRangesPlays
open Go.RowKit Go.Shelf Go.Proofs.YtiladcdogbeomaaW.PrintWords Go.Proofs.YtiladcdogbeomaaW.PrintLast Go.Proofs.YtiladcdogbeomaaW.PrintMore Go.Proofs.Ytiladcdogbeomaa.RowLaws Go.Proofs.Ytiladcdogbeomaa.Lazy
attribute [local go_sem] Oper.semAt_some
def stepL (k f t : Int) (l : List S95) : List S95 := if k % 4 = 2 then remL f t l else if k % 4 = 3 then l.drop (trimN f l.length) else addL f t l
theorem wf_drop {lo : Int} : ∀ {l : List S95} (n : Nat), 0 ≤ lo → wf lo l → wf lo (l.drop n)
  | l, 0, _, h => by simpa using h
  | [], n + 1, _, _ => by simp [wf]
  | x :: r, n + 1, h0, ⟨h1, h2, h3, h4⟩ => by
    rw [List.drop_succ_cons]
    exact wf_mono (by omega) (wf_drop n (by omega) h4)
theorem wf_step {k f t : Int} {l : List S95} (h : wf 0 l) : wf 0 (stepL k f t l) := by
  unfold stepL
  split
  · unfold remL
    split
    · rename_i _ hm; unfold may at hm; simp only [Bool.and_eq_true, decide_eq_true_eq] at hm; exact wf_rem hm.1.2 h
    · exact h
  · split
    · exact wf_drop _ (by omega) h
    · unfold addL
      split
      · rename_i _ _ hm; unfold may at hm; simp only [Bool.and_eq_true, decide_eq_true_eq] at hm; exact wf_ins hm.1.1 hm.1.2 hm.2 h
      · exact h
theorem Row.sl1 {W W' : World} {b : Nat} {sv : Value} {l : List S95} (h : Row W sv l) (hJ : Sl1 b W) (ho : Only b W W') : Row W' sv l := by
  rcases h with h | ⟨b', c, rfl, h2, h3, h4⟩
  · exact .inl h
  · exact .inr ⟨b', c, rfl, C_sl1 h2 hJ ho, h3, Nat.lt_of_lt_of_le h4 ho.size⟩
theorem SetAt.sl1 {W W' : World} {b g : Nat} {l : List S95} (h : SetAt W g l) (hJ : Sl1 b W) (ho : Only b W W') (hne : g ≠ b) : SetAt W' g l := by
  have hl := h.lt
  obtain ⟨sv, h1, h2⟩ := h
  exact ⟨sv, (ho.block g hl (by intro e; injection e; exact hne ‹_›)).trans h1, h2.sl1 hJ ho⟩
theorem RS.sl1 {W W' : World} {b : Nat} {v : Value} {l : List S95} (h : RS W v l) (hJ : Sl1 b W) (ho : Only b W W') : RS W' v l := by
  obtain ⟨A, c, h1, h2, h3⟩ := h
  exact ⟨A, c, h1, h2, C_sl1 h3 hJ ho⟩
/-- What 'do' hands back. -/
theorem do_res (w : World) (b6 : Nat) (l : List S95) (hF : Fin1 b6 l w) :
    ∃ u, RS w u l ∧ ∀ tmps : Array Value, tmps.getD 6 undef = .pointer (some ⟨b6, 0, none⟩) → tmps.getD 7 undef = .bool true → (results Try.f41 tmps).run Try.prog w = .ok (.tuple #[u, .bool true]) w := by
  obtain ⟨A, c, h1, h2, h3⟩ := hF
  refine ⟨.agg #[.slice A l.length c], ⟨A, c, rfl, h2, h3⟩, ?_⟩
  intro tmps h6 h7
  rw [results_cell_tmp rfl, h6, h7]
  simp [asAddr, run_loadVar_row w b6 80 80 #[.slice A l.length c] (0, 0) _ h1 Try.underlying80 rfl (by kernel_rfl), Result.andThen]
/-- The worlds of a call of 'do': its three boxes from X on, the set at g. -/
structure DoW (X g : Nat) (s4 : Value) (k f t : Int) (l : List S95) (w W : World) : Prop where
  h4 : W.heap[X]? = some (.cells #[s4] 80 (0, 0))
  h5 : W.heap[X + 1]? = some (.cells #[.int .u8 k, .int .i64 f, .int .i64 t] 84 (0, 0))
  h6 : W.heap[X + 1 + 1]? = some (.cells #[.slice none 0 0] 80 (0, 0))
  hS : SetAt W g l
  ho : Only g w W
  hg : g < X
  hX : w.heap.size = X
section
variable {X g : Nat} {s4 : Value} {k f t : Int} {l : List S95} {w W W' : World}
theorem DoW.below (h : DoW X g s4 k f t l w W) (hb : Below W.heap.size W W') : DoW X g s4 k f t l w W' :=
  ⟨(hb.block _ (lt_of_block h.h4)).trans h.h4, (hb.block _ (lt_of_block h.h5)).trans h.h5, (hb.block _ (lt_of_block h.h6)).trans h.h6, h.hS.below hb, h.ho.step hb, h.hg, h.hX⟩
theorem DoW.new {l' : List S95} (h : DoW X g s4 k f t l w W) (hn : SetNew W W' g l') : DoW X g s4 k f t l' w W' := by
  have hg := h.hg
  obtain ⟨h1, h2, _⟩ := hn
  exact ⟨(h2.block _ (lt_of_block h.h4) (by intro e; injection e; omega)).trans h.h4, (h2.block _ (lt_of_block h.h5) (by intro e; injection e; omega)).trans h.h5, (h2.block _ (lt_of_block h.h6) (by intro e; injection e; omega)).trans h.h6, h1, h.ho.trans h2, h.hg, h.hX⟩
theorem only_far {g : Nat} {a w : World} (h : Only g a w) {p : Addr} (hp : a.heap.size ≤ p.block) (u : Value) : Only g a (w.setCell p u) :=
  ⟨h.os, h.tape, h.output, Nat.le_trans h.size (by simp [World.setCell]), fun k hk hn => (Below.heap_setCell _ _ _ _ (by omega)).trans (h.block k hk hn)⟩
theorem DoW.put {A : Option Addr} {n c : Nat} (h : DoW X g (.slice A n c) k f t l w W) {A' : Option Addr} {n' c' : Nat} : DoW X g (.slice A' n' c') k f t l w (W.setCell ⟨X, 0, none⟩ (.slice A' n' c')) := by
  have hg := h.hg
  have hX := h.hX
  exact ⟨Boxed.set (t := 80) _ h.h4, (Below.heap_setCell _ _ _ _ (by show X + 1 ≠ X; omega)).trans h.h5, (Below.heap_setCell _ _ _ _ (by show X + 1 + 1 ≠ X; omega)).trans h.h6, h.hS.sl1 ⟨_, _, _, h.h4⟩ ((Only.refl _ _).setCell rfl _) (by omega), only_far h.ho (by show w.heap.size ≤ X; omega) _, h.hg, h.hX⟩
theorem DoW.c4 (h : DoW X g s4 k f t l w W) : W.cell? ⟨X, 0, none⟩ = some s4 := cell_of_one h.h4
theorem DoW.c5 (h : DoW X g s4 k f t l w W) : W.cell? ⟨X + 1, 0, none⟩ = some (.int .u8 k) ∧ W.cell? ⟨X + 1, 1, none⟩ = some (.int .i64 f) ∧ W.cell? ⟨X + 1, 2, none⟩ = some (.int .i64 t) := by
  have h5 := h.h5
  refine ⟨?_, ?_, ?_⟩ <;> (unfold World.cell?; rw [h5]; rfl)
/-- The last region has stored: what the call leaves. -/
theorem DoW.fin (h : DoW X g s4 k f t l w W) (ho : Only (X + 1 + 1) W W') : SetAt W' g l ∧ Only g w W' := by
  have hg := h.hg
  have hX := h.hX
  refine ⟨h.hS.sl1 ⟨_, _, _, h.h6⟩ ho (by omega), ?_⟩
  have := h.ho
  exact ⟨ho.os.trans this.os, ho.tape.trans this.tape, ho.output.trans this.output, Nat.le_trans this.size ho.size, fun j hj hn => (ho.block j (Nat.lt_of_lt_of_le hj this.size) (by intro e; injection e; omega)).trans (this.block j hj hn)⟩
end
theorem do_start {w W2 : World} {g : Nat} {k f t : Int} {l : List S95} {s4 : Value} (hs : SetAt w g l)
    (hb : Below (((w.alloc (.cells #[s4] 80)).alloc (.cells #[.int .u8 k, .int .i64 f, .int .i64 t] 84)).alloc (.cells #[.slice none 0 0] 80)).heap.size (((w.alloc (.cells #[s4] 80)).alloc (.cells #[.int .u8 k, .int .i64 f, .int .i64 t] 84)).alloc (.cells #[.slice none 0 0] 80)) W2) : DoW w.heap.size g s4 k f t l w W2 := by
  refine DoW.below (W := ((w.alloc (.cells #[s4] 80)).alloc (.cells #[.int .u8 k, .int .i64 f, .int .i64 t] 84)).alloc (.cells #[.slice none 0 0] 80)) ?_ hb
  have b1 : Below w.heap.size w (((w.alloc (.cells #[s4] 80)).alloc (.cells #[.int .u8 k, .int .i64 f, .int .i64 t] 84)).alloc (.cells #[.slice none 0 0] 80)) := below_alloc (below_alloc (below_alloc (Below.refl _ _) _) _) _
  refine ⟨?_, ?_, ?_, hs.below b1, Only.of_below b1, hs.lt, rfl⟩
  · exact blk_alloc (blk_alloc (heap_alloc_new w _) _) _
  · exact blk_alloc (new_two w _ _) _
  · have := heap_alloc_new ((w.alloc (.cells #[s4] 80)).alloc (.cells #[.int .u8 k, .int .i64 f, .int .i64 t] 84)) (.cells #[.slice none 0 0] 80)
    rwa [World.size_alloc, World.size_alloc] at this
set_option maxRecDepth 100000 in
set_option maxHeartbeats 4000000 in
theorem Do_rem (g : Nat) (k f t : Int) (l : List S95) (v : Value) (w : World) (hs : SetAt w g l) (hR : RS w v l) (hw : wf 0 l) (hk : k % 4 = 2) (hk0 : 0 ≤ k) (hk1 : k < 256) :
    Calls Try.prog 41 #[.pointer (some ⟨g, 0, none⟩), v, .agg #[.int .u8 k, .int .i64 f, .int .i64 t]] w fun e w' => ∃ u, e = .returned (.tuple #[u, .bool true]) ∧ SetAt w' g (remL f t l) ∧ RS w' u (remL f t l) ∧ Only g w w' := by
  have hl : l.length ≤ 549755813890 := by have := wf_len hw (by omega); omega
  have hgl := hs.lt
  have hk2 : IntKind.u8.wrap (Int.tmod k 4) = 2 := by
    rw [Int.tmod_eq_emod_of_nonneg hk0, hk]; rfl
  obtain ⟨A, c, rfl, hlc, hC⟩ := hR
  have hS0 := Aside0.mk hs
  have HC := Aside0.mk hC
  have HLC := Aside0.mk hlc
  have HL := Aside0.mk hl
  clear hs hC hlc hl
  go_enter Try.func41, Try.ntmps41
  go_wp2_with (first
    | (go_at_call 76; refine (RefCount_calls l _ _ ⟨A, c, rfl, HLC.out, Kd.C_below HC.out (below_alloc (below_alloc (below_alloc (Below.refl _ _) _) _) _)⟩ (by have := HL.out; omega)).mono ?_; rintro e w2 ⟨rfl, hb⟩; have HD := Aside0.mk (do_start hS0.out hb); have HC2 := Aside0.mk (Kd.C_below HC.out ((below_alloc (below_alloc (below_alloc (Below.refl w.heap.size w) _) _) _).trans (hb.mono (by simp; omega)))); have c4 := HD.out.c4; have c50 := HD.out.c5.1; have c51 := HD.out.c5.2.1; have c52 := HD.out.c5.2.2; clear hb)
    | (go_at_call 48; refine (Rem_calls g f t l _ HD.out.hS hw).mono ?_; rintro e w3 ⟨rfl, hn⟩; have HD3 := Aside0.mk (HD.out.new hn); have HC3 := Aside0.mk (HD.out.hS.rows hn.2.1 HC2.out); have d4 := HD3.out.c4; have d50 := HD3.out.c5.1; have d51 := HD3.out.c5.2.1; have d52 := HD3.out.c5.2.2; clear hn)
    | (go_at_call 77; refine (RefRem_calls l f t _ _ ⟨A, c, rfl, HLC.out, HC3.out⟩ hw).mono ?_; rintro e w4 ⟨u, rfl, ⟨A', c', rfl, hlc', hC'⟩, hb⟩; have HD4 := Aside0.mk (HD3.out.below hb); have HC4 := Aside0.mk hC'; have HLC4 := Aside0.mk hlc'; have e4 := HD4.out.c4; have z4 := free_of_one HD4.out.h4; have e50 := HD4.out.c5.1; have e51 := HD4.out.c5.2.1; have e52 := HD4.out.c5.2.2; clear hb hC' hlc'))
  have HD5 := Aside0.mk (HD4.out.put (A' := A') (n' := (remL f t l).length) (c' := c'))
  have HC5 := C_sl1 HC4.out ⟨_, _, _, HD4.out.h4⟩ ((Only.refl _ w4).setCell (p := ⟨w.heap.size, 0, none⟩) rfl (.slice A' (remL f t l).length c'))
  have hl2 : (remL f t l).length ≤ 549755813890 := by have := wf_len (show wf 0 (remL f t l) by have := wf_step (k := k) (f := f) (t := t) hw; unfold stepL at this; rwa [if_pos hk] at this) (by omega); omega
  refine Do_d9 w.heap.size (w.heap.size + 1 + 1) A' c' (remL f t l) (wrap64 (cntF l - cntF (remL f t l))) (cntF l) _ _ _ _ (by rfl) (by rfl) (by rfl) (by rfl) (by rfl) rfl HD5.out.c4 HC5 HLC4.out (by omega) (by omega) ⟨_, _, _, HD5.out.h6⟩ ?_
  intro σ W6 ho hF hσ
  have hfin := HD5.out.fin ho
  simp only [lazyA, lazyT, d9_tab, List.zipWith_cons_cons, List.zipWith_nil_left, cond_true]
  rename_i K0 hK0
  refine hK0 _ _ ?_
  go_wp2
  obtain ⟨u, hru, hres⟩ := do_res W6 _ _ hF
  (try simp only [Exit.inBlock, Exit.then])
  refine bodyPost_ret (v := .tuple #[u, .bool true]) (hres _ rfl hσ) rfl ⟨u, rfl, hfin.1, hru, hfin.2⟩
set_option maxRecDepth 100000 in
set_option maxHeartbeats 4000000 in
theorem Do_trim (g : Nat) (k f t : Int) (l : List S95) (v : Value) (w : World) (hs : SetAt w g l) (hR : RS w v l) (hw : wf 0 l) (hf : f ≤ 9223372036854775807) (hk : k % 4 = 3) (hk0 : 0 ≤ k) (hk1 : k < 256) :
    Calls Try.prog 41 #[.pointer (some ⟨g, 0, none⟩), v, .agg #[.int .u8 k, .int .i64 f, .int .i64 t]] w fun e w' => ∃ u, e = .returned (.tuple #[u, .bool true]) ∧ SetAt w' g (l.drop (trimN f l.length)) ∧ RS w' u (l.drop (trimN f l.length)) ∧ Only g w w' := by
  have hl : l.length ≤ 549755813890 := by have := wf_len hw (by omega); omega
  have hgl := hs.lt
  have hk2 : IntKind.u8.wrap (Int.tmod k 4) = 3 := by
    rw [Int.tmod_eq_emod_of_nonneg hk0, hk]; rfl
  obtain ⟨A, c, rfl, hlc, hC⟩ := hR
  have hS0 := Aside0.mk hs
  have HC := Aside0.mk hC
  have HLC := Aside0.mk hlc
  have HL := Aside0.mk hl
  clear hs hC hlc hl
  go_enter Try.func41, Try.ntmps41
  go_wp2_with (first
    | (go_at_call 76; refine (RefCount_calls l _ _ ⟨A, c, rfl, HLC.out, Kd.C_below HC.out (below_alloc (below_alloc (below_alloc (Below.refl _ _) _) _) _)⟩ (by have := HL.out; omega)).mono ?_; rintro e w2 ⟨rfl, hb⟩; have HD := Aside0.mk (do_start hS0.out hb); have HC2 := Aside0.mk (Kd.C_below HC.out ((below_alloc (below_alloc (below_alloc (Below.refl w.heap.size w) _) _) _).trans (hb.mono (by simp; omega)))); have c4 := HD.out.c4; have c50 := HD.out.c5.1; have c51 := HD.out.c5.2.1; have c52 := HD.out.c5.2.2; clear hb)
    | (go_at_call 51; refine (Trim_calls g f l _ HD.out.hS (by have := HL.out; omega) hf).mono ?_; rintro e w3 ⟨rfl, hn⟩; have HD3 := Aside0.mk (HD.out.new hn); have HC3 := Aside0.mk (HD.out.hS.rows hn.2.1 HC2.out); have d4 := HD3.out.c4; have d50 := HD3.out.c5.1; have d51 := HD3.out.c5.2.1; have d52 := HD3.out.c5.2.2; clear hn)
    | (go_at_call 78; refine (RefTrim_calls l f _ _ ⟨A, c, rfl, HLC.out, HC3.out⟩ (by have := HL.out; omega) hf).mono ?_; rintro e w4 ⟨u, rfl, ⟨A', c', rfl, hlc', hC'⟩, hb⟩; have HD4 := Aside0.mk (HD3.out.below hb); have HC4 := Aside0.mk hC'; have HLC4 := Aside0.mk hlc'; have e4 := HD4.out.c4; have e50 := HD4.out.c5.1; have e51 := HD4.out.c5.2.1; have e52 := HD4.out.c5.2.2; clear hb hC' hlc'))
  have HB5 := below_alloc (Below.refl w4.heap.size w4) (.cells #[.slice A' (l.drop (trimN f l.length)).length c'] 80)
  have HD5 := Aside0.mk (HD4.out.below HB5)
  have HC5 := Kd.C_below HC4.out HB5
  have hX4 : w.heap.size + 1 + 1 < w4.heap.size := lt_of_block HD4.out.h6
  have hn5 : wrap64 ((l.length : Int) - ((l.drop (trimN f l.length)).length : Int)) = ((trimN f l.length : Nat) : Int) := by
    have := HL.out
    have h2 : trimN f l.length ≤ l.length := by unfold trimN; omega
    rw [List.length_drop, w64i (by omega)]; omega
  have hld : l.length - trimN f l.length = (l.drop (trimN f l.length)).length := by rw [List.length_drop]
  rw [hld]
  refine Do_d13 w.heap.size (w.heap.size + 1 + 1) w4.heap.size A l.length c A' c' (l.drop (trimN f l.length)) (trimN f l.length : Nat) _ _ _ _ (by rfl) (by rfl) (by rfl) (by rfl) (by rfl) hn5 HD5.out.c4 (Iter.cell_new_l _ _ _).1 HC5 HLC4.out (by omega) (by omega) ⟨_, _, _, HD5.out.h6⟩ ?_
  intro σ W6 ho hF hσ
  have hfin := HD5.out.fin ho
  simp only [lazyA, lazyT, d13_tab, List.zipWith_cons_cons, List.zipWith_nil_left, cond_true]
  rename_i K0 hK0
  refine hK0 _ _ ?_
  go_wp2
  obtain ⟨u, hru, hres⟩ := do_res W6 _ _ hF
  (try simp only [Exit.inBlock, Exit.then])
  refine bodyPost_ret (v := .tuple #[u, .bool true]) (hres _ rfl hσ) rfl ⟨u, rfl, hfin.1, hru, hfin.2⟩
set_option maxRecDepth 100000 in
set_option maxHeartbeats 4000000 in
theorem Do_add (g : Nat) (k f t : Int) (l : List S95) (v : Value) (w : World) (hs : SetAt w g l) (hR : RS w v l) (hw : wf 0 l) (κ : Int) (hκ : κ = 0 ∨ κ = 1) (hk : k % 4 = κ) (hk0 : 0 ≤ k) (hk1 : k < 256) :
    Calls Try.prog 41 #[.pointer (some ⟨g, 0, none⟩), v, .agg #[.int .u8 k, .int .i64 f, .int .i64 t]] w fun e w' => ∃ u, e = .returned (.tuple #[u, .bool true]) ∧ SetAt w' g (addL f t l) ∧ RS w' u (addL f t l) ∧ Only g w w' := by
  have hl : l.length ≤ 549755813890 := by have := wf_len hw (by omega); omega
  have hgl := hs.lt
  have hk2 : IntKind.u8.wrap (Int.tmod k 4) = κ := by
    rw [Int.tmod_eq_emod_of_nonneg hk0, hk]; rcases hκ with rfl | rfl <;> rfl
  have hκ2 : κ ≠ 2 := by omega
  have hκ3 : κ ≠ 3 := by omega
  obtain ⟨A, c, rfl, hlc, hC⟩ := hR
  have hS0 := Aside0.mk hs
  have HC := Aside0.mk hC
  have HLC := Aside0.mk hlc
  have HL := Aside0.mk hl
  clear hs hC hlc hl
  go_enter Try.func41, Try.ntmps41
  go_wp2_with (first
    | (go_at_call 76; refine (RefCount_calls l _ _ ⟨A, c, rfl, HLC.out, Kd.C_below HC.out (below_alloc (below_alloc (below_alloc (Below.refl _ _) _) _) _)⟩ (by have := HL.out; omega)).mono ?_; rintro e w2 ⟨rfl, hb⟩; have HD := Aside0.mk (do_start hS0.out hb); have HC2 := Aside0.mk (Kd.C_below HC.out ((below_alloc (below_alloc (below_alloc (Below.refl w.heap.size w) _) _) _).trans (hb.mono (by simp; omega)))); have c4 := HD.out.c4; have c50 := HD.out.c5.1; have c51 := HD.out.c5.2.1; have c52 := HD.out.c5.2.2; clear hb)
    | (go_at_call 37; refine (Add_calls g f t l _ HD.out.hS hw).mono ?_; rintro e w3 ⟨rfl, hn⟩; have HD3 := Aside0.mk (HD.out.new hn); have HC3 := Aside0.mk (HD.out.hS.rows hn.2.1 HC2.out); have d4 := HD3.out.c4; have d50 := HD3.out.c5.1; have d51 := HD3.out.c5.2.1; have d52 := HD3.out.c5.2.2; clear hn)
    | (go_at_call 79; refine (RefAdd_calls l f t _ _ ⟨A, c, rfl, HLC.out, HC3.out⟩ hw).mono ?_; rintro e w4 ⟨u, rfl, ⟨A', c', rfl, hlc', hC'⟩, hb⟩; have HD4 := Aside0.mk (HD3.out.below hb); have HC4 := Aside0.mk hC'; have HLC4 := Aside0.mk hlc'; have e4 := HD4.out.c4; have z4 := free_of_one HD4.out.h4; have e50 := HD4.out.c5.1; have e51 := HD4.out.c5.2.1; have e52 := HD4.out.c5.2.2; clear hb hC' hlc'))
  have HD5 := Aside0.mk (HD4.out.put (A' := A') (n' := (addL f t l).length) (c' := c'))
  have HC5 := C_sl1 HC4.out ⟨_, _, _, HD4.out.h4⟩ ((Only.refl _ w4).setCell (p := ⟨w.heap.size, 0, none⟩) rfl (.slice A' (addL f t l).length c'))
  have hl2 : (addL f t l).length ≤ 549755813890 := by have := wf_len (show wf 0 (addL f t l) by have := wf_step (k := k) (f := f) (t := t) hw; unfold stepL at this; rwa [if_neg (by omega), if_neg (by omega)] at this) (by omega); omega
  refine Do_d5 w.heap.size (w.heap.size + 1 + 1) A' c' (addL f t l) (cntF l) _ _ _ _ (by rfl) (by rfl) (by rfl) (by rfl) (by rfl) HD5.out.c4 HC5 HLC4.out (by omega) (by omega) ⟨_, _, _, HD5.out.h6⟩ ?_
  intro σ W6 ho hF hσ
  have hfin := HD5.out.fin ho
  simp only [lazyA, lazyT, d5_tab, List.zipWith_cons_cons, List.zipWith_nil_left, cond_true]
  rename_i K0 hK0
  refine hK0 _ _ ?_
  go_wp2
  obtain ⟨u, hru, hres⟩ := do_res W6 _ _ hF
  (try simp only [Exit.inBlock, Exit.then])
  refine bodyPost_ret (v := .tuple #[u, .bool true]) (hres _ rfl hσ) rfl ⟨u, rfl, hfin.1, hru, hfin.2⟩
theorem Do_calls (g : Nat) (k f t : Int) (l : List S95) (v : Value) (w : World) (hs : SetAt w g l) (hR : RS w v l) (hw : wf 0 l) (hf : f ≤ 9223372036854775807) (hk0 : 0 ≤ k) (hk1 : k < 256) :
    Calls Try.prog 41 #[.pointer (some ⟨g, 0, none⟩), v, .agg #[.int .u8 k, .int .i64 f, .int .i64 t]] w fun e w' => ∃ u, e = .returned (.tuple #[u, .bool true]) ∧ SetAt w' g (stepL k f t l) ∧ RS w' u (stepL k f t l) ∧ Only g w w' := by
  unfold stepL
  by_cases h2 : k % 4 = 2
  · rw [if_pos h2]; exact Do_rem g k f t l v w hs hR hw h2 hk0 hk1
  · rw [if_neg h2]
    by_cases h3 : k % 4 = 3
    · rw [if_pos h3]; exact Do_trim g k f t l v w hs hR hw hf h3 hk0 hk1
    · rw [if_neg h3]; exact Do_add g k f t l v w hs hR hw (k % 4) (by omega) rfl hk0 hk1
end Go.Proofs.Ytiladcdogbeomaa.QRangesPlays
