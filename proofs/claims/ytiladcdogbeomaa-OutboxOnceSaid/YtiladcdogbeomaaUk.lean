/- Law 24 (outbox): contracts of functions that its statements reach, and plain laws behind them (part 11). No condition. -/
import Derived.Test.YtiladcdogbeomaaUj
import Derived.Lib.Builder
namespace Go.Proofs.Ytiladcdogbeomaa.QRangesPlays
open Go.RowKit Go.Shelf Go.Proofs.YtiladcdogbeomaaW.PrintWords Go.Proofs.YtiladcdogbeomaaW.PrintLast Go.Proofs.YtiladcdogbeomaaW.PrintMore Go.Proofs.Ytiladcdogbeomaa.RowLaws Go.Proofs.Ytiladcdogbeomaa.Lazy
attribute [local go_sem] Oper.semAt_some max2_int min2_int max_two min_two
/-- An act: its kind; its chunk; room, limit, old. -/
structure A7 where
  k : Int
  off : Int
  s : ByteArray
  fin : Bool
  room : Int
  limit : Int
  old : Int
def ActAt (W : World) (b o : Nat) (x : A7) : Prop := W.cell? ⟨b, o, none⟩ = some (.int .u8 x.k) ∧ W.cell? ⟨b, o + 1, none⟩ = some (.int .i64 x.off) ∧ W.cell? ⟨b, o + 2, none⟩ = some (.string x.s) ∧ W.cell? ⟨b, o + 3, none⟩ = some (.bool x.fin) ∧
  W.cell? ⟨b, o + 4, none⟩ = some (.int .i64 x.room) ∧ W.cell? ⟨b, o + 5, none⟩ = some (.int .i64 x.limit) ∧ W.cell? ⟨b, o + 6, none⟩ = some (.int .i64 x.old)
def ARow (W : World) (A : Option Addr) (xs : List A7) : Prop := ∀ i (h : i < xs.length), ∃ b o, A = some ⟨b, o, none⟩ ∧ ActAt W b (o + i * 7) xs[i]
theorem ActAt.below {W W' : World} {B b o : Nat} {x : A7} (h : ActAt W b o x) (hb : Below B W W') (hB : W.heap.size ≤ B) : ActAt W' b o x := by
  obtain ⟨h0, h1, h2, h3, h4, h5, h6⟩ := h
  have key : ∀ {p : Addr} {v : Value}, W.cell? p = some v → W'.cell? p = some v := fun hc => (hb.cell (Nat.lt_of_lt_of_le (World.block_lt_of_cell? _ _ hc) hB)).trans hc
  exact ⟨key h0, key h1, key h2, key h3, key h4, key h5, key h6⟩
theorem ARow.below {W W' : World} {A : Option Addr} {xs : List A7} (h : ARow W A xs) (hb : Below W.heap.size W W') : ARow W' A xs := fun i hi => by
  obtain ⟨b, o, hA, hx⟩ := h i hi
  exact ⟨b, o, hA, hx.below hb (Nat.le_refl _)⟩
/-- How many bytes acts have. -/
def sumD : List A7 → Nat
  | [] => 0
  | x :: r => x.s.size + sumD r
theorem sumD_snoc {xs : List A7} {j : Nat} (h : j < xs.length) : sumD (xs.take (j + 1)) = sumD (xs.take j) + xs[j].s.size := by
  rw [List.take_succ_eq_append_getElem h]
  have key : ∀ (a : List A7) (x : A7), sumD (a ++ [x]) = sumD a + x.s.size := by
    intro a x
    induction a with
    | nil => simp [sumD]
    | cons y r ih => simp only [List.cons_append, sumD, ih]; omega
  exact key _ _
def SumI (xs : List A7) (q z : Nat) : Prop := z = sumD (xs.take q) ∧ ∀ j, j ≤ q → sumD (xs.take j) ≤ 2000
theorem sumI_0 (xs : List A7) : SumI xs 0 0 := ⟨by simp [sumD], fun j hj => by rw [Nat.le_zero.1 hj]; simp [sumD]⟩
def OFewP (xs : List A7) (w : World) (e : Ending) (w' : World) : Prop := ∃ b, e = .returned (.bool b) ∧ Below w.heap.size w w' ∧ (b = true → xs.length ≤ 60 ∧ ∀ j, j ≤ xs.length → sumD (xs.take j) ≤ 2000)
set_option maxRecDepth 100000 in
set_option maxHeartbeats 4000000 in
theorem OFew_calls (A : Option Addr) (c : Nat) (xs : List A7) (w : World) (hA : ARow w A xs) :
    Calls Try.prog 18 #[.slice A xs.length c] w fun e w' => OFewP xs w e w' := by
  obtain ⟨n, hn⟩ : ∃ n, xs.length = n := ⟨_, rfl⟩
  have HA := Aside0.mk hA
  have HN := Aside0.mk hn
  rw [hn]
  clear hA hn
  by_cases h1 : 60 < n
  · have e1 : (60 : Int) < (n : Int) := by omega
    go_enter Try.func18, Try.ntmps18
    go_wp2
    go_ret
    exact (show OFewP xs w _ _ from ⟨false, rfl, Below.refl _ _, fun h => by cases h⟩)
  · have e1 : ¬ (60 : Int) < (n : Int) := by omega
    have HNN := Aside0.mk h1
    go_enter Try.func18, Try.ntmps18
    go_wp2
    go_loopw [3, 4] (fun nv i wr => ∃ (q : Nat) (z : Nat), q ≤ n ∧ z ≤ 2000 ∧ i = .int .i64 q ∧ nv = .int .i64 (z : Int) ∧ Aside0 (SumI xs q z) ∧ Aside0 (Below w.heap.size w wr)) (fun _ i _ => n - (intOf i).toNat)
    case atStart => exact ⟨0, 0, Nat.zero_le _, by omega, rfl, rfl, ⟨sumI_0 xs⟩, ⟨Below.refl _ _⟩⟩
    case round =>
      obtain ⟨q, z, hq, hz2, rfl, rfl, HZ, HW⟩ := hrel
      by_cases hlt : q < n
      · have hlt2 : (q : Int) < (n : Int) := by omega
        obtain ⟨b0, o0, rfl, z0, y1, y2, y3, y4, y5, y6⟩ := (HA.out.below HW.out) q (by have := HN.out; omega)
        have HSN := Aside0.mk (sumD_snoc (xs := xs) (j := q) (by have := HN.out; omega))
        generalize (xs[q]'(by have := HN.out; omega)).s = s at *
        obtain ⟨mn, hmn⟩ : ∃ mn, (if (2001 : Int) < (s.size : Int) then 2001 else (s.size : Int)) = mn := ⟨_, rfl⟩
        have hmb : 0 ≤ mn ∧ mn ≤ 2001 ∧ (mn ≤ 2000 → mn = s.size) := by rw [← hmn]; split <;> omega
        have HMB := Aside0.mk hmb
        have e2 : IntKind.i64.wrap ((z : Int) + mn) = (z : Int) + mn := IntWalk.i64_in _ (by omega)
        have e3 : IntKind.i64.wrap ((q : Int) + 1) = (q : Int) + 1 := IntWalk.i64_in _ (by omega)
        clear z0 y1 y3 y4 y5 y6 hmb
        by_cases hbig : 2000 < (z : Int) + mn
        · go_wp2
          go_ret
          exact (show OFewP xs w _ _ from ⟨false, rfl, HW.out, fun h => by cases h⟩)
        · go_wp2
          go_roundw
          case rel =>
            have hmb := HMB.out
            have hms : mn = s.size := hmb.2.2 (by omega)
            have hz1 := HZ.out.1
            have hsn := HSN.out
            refine ⟨q + 1, z + s.size, by omega, by omega, by simp, by rw [hms]; simp, ⟨by rw [hsn, hz1], fun j hj => ?_⟩, HW⟩
            by_cases h : j ≤ q
            · exact HZ.out.2 j h
            · have : j = q + 1 := by omega
              subst this
              rw [hsn, ← hz1]; omega
          case measure => simp [intOf]; omega
      · have hqn : q = n := by omega
        subst hqn
        go_wp2
        go_ret
        exact (show OFewP xs w _ _ from ⟨true, rfl, HW.out, fun _ => ⟨by have := HNN.out; have := HN.out; omega, fun j hj => HZ.out.2 j (by have := HN.out; omega)⟩⟩)
end Go.Proofs.Ytiladcdogbeomaa.QRangesPlays

namespace Go.Proofs.Ytiladcdogbeomaa.QRangesPlays
open Go.RowKit Go.Shelf Go.Proofs.YtiladcdogbeomaaW.PrintWords Go.Proofs.YtiladcdogbeomaaW.PrintLast Go.Proofs.YtiladcdogbeomaaW.PrintMore Go.Proofs.Ytiladcdogbeomaa.RowLaws Go.Proofs.Ytiladcdogbeomaa.Lazy
attribute [local go_sem] Oper.semAt_some max2_int min2_int max_two min_two
abbrev Ch := Int × ByteArray × Bool
def kch : Kd Ch := Kd.pair (Kd.int .i64) (Kd.pair Kd.string Kd.bool)
theorem kch_open {w : World} {x : Ch} {cs : List Value} (h : kch.K w x cs) : cs = [.int .i64 x.1, .string x.2.1, .bool x.2.2] := by
  obtain ⟨c1, c2, e, h1, c3, c4, e2, h2, h3⟩ := h
  have h1' : c1 = [.int .i64 x.1] := h1
  have h2' : c3 = [.string x.2.1] := h2
  have h3' : c4 = [.bool x.2.2] := h3
  rw [e, e2, h1', h2', h3']
  rfl
/-- What went: a row of the call's own. -/
def WR (W : World) (B : Nat) (v : Value) (ws : List Ch) : Prop := Kd.R kch 46 W B (fun _ => True) v ws
theorem WR.at {W : World} {B : Nat} {v : Value} {ws : List Ch} (h : WR W B v ws) {n : Nat} (hn : ws.length = n) : ∃ A c, v = .slice A n c ∧ ∀ j : Nat, j < n → ∃ q x, A = some ⟨q, 0, none⟩ ∧ W.cell? ⟨q, j * 3, none⟩ = some (.int .i64 (x : Ch).1) ∧ W.cell? ⟨q, j * 3 + 1, none⟩ = some (.string x.2.1) ∧ W.cell? ⟨q, j * 3 + 2, none⟩ = some (.bool x.2.2) := by
  by_cases h0 : 0 < ws.length
  · obtain ⟨q, c, e, _⟩ := Kd.R_form h h0
    have hr := (Kd.R_reads h)
    obtain ⟨A', c', e', _, hC⟩ := hr
    rw [e] at e'
    injection e' with ea _ ec
    subst ea
    rw [hn] at e
    subst e
    refine ⟨_, c, rfl, fun j hj => ?_⟩
    obtain ⟨ad, hA, hcc⟩ := hC.2.2 (by omega)
    injection hA with hA
    subst hA
    obtain ⟨cs, c1, c2, c3⟩ := hcc j ws[j] (List.getElem?_eq_getElem (by omega))
    have hz : kch.sz = 3 := rfl
    have hx := kch_open c2
    subst hx
    have ha : ∀ j, Addr.add ⟨q, 0, none⟩ j = ⟨q, j, none⟩ := fun j => by unfold Addr.add; split <;> simp_all
    have e0 := c3 0 _ rfl
    have e1 := c3 1 _ rfl
    have e2 := c3 2 _ rfl
    rw [hz, ha] at e0 e1 e2
    exact ⟨q, ws[j], rfl, e0, e1, e2⟩
  · obtain ⟨A, c, e⟩ := Kd.R_slice h
    rw [hn] at e
    exact ⟨A, c, e, fun j hj => by omega⟩
abbrev acV (x : A7) : Value := .agg #[.int .u8 x.k, .int .i64 x.off, .string x.s, .bool x.fin, .int .i64 x.room, .int .i64 x.limit, .int .i64 x.old]
abbrev acO (x : A7) : Obj := .cells #[.int .u8 x.k, .int .i64 x.off, .string x.s, .bool x.fin, .int .i64 x.room, .int .i64 x.limit, .int .i64 x.old] 48
def ChkP (w : World) (e : Ending) (w' : World) : Prop := ∃ off s fin, e = .returned (rcV off s fin) ∧ Below w.heap.size w w'
set_option maxRecDepth 100000 in
set_option maxHeartbeats 2000000 in
theorem OChunk_calls (B : Nat) (x : A7) (v : Value) (ws : List Ch) (w : World) (h : WR w B v ws) (hl : ws.length ≤ 1000) : Calls Try.prog 26 #[acV x, v] w (ChkP w) := by
  obtain ⟨n, hn⟩ : ∃ n, ws.length = n := ⟨_, rfl⟩
  rw [hn] at hl
  obtain ⟨k, off, s, fin, room, limit, old⟩ := x
  simp only [acV]
  have hb2 := below_alloc (below_alloc (Below.refl w.heap.size w) (acO ⟨k, off, s, fin, room, limit, old⟩)) (rcO 0 ⟨#[]⟩ false)
  have HB2 := Aside0.mk hb2
  obtain ⟨A, c, rfl, hat⟩ := WR.at (Kd.R_below h hb2) hn
  have HAT := Aside0.mk hat
  clear hb2 hat h hn
  by_cases h1 : 1 ≤ old
  · by_cases h2 : old ≤ (n : Int)
    · obtain ⟨j, hj⟩ : ∃ j : Nat, (n : Int) - old = (j : Int) := ⟨((n : Int) - old).toNat, by omega⟩
      have e1 : IntKind.i64.wrap ((n : Int) - old) = (j : Int) := by rw [IntWalk.i64_in _ (by omega), hj]
      have hjn : (j : Int) < (n : Int) := by omega
      obtain ⟨q, y, rfl, y0, y1, y2⟩ := HAT.out j (by omega)
      clear hj
      go_enter Try.func26, Try.ntmps26
      go_wp2
      (try simp only [Exit.inBlock, Exit.then])
      refine bodyPost_ret (v := rcV (y.1) (y.2.1) (y.2.2)) (results_cell_row rfl _ _ (w.heap.size + 1) 46 #[.int .i64 (y.1), .string (y.2.1), .bool (y.2.2)] (0, 0) _ rfl (new_two w _ _) Try.underlying46 rfl (by kernel_rfl)) rfl ?_
      exact (show ChkP w _ _ from ⟨_, _, _, rfl, below_alloc (below_alloc (Below.refl w.heap.size w) _) _⟩)
    · go_enter Try.func26, Try.ntmps26
      go_wp2
      (try simp only [Exit.inBlock, Exit.then])
      refine bodyPost_ret (v := rcV (off) (s) (fin)) (results_cell_row rfl _ _ (w.heap.size + 1) 46 #[.int .i64 (off), .string (s), .bool (fin)] (0, 0) _ rfl (new_two w _ _) Try.underlying46 rfl (by kernel_rfl)) rfl ?_
      exact (show ChkP w _ _ from ⟨_, _, _, rfl, below_alloc (below_alloc (Below.refl w.heap.size w) _) _⟩)
  · go_enter Try.func26, Try.ntmps26
    go_wp2
    (try simp only [Exit.inBlock, Exit.then])
    refine bodyPost_ret (v := rcV (off) (s) (fin)) (results_cell_row rfl _ _ (w.heap.size + 1) 46 #[.int .i64 (off), .string (s), .bool (fin)] (0, 0) _ rfl (new_two w _ _) Try.underlying46 rfl (by kernel_rfl)) rfl ?_
    exact (show ChkP w _ _ from ⟨_, _, _, rfl, below_alloc (below_alloc (Below.refl w.heap.size w) _) _⟩)
end Go.Proofs.Ytiladcdogbeomaa.QRangesPlays

namespace Go.Proofs.Ytiladcdogbeomaa.QRangesPlays
open Go.RowKit Go.Shelf Go.Proofs.YtiladcdogbeomaaW.PrintWords Go.Proofs.YtiladcdogbeomaaW.PrintLast Go.Proofs.YtiladcdogbeomaaW.PrintMore Go.Proofs.Ytiladcdogbeomaa.RowLaws Go.Proofs.Ytiladcdogbeomaa.Lazy
attribute [local go_sem] Oper.semAt_some max2_int min2_int max_two min_two
abbrev wdO (g : Nat) (t : ByteArray) (m : Value) (x y : Bool) (z : Int) (v : Value) : Obj := .cells #[.pointer (some ⟨g, 0, none⟩), .string t, m, .bool x, .bool y, .int .u8 z, v] 43
abbrev wdV (g : Nat) (t : ByteArray) (m : Value) (x y : Bool) (z : Int) (v : Value) : Value := .agg #[.pointer (some ⟨g, 0, none⟩), .string t, m, .bool x, .bool y, .int .u8 z, v]
abbrev wd0 : Obj := .cells #[.pointer none, .string ⟨#[]⟩, .slice none 0 0, .bool false, .bool false, .int .u8 0, .slice none 0 0] 43
theorem wd_cell {W : World} {X : Nat} {a b c d e f h : Value} {t : TypeId} (hh : W.heap[X]? = some (.cells #[a, b, c, d, e, f, h] t (0, 0))) : W.cell? ⟨X, 0, none⟩ = some a ∧ W.cell? ⟨X, 1, none⟩ = some b ∧ W.cell? ⟨X, 2, none⟩ = some c ∧ W.cell? ⟨X, 3, none⟩ = some d ∧ W.cell? ⟨X, 4, none⟩ = some e ∧ W.cell? ⟨X, 5, none⟩ = some f ∧ W.cell? ⟨X, 6, none⟩ = some h := by
  refine ⟨?_, ?_, ?_, ?_, ?_, ?_, ?_⟩ <;> (unfold World.cell?; rw [hh]; rfl)
theorem OSP.far0 {g gc ga : Nat} {w : World} {t : ByteArray} {S : Int} {C A : List S95} {f1 f2 f3 f4 : Bool} {W W' : World} {T : Nat → Prop} (h : OSP g gc ga w t S C A f1 f2 f3 f4 W) (hk : Kept W W' T) (hS : ∀ q, T q → ∀ i, W.cell? ⟨q, 0, none⟩ ≠ some (.int .i64 i)) (h1 : ¬ T g) (h2 : ¬ T gc) (h3 : ¬ T ga) (hb : Below w.heap.size w W') : OSP g gc ga w t S C A f1 f2 f3 f4 W' :=
  ⟨⟨(hk.2 g (lt_of_block h.bx.blk) h1).trans h.bx.blk, h.bx.sc.far hk hS h2, h.bx.sa.far hk hS h3⟩, h.bp, hb, h.l1, h.l2, h.l3, h.n1, h.n2, h.n3⟩
/-- A block's cells are written: what other blocks hold stays. -/
theorem OSP.puts {g gc ga k : Nat} {w : World} {t : ByteArray} {S : Int} {C A : List S95} {f1 f2 f3 f4 : Bool} {W W' : World} {cs : Array Value} {ty : TypeId} (h : OSP g gc ga w t S C A f1 f2 f3 f4 W) (hk : W.heap[k]? = some (.cells cs ty (0, 0))) (h0 : ∀ i, cs[0]? ≠ some (.int .i64 i)) (h1 : k ≠ g ∧ k ≠ gc ∧ k ≠ ga) (hw : w.heap.size ≤ k) (ho : On (fun i => i = k) W W') : OSP g gc ga w t S C A f1 f2 f3 f4 W' :=
  h.far0 ho.kept (by rintro q rfl i e; rw [Lib.cell_of_heap hk] at e; exact h0 i e) (fun e => h1.1 e.symm) (fun e => h1.2.1 e.symm) (fun e => h1.2.2 e.symm) (h.hb.trans (ho.low (fun _ hi => by subst hi; exact hw) h.hb.size))
theorem row_puts {α : Type} {d : Kd α} {e B k : Nat} {v : Value} {xs : List α} {W W' : World} {cs : Array Value} {ty : Nat} (h : d.R e W B (fun _ => True) v xs) (hk : W.heap[k]? = some (.cells cs ty (0, 0))) (he : ∀ q, q ∈ e :: d.E → q ≠ ty) (ho : On (fun i => i = k) W W') : d.R e W' B (fun _ => True) v xs :=
  Kd.R_mono (Kd.R_kept (Kd.R_types h hk he) ho.kept (fun i hi e => hi.2 e)) (fun _ _ => trivial)
/-- Rows stay where a box turns. -/
theorem row_on {α : Type} {d : Kd α} {e B : Nat} {v : Value} {xs : List α} {g gc ga : Nat} {w : World} {t : ByteArray} {S : Int} {C A : List S95} {f1 f2 f3 f4 : Bool} {W W' : World} (h : d.R e W B (fun _ => True) v xs) (o : OSP g gc ga w t S C A f1 f2 f3 f4 W) (h1 : ∀ q, q ∈ e :: d.E → q ≠ 114) (h2 : ∀ q, q ∈ e :: d.E → q ≠ 121) (ho : On (O3 g gc ga) W W') : d.R e W' B (fun _ => True) v xs := by
  obtain ⟨sv, s1, _⟩ := o.bx.sc
  obtain ⟨tv, t1, _⟩ := o.bx.sa
  have r1 := Kd.R_types h o.bx.blk h1
  have r2 := Kd.R_types r1 s1 h2
  have r3 := Kd.R_types r2 t1 h2
  have r4 := Kd.R_kept r3 ho.kept (fun i hi e => by rcases e with e | e | e; exact hi.1.1.2 e; exact hi.1.2 e; exact hi.2 e)
  exact Kd.R_mono r4 (fun _ _ => trivial)
theorem put7 {W : World} {X : Nat} {t : TypeId} {a b c d e f h : Value} (hh : W.heap[X]? = some (.cells #[a, b, c, d, e, f, h] t (0, 0))) (u0 u1 u2 u3 u4 u5 u6 : Value) : (((((((W.setCell ⟨X, 0, none⟩ u0).setCell ⟨X, 1, none⟩ u1).setCell ⟨X, 2, none⟩ u2).setCell ⟨X, 3, none⟩ u3).setCell ⟨X, 4, none⟩ u4).setCell ⟨X, 5, none⟩ u5).setCell ⟨X, 6, none⟩ u6).heap[X]? = some (.cells #[u0, u1, u2, u3, u4, u5, u6] t (0, 0)) := by
  have h0 : (W.setCell ⟨X, 0, none⟩ u0).heap[X]? = some (.cells #[u0, b, c, d, e, f, h] t (0, 0)) := cells_set (i := 0) u0 hh
  have h1 : ((W.setCell ⟨X, 0, none⟩ u0).setCell ⟨X, 1, none⟩ u1).heap[X]? = some (.cells #[u0, u1, c, d, e, f, h] t (0, 0)) := cells_set (i := 1) u1 h0
  have h2 : (((W.setCell ⟨X, 0, none⟩ u0).setCell ⟨X, 1, none⟩ u1).setCell ⟨X, 2, none⟩ u2).heap[X]? = some (.cells #[u0, u1, u2, d, e, f, h] t (0, 0)) := cells_set (i := 2) u2 h1
  have h3 : ((((W.setCell ⟨X, 0, none⟩ u0).setCell ⟨X, 1, none⟩ u1).setCell ⟨X, 2, none⟩ u2).setCell ⟨X, 3, none⟩ u3).heap[X]? = some (.cells #[u0, u1, u2, u3, e, f, h] t (0, 0)) := cells_set (i := 3) u3 h2
  have h4 : (((((W.setCell ⟨X, 0, none⟩ u0).setCell ⟨X, 1, none⟩ u1).setCell ⟨X, 2, none⟩ u2).setCell ⟨X, 3, none⟩ u3).setCell ⟨X, 4, none⟩ u4).heap[X]? = some (.cells #[u0, u1, u2, u3, u4, f, h] t (0, 0)) := cells_set (i := 4) u4 h3
  have h5 : ((((((W.setCell ⟨X, 0, none⟩ u0).setCell ⟨X, 1, none⟩ u1).setCell ⟨X, 2, none⟩ u2).setCell ⟨X, 3, none⟩ u3).setCell ⟨X, 4, none⟩ u4).setCell ⟨X, 5, none⟩ u5).heap[X]? = some (.cells #[u0, u1, u2, u3, u4, u5, h] t (0, 0)) := cells_set (i := 5) u5 h4
  have h6 : (((((((W.setCell ⟨X, 0, none⟩ u0).setCell ⟨X, 1, none⟩ u1).setCell ⟨X, 2, none⟩ u2).setCell ⟨X, 3, none⟩ u3).setCell ⟨X, 4, none⟩ u4).setCell ⟨X, 5, none⟩ u5).setCell ⟨X, 6, none⟩ u6).heap[X]? = some (.cells #[u0, u1, u2, u3, u4, u5, u6] t (0, 0)) := cells_set (i := 6) u6 h5
  exact h6
theorem on_put7 (W : World) (X : Nat) (u0 u1 u2 u3 u4 u5 u6 : Value) : On (fun i => i = X) W (((((((W.setCell ⟨X, 0, none⟩ u0).setCell ⟨X, 1, none⟩ u1).setCell ⟨X, 2, none⟩ u2).setCell ⟨X, 3, none⟩ u3).setCell ⟨X, 4, none⟩ u4).setCell ⟨X, 5, none⟩ u5).setCell ⟨X, 6, none⟩ u6) :=
  ((((((On.setCell (S := fun i => i = X) X 0 u0 rfl W).trans (On.setCell (S := fun i => i = X) X 1 u1 rfl _)).trans (On.setCell (S := fun i => i = X) X 2 u2 rfl _)).trans (On.setCell (S := fun i => i = X) X 3 u3 rfl _)).trans (On.setCell (S := fun i => i = X) X 4 u4 rfl _)).trans (On.setCell (S := fun i => i = X) X 5 u5 rfl _)).trans (On.setCell (S := fun i => i = X) X 6 u6 rfl _)
/-- The reference's box in the world's block is written. -/
theorem putR {W : World} {X : Nat} {t : TypeId} {a b c d e f h : Value} (hh : W.heap[X]? = some (.cells #[a, b, c, d, e, f, h] t (0, 0))) (u1 u2 u3 u4 u5 : Value) : (((((W.setCell ⟨X, 1, none⟩ u1).setCell ⟨X, 2, none⟩ u2).setCell ⟨X, 3, none⟩ u3).setCell ⟨X, 4, none⟩ u4).setCell ⟨X, 5, none⟩ u5).heap[X]? = some (.cells #[a, u1, u2, u3, u4, u5, h] t (0, 0)) :=
  cells_set (i := 5) u5 (cells_set (i := 4) u4 (cells_set (i := 3) u3 (cells_set (i := 2) u2 (cells_set (i := 1) u1 hh))))
theorem on_putR (W : World) (X : Nat) (u1 u2 u3 u4 u5 : Value) : On (fun i => i = X) W (((((W.setCell ⟨X, 1, none⟩ u1).setCell ⟨X, 2, none⟩ u2).setCell ⟨X, 3, none⟩ u3).setCell ⟨X, 4, none⟩ u4).setCell ⟨X, 5, none⟩ u5) :=
  ((((On.setCell (S := fun i => i = X) X 1 u1 rfl W).trans (On.setCell (S := fun i => i = X) X 2 u2 rfl _)).trans (On.setCell (S := fun i => i = X) X 3 u3 rfl _)).trans (On.setCell (S := fun i => i = X) X 4 u4 rfl _)).trans (On.setCell (S := fun i => i = X) X 5 u5 rfl _)
/-- What the law's world holds beside the box: the reference's box, what went. -/
structure RefW (B : Nat) (t : ByteArray) (m : Value) (v : Value) (W : World) : Prop where
  mr : ∃ ms, BR W B m ms ∧ ms.length ≤ t.size
  ht : t.size ≤ 262144
  vr : ∃ ws, WR W B v ws ∧ ws.length ≤ 1000
theorem RefW.below {B : Nat} {t : ByteArray} {m v : Value} {W W' : World} (h : RefW B t m v W) (hb : Below W.heap.size W W') : RefW B t m v W' := by
  obtain ⟨⟨ms, h1, h2⟩, h3, ws, h4, h5⟩ := h
  exact ⟨⟨ms, h1.below hb, h2⟩, h3, ws, Kd.R_below h4 hb, h5⟩
theorem RefW.puts {B k : Nat} {t : ByteArray} {m v : Value} {W W' : World} {cs : Array Value} {ty : Nat} (h : RefW B t m v W) (hk : W.heap[k]? = some (.cells cs ty (0, 0))) (h5 : 5 ≠ ty) (h46 : 46 ≠ ty) (ho : On (fun i => i = k) W W') : RefW B t m v W' := by
  obtain ⟨⟨ms, h1, h2⟩, h3, ws, h4, h5'⟩ := h
  exact ⟨⟨ms, row_puts h1 hk (fun q hq => by simp [Kd.int, Kd.scalar] at hq; subst hq; exact h5) ho, h2⟩, h3, ws, row_puts h4 hk (fun q hq => by simp [kch, Kd.pair, Kd.int, Kd.string, Kd.bool, Kd.scalar] at hq; subst hq; exact h46) ho, h5'⟩
theorem RefW.on {B : Nat} {t : ByteArray} {m v : Value} {g gc ga : Nat} {w : World} {T : ByteArray} {S : Int} {C A : List S95} {f1 f2 f3 f4 : Bool} {W W' : World} (h : RefW B t m v W) (o : OSP g gc ga w T S C A f1 f2 f3 f4 W) (ho : On (O3 g gc ga) W W') : RefW B t m v W' := by
  obtain ⟨⟨ms, h1, h2⟩, h3, ws, h4, h5'⟩ := h
  exact ⟨⟨ms, row_on h1 o (by decide) (by decide) ho, h2⟩, h3, ws, row_on h4 o (by decide) (by decide) ho, h5'⟩
def DoP (g gc ga : Nat) (w : World) (t : ByteArray) (S : Int) (C : List S95) (f2 f3 : Bool) (v : Value) (W : World) (e : Ending) (W' : World) : Prop :=
  ∃ t' m' x' y' z' b A' f1' f4', e = .returned (.tuple #[wdV g t' m' x' y' z' v, .bool b]) ∧ OSP g gc ga w t S C A' f1' f2 f3 f4' W' ∧ RefW w.heap.size t' m' v W' ∧ On (O3 g gc ga) W W'
section
variable {g gc ga X B : Nat} {w : World} {t t4 tr : ByteArray} {S : Int} {C A : List S95} {f1 f2 f3 f4 : Bool} {m u4 v : Value} {x y x4 y4 : Bool} {z z4 : Int} {W4 : World}
theorem do_end (o : OSP g gc ga w t S C A f1 f2 f3 f4 W4) (hX : W4.heap[X]? = some (wdO g tr m x y z v)) (hX2 : W4.heap[X + 1 + 1]? = some wd0) (r : RefW B t4 u4 v W4) (hw : w.heap.size ≤ X) (hne : X ≠ g ∧ X ≠ gc ∧ X ≠ ga) (hne2 : X + 1 + 1 ≠ g ∧ X + 1 + 1 ≠ gc ∧ X + 1 + 1 ≠ ga) :
    let Wa := W4.alloc (rbO t4 u4 x4 y4 z4)
    let Wb := (((((Wa.setCell ⟨X, 1, none⟩ (.string t4)).setCell ⟨X, 2, none⟩ u4).setCell ⟨X, 3, none⟩ (.bool x4)).setCell ⟨X, 4, none⟩ (.bool y4)).setCell ⟨X, 5, none⟩ (.int .u8 z4))
    let Wc := (((((((Wb.setCell ⟨X + 1 + 1, 0, none⟩ (.pointer (some ⟨g, 0, none⟩))).setCell ⟨X + 1 + 1, 1, none⟩ (.string t4)).setCell ⟨X + 1 + 1, 2, none⟩ u4).setCell ⟨X + 1 + 1, 3, none⟩ (.bool x4)).setCell ⟨X + 1 + 1, 4, none⟩ (.bool y4)).setCell ⟨X + 1 + 1, 5, none⟩ (.int .u8 z4)).setCell ⟨X + 1 + 1, 6, none⟩ v)
    Wc.heap[X + 1 + 1]? = some (wdO g t4 u4 x4 y4 z4 v) ∧ OSP g gc ga w t S C A f1 f2 f3 f4 Wc ∧ RefW B t4 u4 v Wc ∧ On (fun k => k = X ∨ k = X + 1 + 1) W4 Wc := by
  intro Wa Wb Wc
  have hba := below_alloc (Below.refl W4.heap.size W4) (rbO t4 u4 x4 y4 z4)
  have hXa : Wa.heap[X]? = some (wdO g tr m x y z v) := (hba.block _ (lt_of_block hX)).trans hX
  have hX2a : Wa.heap[X + 1 + 1]? = some wd0 := (hba.block _ (lt_of_block hX2)).trans hX2
  have hob : On (fun i => i = X) Wa Wb := on_putR Wa X _ _ _ _ _
  have hX2b : Wb.heap[X + 1 + 1]? = some wd0 := (hob.block _ (lt_of_block hX2a) (by omega)).trans hX2a
  have hoc : On (fun i => i = X + 1 + 1) Wb Wc := on_put7 Wb (X + 1 + 1) _ _ _ _ _ _ _
  have ob := (o.below hba).puts hXa (fun i => by simp) hne hw hob
  have oc := ob.puts hX2b (fun i => by simp) hne2 (by omega) hoc
  exact ⟨put7 hX2b _ _ _ _ _ _ _, oc, ((r.below hba).puts hXa (by decide) (by decide) hob).puts hX2b (by decide) (by decide) hoc, ((On.of_below hba _).trans (hob.mono (fun _ h => .inl h))).trans (hoc.mono (fun _ h => .inr h))⟩
theorem do_begin {W W3 : World} {a : A7} (o : OSP g gc ga w t S C A f1 f2 f3 f4 W) {T : Nat → Prop} (hT : ∀ i, T i → i < W.heap.size) (ho : On T (((W.alloc (wdO g tr m x y z v)).alloc (acO a)).alloc wd0) W3) :
    W3.heap[W.heap.size]? = some (wdO g tr m x y z v) ∧ W3.heap[W.heap.size + 1]? = some (acO a) ∧ W3.heap[W.heap.size + 1 + 1]? = some wd0 := by
  have h2 : (((W.alloc (wdO g tr m x y z v)).alloc (acO a)).alloc wd0).heap[W.heap.size]? = some (wdO g tr m x y z v) := blk_alloc (blk_alloc (heap_alloc_new W _) _) _
  have h3 : (((W.alloc (wdO g tr m x y z v)).alloc (acO a)).alloc wd0).heap[W.heap.size + 1]? = some (acO a) := blk_alloc (new_two W _ _) _
  have h4 : (((W.alloc (wdO g tr m x y z v)).alloc (acO a)).alloc wd0).heap[W.heap.size + 1 + 1]? = some wd0 := by
    have := heap_alloc_new ((W.alloc (wdO g tr m x y z v)).alloc (acO a)) wd0
    rwa [World.size_alloc, World.size_alloc] at this
  exact ⟨(ho.block _ (lt_of_block h2) (fun e => by have := hT _ e; omega)).trans h2, (ho.block _ (lt_of_block h3) (fun e => by have := hT _ e; omega)).trans h3, (ho.block _ (lt_of_block h4) (fun e => by have := hT _ e; omega)).trans h4⟩
theorem OSP.lost' (h : OSP g gc ga w t S C A f1 f2 f3 f4 W4) (off : Int) (s : ByteArray) (fin : Bool) : Calls Try.prog 53 #[.pointer (some ⟨g, 0, none⟩), rcV off s fin] W4 fun e w' => ∃ c A' f4', e = .returned (.int .i64 c) ∧ On (O3 g gc ga) W4 w' ∧ OSP g gc ga w t S C A' f1 f2 f3 f4' w' := by
  refine (h.lost off s fin _ rfl).mono ?_
  rintro e w' ⟨rfl, ho, h1, h2⟩
  by_cases h0 : wasF t S f2 off s fin = 0
  · exact ⟨_, _, _, rfl, ho, h2 h0⟩
  · exact ⟨_, _, _, rfl, ho, h1 h0⟩
theorem OSP.o3lt {W : World} (h : OSP g gc ga w t S C A f1 f2 f3 f4 W) : ∀ i, O3 g gc ga i → i < W.heap.size := by
  have a := lt_of_block h.bx.blk
  have b := h.bx.sc.lt
  have c := h.bx.sa.lt
  rintro i (rfl | rfl | rfl) <;> assumption
end
set_option maxRecDepth 100000 in
set_option maxHeartbeats 2000000 in
theorem Do_fin (g gc ga : Nat) (w : World) (t tr : ByteArray) (S : Int) (C A : List S95) (f1 f2 f3 f4 : Bool) (m v : Value) (x y : Bool) (z : Int) (a : A7) (W : World) (o : OSP g gc ga w t S C A f1 f2 f3 f4 W) (r : RefW w.heap.size tr m v W) (hk0 : 0 ≤ a.k) (hk1 : a.k < 256) (hk : a.k % 8 = 1) : Calls Try.prog 29 #[wdV g tr m x y z v, acV a] W (DoP g gc ga w t S C f2 f3 v W) := by
  obtain ⟨⟨ms, hbr, hml⟩, htr, ws, hwr, hwl⟩ := r
  obtain ⟨Am, cm, rfl⟩ := Kd.R_slice hbr
  obtain ⟨Av, cv, rfl⟩ := Kd.R_slice hwr
  obtain ⟨k, off, s, fin, room, limit, old⟩ := a
  simp only [acV] at hk hk0 hk1 ⊢
  have HO := Aside0.mk o
  have HR := Aside0.mk (show RefW w.heap.size tr (.slice Am ms.length cm) (.slice Av ws.length cv) W from ⟨⟨ms, hbr, hml⟩, htr, ws, hwr, hwl⟩)
  have HWW := Aside0.mk (show w.heap.size ≤ W.heap.size from o.hb.size)
  have HNE := Aside0.mk (show (W.heap.size ≠ g ∧ W.heap.size ≠ gc ∧ W.heap.size ≠ ga) ∧ (W.heap.size + 1 + 1 ≠ g ∧ W.heap.size + 1 + 1 ≠ gc ∧ W.heap.size + 1 + 1 ≠ ga) from by have h := o.o3lt; have a := h g (.inl rfl); have b := h gc (.inr (.inl rfl)); have c := h ga (.inr (.inr rfl)); omega)
  have HBA := Aside0.mk (below_alloc (below_alloc (below_alloc (Below.refl W.heap.size W) (wdO g tr (.slice Am ms.length cm) x y z (.slice Av ws.length cv))) (acO ⟨k, off, s, fin, room, limit, old⟩)) wd0)
  have HWL := Aside0.mk hwl
  clear o hbr hml htr hwr hwl
  have hk2 : IntKind.u8.wrap (Int.tmod k 8) = 1 := by
    rw [Int.tmod_eq_emod_of_nonneg hk0, hk]; rfl
  go_enter Try.func29, Try.ntmps29
  go_wp2_with (go_at_call 52; refine (HO.out.below HBA.out).finish.mono ?_; rintro e w3 ⟨rfl, hx, ho⟩; have HF3 := Aside0.mk (do_begin (tr := tr) (x := x) (y := y) (z := z) (m := .slice Am ms.length cm) (v := .slice Av ws.length cv) (a := ⟨k, off, s, fin, room, limit, old⟩) HO.out HO.out.o3lt ho); have HO3 := Aside0.mk hx; have HR3 := Aside0.mk ((HR.out.below HBA.out).on (HO.out.below HBA.out) ho); have HN3 := Aside0.mk ((On.of_below HBA.out (O3 g gc ga)).trans ho); clear hx ho; refine park ?_)
  obtain ⟨r0, r1, r2, r3, r4, r5, r6⟩ := wd_cell HF3.out.1
  obtain ⟨⟨ms3, hbr3, hml3⟩, htr3, -⟩ := HR3.out
  have HM3 := Aside0.mk (And.intro hbr3 (And.intro hml3 htr3))
  clear hbr3 hml3 htr3
  refine ⟨?_⟩
  go_wp2_with (go_at_call 70; refine (RFinish_calls w.heap.size tr _ ms3 x y z w3 HM3.out.1 HM3.out.2.1 HM3.out.2.2 HO3.out.hb.size).mono ?_; rintro e w4 ⟨v0, cc, rfl, ⟨t4, u4, ys4, x4, y4, z4, rfl, hbr4, hl4, ht4, hB4⟩, hb4⟩; have HF4 := Aside0.mk (And.intro ((hb4.block _ (lt_of_block HF3.out.1)).trans HF3.out.1) (And.intro ((hb4.block _ (lt_of_block HF3.out.2.1)).trans HF3.out.2.1) ((hb4.block _ (lt_of_block HF3.out.2.2)).trans HF3.out.2.2))); have HO4 := Aside0.mk (HO3.out.below hb4); have HN4 := Aside0.mk (HN3.out.step hb4); obtain ⟨A4, c4, rfl⟩ := Kd.R_slice hbr4; have HR4 := Aside0.mk (show RefW w.heap.size t4 (.slice A4 ys4.length c4) (.slice Av ws.length cv) w4 from ⟨⟨ys4, hbr4, hl4⟩, ht4, (HR3.out.below hb4).vr⟩); clear hbr4 hl4 ht4 hB4 hb4; refine park ?_)
  clear r0 r1 r2 r3 r4 r5 r6
  obtain ⟨hb2, hb3, hb4⟩ := HF4.out
  have hba := below_alloc (Below.refl w4.heap.size w4) (rbO t4 (.slice A4 ys4.length c4) x4 y4 z4)
  have hXa := (hba.block _ (lt_of_block hb2)).trans hb2
  have hX2a := (hba.block _ (lt_of_block hb4)).trans hb4
  obtain ⟨c0, c1, c2, c3, c4', c5, c6⟩ := wd_cell hXa
  obtain ⟨g0, g1, g2, g3, g4, g5, g6⟩ := wd_cell hX2a
  have p1 := free_blk hXa 1
  have p2 := free_blk hXa 2
  have p3 := free_blk hXa 3
  have p4 := free_blk hXa 4
  have p5 := free_blk hXa 5
  have q0 := free_blk hX2a 0
  have q1 := free_blk hX2a 1
  have q2 := free_blk hX2a 2
  have q3 := free_blk hX2a 3
  have q4 := free_blk hX2a 4
  have q5 := free_blk hX2a 5
  have q6 := free_blk hX2a 6
  clear hb2 hb3 hb4 hba hXa hX2a
  refine ⟨?_⟩
  go_wp2
  (try simp only [Exit.inBlock, Exit.then])
  obtain ⟨e1, e2, e3, e4⟩ := do_end (x4 := x4) (y4 := y4) (z4 := z4) HO4.out HF4.out.1 HF4.out.2.2 HR4.out HWW.out HNE.out.1 HNE.out.2
  refine bodyPost_ret (results_ct rfl _ _ (W.heap.size + 1 + 1) 43 _ (0, 0) _ rfl e1 Try.underlying43 rfl (by kernel_rfl)) rfl ?_
  exact (show DoP g gc ga w t S C f2 f3 _ W _ _ from ⟨t4, _, x4, y4, z4, _, _, _, _, rfl, e2, e3, HN4.out.then_ e4 (fun i hi => .inr (by rcases hi with rfl | rfl <;> omega))⟩)
set_option maxRecDepth 100000 in
set_option maxHeartbeats 2000000 in
theorem Do_lost (g gc ga : Nat) (w : World) (t tr : ByteArray) (S : Int) (C A : List S95) (f1 f2 f3 f4 : Bool) (m v : Value) (x y : Bool) (z : Int) (a : A7) (W : World) (o : OSP g gc ga w t S C A f1 f2 f3 f4 W) (r : RefW w.heap.size tr m v W) (hk0 : 0 ≤ a.k) (hk1 : a.k < 256) (hk : a.k % 8 = 7) : Calls Try.prog 29 #[wdV g tr m x y z v, acV a] W (DoP g gc ga w t S C f2 f3 v W) := by
  obtain ⟨⟨ms, hbr, hml⟩, htr, ws, hwr, hwl⟩ := r
  obtain ⟨Am, cm, rfl⟩ := Kd.R_slice hbr
  obtain ⟨Av, cv, rfl⟩ := Kd.R_slice hwr
  obtain ⟨k, off, s, fin, room, limit, old⟩ := a
  simp only [acV] at hk hk0 hk1 ⊢
  have HO := Aside0.mk o
  have HR := Aside0.mk (show RefW w.heap.size tr (.slice Am ms.length cm) (.slice Av ws.length cv) W from ⟨⟨ms, hbr, hml⟩, htr, ws, hwr, hwl⟩)
  have HWW := Aside0.mk (show w.heap.size ≤ W.heap.size from o.hb.size)
  have HNE := Aside0.mk (show (W.heap.size ≠ g ∧ W.heap.size ≠ gc ∧ W.heap.size ≠ ga) ∧ (W.heap.size + 1 + 1 ≠ g ∧ W.heap.size + 1 + 1 ≠ gc ∧ W.heap.size + 1 + 1 ≠ ga) from by have h := o.o3lt; have a := h g (.inl rfl); have b := h gc (.inr (.inl rfl)); have c := h ga (.inr (.inr rfl)); omega)
  have HBA := Aside0.mk (below_alloc (below_alloc (below_alloc (Below.refl W.heap.size W) (wdO g tr (.slice Am ms.length cm) x y z (.slice Av ws.length cv))) (acO ⟨k, off, s, fin, room, limit, old⟩)) wd0)
  have HWL := Aside0.mk (And.intro hwr hwl)
  clear o hbr hml htr hwr hwl
  have hk2 : IntKind.u8.wrap (Int.tmod k 8) = 7 := by
    rw [Int.tmod_eq_emod_of_nonneg hk0, hk]; rfl
  go_enter Try.func29, Try.ntmps29
  go_wp2_with (go_at_call 26; refine (OChunk_calls w.heap.size ⟨k, off, s, fin, room, limit, old⟩ _ ws _ (Kd.R_below HWL.out.1 HBA.out) HWL.out.2).mono ?_; rintro e w2 ⟨off2, s2, fin2, rfl, hb⟩; have HB2 := Aside0.mk hb; clear hb; refine park ?_)
  have hbA := below_alloc (Below.refl w2.heap.size w2) (rcO off2 s2 fin2)
  have hn := heap_alloc_new w2 (rcO off2 s2 fin2)
  have HF2 := Aside0.mk (do_begin (tr := tr) (x := x) (y := y) (z := z) (m := .slice Am ms.length cm) (v := .slice Av ws.length cv) (a := ⟨k, off, s, fin, room, limit, old⟩) HO.out (T := fun _ => False) (fun _ h => h.elim) (On.of_below (below_step HB2.out hbA) _))
  have HO2 := Aside0.mk ((HO.out.below HBA.out).below (below_step HB2.out hbA))
  have HR2 := Aside0.mk ((HR.out.below HBA.out).below (below_step HB2.out hbA))
  have HN2 := Aside0.mk (below_step HBA.out (below_step HB2.out hbA))
  have HC2 := Aside0.mk hn
  have HL2 := Aside0.mk (show ∀ i, O3 g gc ga i → i ≠ w2.heap.size from fun i hi => by have := HO.out.o3lt i hi; have := HBA.out.size; have := HB2.out.size; omega)
  obtain ⟨r0, r1, r2, r3, r4, r5, r6⟩ := wd_cell HF2.out.1
  obtain ⟨s0, s1, s2'⟩ := rc_cell hn
  clear hbA hn
  refine ⟨?_⟩
  go_wp2_with (go_at_call 53; refine (HO2.out.lost' off2 s2 fin2).mono ?_; rintro e w3 ⟨c, A5, f5, rfl, ho, hx⟩; have HF3 := Aside0.mk (And.intro (keep3 ho HF2.out.1 HNE.out.1.1 HNE.out.1.2.1 HNE.out.1.2.2) (And.intro ((ho.block _ (lt_of_block HF2.out.2.1) (fun h => by have := HO.out.o3lt _ h; omega)).trans HF2.out.2.1) (keep3 ho HF2.out.2.2 HNE.out.2.1 HNE.out.2.2.1 HNE.out.2.2.2))); have HC3 := Aside0.mk ((ho.block _ (lt_of_block HC2.out) (fun h => HL2.out _ h rfl)).trans HC2.out); have HO3 := Aside0.mk hx; have HR3 := Aside0.mk (HR2.out.on HO2.out ho); have HN3 := Aside0.mk ((On.of_below HN2.out (O3 g gc ga)).trans ho); clear hx ho; refine park ?_)
  clear r0 r1 r2 r3 r4 r5 r6 s0 s1 s2'
  obtain ⟨r0, r1, r2, r3, r4, r5, r6⟩ := wd_cell HF3.out.1
  obtain ⟨s0, s1, s2'⟩ := rc_cell HC3.out
  obtain ⟨⟨ms3, hbr3, hml3⟩, htr3, -⟩ := HR3.out
  have HM3 := Aside0.mk (And.intro hbr3 (And.intro hml3 htr3))
  clear hbr3 hml3 htr3
  refine ⟨?_⟩
  go_wp2_with (go_at_call 71; refine (RLost_calls w.heap.size tr _ ms3 x y z off2 s2 fin2 w3 HM3.out.1 HM3.out.2.1 HM3.out.2.2 HO3.out.hb.size).mono ?_; rintro e w4 ⟨v0, cc, rfl, ⟨t4, u4, ys4, x4, y4, z4, rfl, hbr4, hl4, ht4, hB4⟩, hb4⟩; have HF4 := Aside0.mk (And.intro ((hb4.block _ (lt_of_block HF3.out.1)).trans HF3.out.1) (And.intro ((hb4.block _ (lt_of_block HF3.out.2.1)).trans HF3.out.2.1) ((hb4.block _ (lt_of_block HF3.out.2.2)).trans HF3.out.2.2))); have HO4 := Aside0.mk (HO3.out.below hb4); have HN4 := Aside0.mk (HN3.out.step hb4); obtain ⟨A4, c4, rfl⟩ := Kd.R_slice hbr4; have HR4 := Aside0.mk (show RefW w.heap.size t4 (.slice A4 ys4.length c4) (.slice Av ws.length cv) w4 from ⟨⟨ys4, hbr4, hl4⟩, ht4, (HR3.out.below hb4).vr⟩); clear hbr4 hl4 ht4 hB4 hb4; refine park ?_)
  clear r0 r1 r2 r3 r4 r5 r6 s0 s1 s2'
  obtain ⟨hb2, hb3, hb4⟩ := HF4.out
  have hba := below_alloc (Below.refl w4.heap.size w4) (rbO t4 (.slice A4 ys4.length c4) x4 y4 z4)
  have hXa := (hba.block _ (lt_of_block hb2)).trans hb2
  have hX2a := (hba.block _ (lt_of_block hb4)).trans hb4
  obtain ⟨c0, c1, c2, c3, c4', c5, c6⟩ := wd_cell hXa
  obtain ⟨g0, g1, g2, g3, g4, g5, g6⟩ := wd_cell hX2a
  have p1 := free_blk hXa 1
  have p2 := free_blk hXa 2
  have p3 := free_blk hXa 3
  have p4 := free_blk hXa 4
  have p5 := free_blk hXa 5
  have q0 := free_blk hX2a 0
  have q1 := free_blk hX2a 1
  have q2 := free_blk hX2a 2
  have q3 := free_blk hX2a 3
  have q4 := free_blk hX2a 4
  have q5 := free_blk hX2a 5
  have q6 := free_blk hX2a 6
  clear hb2 hb3 hb4 hba hXa hX2a
  refine ⟨?_⟩
  go_wp2
  (try simp only [Exit.inBlock, Exit.then])
  obtain ⟨e1, e2, e3, e4⟩ := do_end (x4 := x4) (y4 := y4) (z4 := z4) HO4.out HF4.out.1 HF4.out.2.2 HR4.out HWW.out HNE.out.1 HNE.out.2
  refine bodyPost_ret (results_ct rfl _ _ (W.heap.size + 1 + 1) 43 _ (0, 0) _ rfl e1 Try.underlying43 rfl (by kernel_rfl)) rfl ?_
  exact (show DoP g gc ga w t S C f2 f3 _ W _ _ from ⟨t4, _, x4, y4, z4, _, _, _, _, rfl, e2, e3, HN4.out.then_ e4 (fun i hi => .inr (by rcases hi with rfl | rfl <;> omega))⟩)
end Go.Proofs.Ytiladcdogbeomaa.QRangesPlays
