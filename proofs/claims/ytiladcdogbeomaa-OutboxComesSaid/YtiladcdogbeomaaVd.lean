/- Law 24 (outbox): contracts of functions that its statements reach, and plain laws behind them (part 4). No condition. -/
import Derived.Test.YtiladcdogbeomaaVc
import Derived.Shelf.Strings.Builder1
import Derived.Test.YtiladcdogbeomaaProg
import Derived.Lib.Builder
namespace Go.Proofs.Ytiladcdogbeomaa.Lazy
open Go
section
variable {P : Program} {Q : Exit → Act → World → Prop} {ops : List Oper} {tab : List (Option Nat)} {t0 : List Value} {d0 : List Deferred}
theorem lazy_still {L : Nat → Bool} {σ : Nat → Value} {s j : Nat} {x : Value} (hx : t0[s]? = some x) (h : tab[s]? = some (some j)) (hL : L j = false) : (lazyA L σ t0 tab d0).eval (.tmp s) = x := by
  have : (lazyT L σ t0 tab)[s]? = some x := by
    unfold lazyT
    rw [List.getElem?_zipWith, h, hx]
    simp [hL]
  simp [Act.eval, lazyA, this]
end
end Go.Proofs.Ytiladcdogbeomaa.Lazy
namespace Go.Proofs.Ytiladcdogbeomaa.QRangesPlays
open Go.RowKit Go.Shelf Go.Proofs.YtiladcdogbeomaaW.PrintWords Go.Proofs.YtiladcdogbeomaaW.PrintLast Go.Proofs.YtiladcdogbeomaaW.PrintMore Go.Proofs.Ytiladcdogbeomaa.RowLaws Go.Proofs.Ytiladcdogbeomaa.Lazy
attribute [local go_sem] Oper.semAt_some
theorem w64i {x : Int} (h : -9223372036854775808 ≤ x ∧ x < 9223372036854775808) : wrap64 x = x := by unfold wrap64; omega
theorem OwnS.reads' {W : World} {B : Nat} {A : Option Addr} {n c : Nat} {xs : List S95} (h : OwnS W B (.slice A n c) xs) : n ≤ c ∧ Kd.C k95 W A n xs := by
  obtain ⟨A2, c2, e, h1, h2⟩ := h.reads
  cases e
  exact ⟨h1, h2⟩
theorem Only.belowN {g B : Nat} {a W W' : World} (h : Below B a W) (ho : Only g W W') (hg : B ≤ g) (hB : B ≤ W.heap.size) : Below B a W' :=
  ⟨ho.os.trans h.os, ho.tape.trans h.tape, ho.output.trans h.output, Nat.le_trans h.size ho.size, fun k hk => (ho.block k (Nat.lt_of_lt_of_le hk hB) (by intro e; injection e; omega)).trans (h.block k hk)⟩
def Mk_ (n : Nat) : Prop := n = n
theorem OwnS.only {W W' : World} {B g : Nat} {v : Value} {xs : List S95} (h : OwnS W B v xs) (ho : Only g W W') (hg : g < B) : OwnS W' B v xs :=
  own_move h (fun k hk => ho.block k (h.lt hk).2 (by have := (h.lt hk).1; intro e; injection e; omega))
theorem info5g : (Try.prog.info? 5).map (fun i => (i.zero, i.size, i.bytes)) = some (some (.int .u8 0), 1, 1) := by kernel_rfl
theorem cells_set {W : World} {g i : Nat} {cs : Array Value} {t : TypeId} (u : Value) (h : W.heap[g]? = some (.cells cs t (0, 0))) : (W.setCell ⟨g, i, none⟩ u).heap[g]? = some (.cells (cs.setIfInBounds i u) t (0, 0)) := by
  have hlt := lt_of_block h
  have hg : W.heap[g] = .cells cs t (0, 0) := by rw [Array.getElem?_eq_getElem hlt] at h; exact Option.some.inj h
  unfold World.setCell
  simp [hlt, Array.getElem_modify, hg]
def PairRow (W : World) (A : Option Addr) (xs : List (Int × Int)) : Prop :=
  ∀ i (h : i < xs.length), ∃ b o, A = some ⟨b, o, none⟩ ∧ W.cell? ⟨b, o + i * 2, none⟩ = some (.int .u16 xs[i].1) ∧ W.cell? ⟨b, o + i * 2 + 1, none⟩ = some (.int .u16 xs[i].2)
def PairsOk (xs : List (Int × Int)) : Prop := ∀ x ∈ xs, (0 ≤ x.1 ∧ x.1 < 65536) ∧ (0 ≤ x.2 ∧ x.2 < 65536)
set_option maxHeartbeats 4000000 in
theorem New_calls (w : World) : Calls Try.prog 36 #[] w fun e w' => ∃ g, e = .returned (.pointer (some ⟨g, 0, none⟩)) ∧ SetAt w' g [] ∧ Below w.heap.size w w' ∧ g = w.heap.size := by
  go_enter Try.func36, Try.ntmps36
  go_wp2
  go_ret
  exact ⟨_, rfl, ⟨.slice none 0 0, Boxed.new w 121 _, .inl ⟨rfl, rfl⟩⟩, below_alloc (Below.refl _ _) _, rfl⟩
end Go.Proofs.Ytiladcdogbeomaa.QRangesPlays

namespace Go.Proofs.Ytiladcdogbeomaa.QRangesPlays
open Go.RowKit Go.Proofs.YtiladcdogbeomaaW.PrintWords
open Iter
theorem cnt_bnd {lo : Int} : ∀ {l : List S95}, wf lo l → 0 ≤ lo → 0 ≤ cnt l ∧ (l ≠ [] → cnt l ≤ 1099511627777 - lo)
  | [], _, _ => ⟨by simp [cnt], fun h => absurd rfl h⟩
  | x :: r, ⟨h1, h2, h3, h4⟩, h0 => by
    have := cnt_bnd h4 (by omega)
    rw [cnt_cons]
    refine ⟨by omega, fun _ => ?_⟩
    by_cases hr : r = []
    · subst hr; simp only [cnt]; omega
    · have := this.2 hr; omega
theorem cntF_go : ∀ (l : List S95) (a lo : Int), wf lo l → 0 ≤ lo → 0 ≤ a → a ≤ 1099511627777 → l.foldl (fun n x => wrap64 (n + cntOne x)) a = a + cnt l
  | [], a, _, _, _, _, _ => by simp [cnt]
  | x :: r, a, lo, h, h0, ha, ha2 => by
    have hb := cnt_bnd h h0
    obtain ⟨h1, h2, h3, h4⟩ := h
    have hc := cnt_bnd h4 (by omega)
    have e1 : cntOne x = x.f1 - x.f0 + 1 := by
      unfold cntOne
      rw [show wrap64 (x.f1 - x.f0) = x.f1 - x.f0 from w64i (by omega)]; exact w64i (by omega)
    rw [List.foldl_cons, e1, w64i (by omega), cnt_cons]
    have key : ∀ (l : List S95) (a lo : Int), wf lo l → 0 ≤ lo → 0 ≤ a → a + cnt l ≤ 4611686018427387904 → l.foldl (fun n x => wrap64 (n + cntOne x)) a = a + cnt l := by
      intro l
      induction l with
      | nil => intro a _ _ _ _ _; simp [cnt]
      | cons y s ih =>
        intro a lo ⟨g1, g2, g3, g4⟩ g0 ga gb
        have hc := cnt_bnd g4 (by omega)
        rw [cnt_cons] at gb
        have e1 : cntOne y = y.f1 - y.f0 + 1 := by
          unfold cntOne
          rw [show wrap64 (y.f1 - y.f0) = y.f1 - y.f0 from w64i (by omega)]; exact w64i (by omega)
        rw [List.foldl_cons, e1, w64i (by omega), cnt_cons, ih _ (y.f1 + 2) g4 (by omega) (by omega) (by omega)]
        omega
    have hb2 := hb.2 (by simp)
    rw [cnt_cons] at hb2
    rw [key r _ (x.f1 + 2) h4 (by omega) (by omega) (by omega)]
    omega
theorem cntF_eq {l : List S95} (h : wf 0 l) : cntF l = cnt l := by
  unfold cntF
  rw [cntF_go l 0 0 h (by omega) (by omega) (by omega)]; omega
theorem foldrem {lo : Int} : ∀ (l s : List S95), wf lo s → (∀ x ∈ l, x.f0 ≤ x.f1) → wf lo (l.foldl (fun s x => rem x.f0 x.f1 s) s) ∧ ∀ n, (has (l.foldl (fun s x => rem x.f0 x.f1 s) s) n ↔ has s n ∧ ¬ has l n)
  | [], s, h, _ => ⟨h, fun n => by simp [has]⟩
  | x :: r, s, h, hx => by
    have h1 := hx x (by simp)
    obtain ⟨a, b⟩ := foldrem r (rem x.f0 x.f1 s) (wf_rem h1 h) (fun y hy => hx y (by simp [hy]))
    refine ⟨a, fun n => ?_⟩
    rw [List.foldl_cons, b n, has_rem h1 n h, has_cons]
    constructor
    · rintro ⟨⟨p, q⟩, r⟩; exact ⟨p, by rintro (h | h); exact q h; exact r h⟩
    · rintro ⟨p, q⟩; exact ⟨⟨p, fun h => q (.inl h)⟩, fun h => q (.inr h)⟩
theorem gps_all {f t : Int} {l : List S95} (h0 : 0 ≤ f) (hft : f ≤ t) (ht : t ≤ 1099511627776) (hw : wf 0 l) : wf f (gps f t f l) ∧ ∀ n, (has (gps f t f l) n ↔ (f ≤ n ∧ n ≤ t) ∧ ¬ has l n) := by
  have h := gps_rem (f := f) (t := t) (l := l) (o := []) (lo := 0) (c := f) hw (Int.le_refl _) (by simp) (.inl rfl) (by simp)
  rw [if_pos hft, List.nil_append, List.nil_append] at h
  have := foldrem (lo := f) l [⟨f, t⟩] ⟨Int.le_refl _, hft, ht, trivial⟩ (fun x hx => (wf_mem hw x hx).2.1)
  rw [h] at this
  refine ⟨this.1, fun n => ?_⟩
  rw [this.2 n]
  simp [has]
theorem take_lt {lo : Int} : ∀ {l : List S95}, wf lo l → ∀ k (hk : k < l.length) n, has (l.take k) n → n < l[k].f0
  | [], _, k, hk, _, _ => by simp at hk
  | x :: r, _, 0, _, _, h => by simp [has] at h
  | x :: r, ⟨h1, h2, h3, h4⟩, k + 1, hk, n, h => by
    rw [List.take_succ_cons, has_cons] at h
    simp only [List.getElem_cons_succ]
    rcases h with h | h
    · have := (wf_mem h4 (r[k]'(by simpa using hk)) (List.getElem_mem _)).1; omega
    · exact take_lt h4 k (by simpa using hk) n h
theorem any_has {l : List S95} {m : Int} : (l.map pr).any (tch m m) = true ↔ has l m := by
  rw [List.any_eq_true]
  constructor
  · rintro ⟨z, hz, ht⟩
    obtain ⟨x, hx, rfl⟩ := List.mem_map.1 hz
    rw [tch_pr] at ht
    simp only [Bool.and_eq_true, decide_eq_true_eq] at ht
    exact ⟨x, hx, ht.2, ht.1⟩
  · rintro ⟨x, hx, h1, h2⟩
    exact ⟨pr x, List.mem_map.2 ⟨x, hx, rfl⟩, by rw [tch_pr]; simp [h1, h2]⟩
/-- A gap that is put into a set that holds none of its numbers: nothing to remove, something new. -/
theorem put_gap {f t : Int} {l : List S95} (h0 : 0 ≤ f) (hft : f ≤ t) (ht : t ≤ 1099511627776) (hw : wf 0 l) (hn : ∀ n, f ≤ n → n ≤ t → ¬ has l n) :
    remL f t l = l ∧ addL f t l = ins f t l ∧ wf 0 (ins f t l) ∧ decide (cntF l < cntF (addL f t l)) = true ∧ wrap64 (cntF l - cntF (remL f t l)) = 0 := by
  have hm : may f t = true := by unfold may; simp [h0, hft, ht]
  have e1 : remL f t l = l := by unfold remL; rw [if_pos hm]; exact rem_none hft hw hn
  have e2 : addL f t l = ins f t l := by unfold addL; rw [if_pos hm]
  have hi := wf_ins h0 hft ht hw
  refine ⟨e1, e2, hi, ?_, by rw [e1, Int.sub_self]; exact w64i (by omega)⟩
  rw [e2, cntF_eq hw, cntF_eq hi, cnt_ins hw hft, ov_none hft hw hn]
  simp only [decide_eq_true_eq]; omega
theorem gapsL_nil {f t : Int} {l : List S95} (h0 : 0 ≤ f) (hft : f ≤ t) (ht : t ≤ 1099511627776) (hw : wf 0 l) (ha : ∀ n, f ≤ n → n ≤ t → has l n) : gapsL f t l = [] := by
  unfold gapsL
  split
  · obtain ⟨h1, h2⟩ := gps_all h0 hft ht hw
    cases hg : gps f t f l with
    | nil => rfl
    | cons x r =>
      rw [hg] at h1 h2
      have hx := wf_mem h1 x (by simp)
      have := (h2 x.f0).1 ⟨x, by simp, Int.le_refl _, hx.2.1⟩
      exact absurd (ha _ this.1.1 this.1.2) this.2
  · rfl
end Go.Proofs.Ytiladcdogbeomaa.QRangesPlays

namespace Go.Proofs
open Go.Shelf
def Try.lays169_ren : Go.Shelf.Ren := ⟨fun | 169 => 60 | n => n, fun | 70 => 104 | 9 => 9 | 0 => 0 | 72 => 106 | 37 => 23 | 127 => 139 | 3 => 3 | 5 => 5 | n => n, fun | n => n⟩
theorem Try.lays169 : Go.Proofs.Lays.n169 Try.prog Try.lays169_ren := {
  mixed := by kernel_rfl
  f169 := Try.func60.trans (congrArg some (by kernel_rfl))
  t0 := Try.underlying0
  a0 := Try.isAgg0
  z0 := Try.sizeOf0
  v0 := Try.zeroValue0
  t3 := Try.underlying3
  a3 := Try.isAgg3
  z3 := Try.sizeOf3
  v3 := Try.zeroValue3
  t9 := Try.underlying9
  a9 := Try.isAgg9
  z9 := Try.sizeOf9
  v9 := Try.zeroValue9
  t37 := Try.underlying23
  a37 := Try.isAgg23
  z37 := Try.sizeOf23
  v37 := Try.zeroValue23
  t70 := Try.underlying104
  a70 := Try.isAgg104
  z70 := Try.sizeOf104
  v70 := Try.zeroValue104
  t72 := Try.underlying106
  a72 := Try.isAgg106
  z72 := Try.sizeOf106
  v72 := Try.zeroValue106
  t127 := Try.underlying139
  a127 := Try.isAgg139
  z127 := Try.sizeOf139
  v127 := Try.zeroValue139 }
theorem Try.Builder_Extra_169 : Builder.Extra Try.prog Try.lays169_ren := {
  sizeBuilder := by kernel_rfl
  liesBuilder := by kernel_rfl
  t5 := Try.underlying5
  a5 := Try.isAgg5
  z5 := Try.sizeOf5
  v5 := Try.zeroValue5
  infoByte := by kernel_rfl
  cellsByte := by kernel_rfl
  sizeByte := by kernel_rfl
  neB5 := by decide }
open Go.RowKit in
/-- (*strings.Builder).String: "String returns the accumulated string.": OF A BUILDER THAT HOLDS AT LEAST ONE BYTE. ✋ THE MODEL FREEZES THOSE BYTES IN THE BUFFER (unsafe.String): a later write INTO them ends the model's run without an answer; a later append BEHIND them goes on. The statement's order of evaluation is drawn: one draw. (LAID: no walk: one application.) -/
theorem Try.Builder_String (B b : Nat) (l : List UInt8) (w : World) (h : Lib.IsBuilder 106 5 B b (Lib.byteCells l) w) (h0 : l ≠ []) :
    Calls Try.prog 60 #[.pointer (some ⟨b, 0, none⟩)] w fun e w' => e = .returned (.string ⟨l.toArray⟩) ∧ Below B w w' := Any.Builder_String Try.lays169 Try.Builder_Extra_169 B b l w h h0
open Go.RowKit in
/-- (*strings.Builder).String OF A BUILDER THAT HOLDS NO BYTE: the empty string. (Its buffer is nil, or a row of which it has taken nothing yet; where that row has NO capacity the model lays one new block for unsafe.SliceData's 'some address'.) One draw. (LAID: no walk: one application.) -/
theorem Try.Builder_String_empty (B b : Nat) (w : World) (h : Lib.IsBuilder 106 5 B b [] w) (hBw : B ≤ w.heap.size) :
    Calls Try.prog 60 #[.pointer (some ⟨b, 0, none⟩)] w fun e w' => e = .returned (.string ⟨#[]⟩) ∧ Below B w w' := Any.Builder_String_empty Try.lays169 Try.Builder_Extra_169 B b w h hBw
open Go.RowKit in
/-- (*strings.Builder).String: "String returns the accumulated string.": WHATEVER THE BUILDER HOLDS. (LAID: no walk: one application.) -/
theorem Try.Builder_String_any (B b : Nat) (l : List UInt8) (w : World) (h : Lib.IsBuilder 106 5 B b (Lib.byteCells l) w) (hBw : B ≤ w.heap.size) :
    Calls Try.prog 60 #[.pointer (some ⟨b, 0, none⟩)] w fun e w' => e = .returned (.string ⟨l.toArray⟩) ∧ Below B w w' := Any.Builder_String_any Try.lays169 Try.Builder_Extra_169 B b l w h hBw
end Go.Proofs

namespace Go.Proofs.Ytiladcdogbeomaa.QRangesPlays
open Go.RowKit Go.Shelf Go.Proofs.YtiladcdogbeomaaW.PrintWords Go.Proofs.YtiladcdogbeomaaW.PrintLast Go.Proofs.YtiladcdogbeomaaW.PrintMore Go.Proofs.Ytiladcdogbeomaa.RowLaws Go.Proofs.Ytiladcdogbeomaa.Lazy
attribute [local go_sem] Oper.semAt_some
theorem info106 : (Try.prog.info? 106).map (fun i => i.size) = some 2 := by kernel_rfl
set_option maxRecDepth 100000 in
set_option maxHeartbeats 4000000 in
theorem Bld_used (b : Nat) (w : World) (h0 : w.cell? ⟨b, 0, none⟩ = some (.pointer (some ⟨b, 0, none⟩))) :
    Calls Try.prog 89 #[.pointer (some ⟨b, 0, none⟩)] w fun e w' => e = .returned (.tuple #[]) ∧ w' = w := by
  obtain ⟨j, hj, _⟩ := Option.map_eq_some_iff.1 info106
  go_enter Try.func89, Try.ntmps89
  go_wp2
  rw [Lib.run_neq_ptr_same w _ Try.underlying104 hj]
  go_wp2
  go_end0
  exact ⟨rfl, rfl⟩
set_option maxRecDepth 100000 in
set_option maxHeartbeats 4000000 in
theorem Bld_fresh (b : Nat) (w : World) (h0 : w.cell? ⟨b, 0, none⟩ = some (.pointer none)) (hsh : w.shape? b = some (106, 2)) (hfz : w.frozen? ⟨b, 0, none⟩ = false) :
    Calls Try.prog 89 #[.pointer (some ⟨b, 0, none⟩)] w fun e w' => e = .returned (.tuple #[]) ∧ w' = w.setCell ⟨b, 0, none⟩ (.pointer (some ⟨b, 0, none⟩)) := by
  obtain ⟨j, hj, hjs⟩ := Option.map_eq_some_iff.1 info106
  go_enter Try.func89, Try.ntmps89
  go_wp2
  rw [Lib.run_to_unsafe w ⟨b, 0, none⟩ Try.underlying104 Try.underlying147 hj (by rw [hjs]; decide) hsh (Nat.zero_lt_succ 1)]
  simp only [Result.andThen]
  rw [Oper.upon_value]
  go_wp2
  rw [run_callFunc_extern Try.func99 (by kernel_rfl) (by kernel_rfl) (by kernel_rfl) (e := Extern.AbiNoEscape.same) (by kernel_rfl)]
  rw [Lib.run_noEscape]
  simp only [Result.andThen]
  rw [Oper.upon_value]
  go_wp2
  rw [Lib.run_from_unsafe w ⟨b, 0, none⟩ Try.underlying147 Try.underlying104 hj hsh (by kernel_rfl)]
  simp only [Result.andThen]
  rw [Oper.upon_value]
  go_wp2
  go_end0
  exact ⟨rfl, rfl⟩
theorem Bld_check (B b : Nat) (bs : List Value) (w : World) (h : Lib.IsBuilder 106 5 B b bs w) :
    Calls Try.prog 89 #[.pointer (some ⟨b, 0, none⟩)] w fun e w' => e = .returned (.tuple #[]) ∧ (Lib.BuilderAt 106 5 B b (.pointer (some ⟨b, 0, none⟩)) bs w' ∧ Below B w w') := by
  rcases h with h | h
  · refine (Bld_fresh b w h.cell0 h.shape h.frozen0).mono ?_
    rintro e w' ⟨rfl, rfl⟩
    exact ⟨rfl, h.used _, (Below.refl B w).setCell (p := ⟨b, 0, none⟩) h.1 _⟩
  · refine (Bld_used b w h.cell0).mono ?_
    rintro e w' ⟨rfl, rfl⟩
    exact ⟨rfl, h, Below.refl B _⟩
set_option maxRecDepth 100000 in
set_option maxHeartbeats 4000000 in
theorem Bld_WriteByte (B b : Nat) (bs : List Value) (c : Int) (w : World) (h : Lib.IsBuilder 106 5 B b bs w) (hlen : bs.length + 1 ≤ 140737488355328) (hBw : B ≤ w.heap.size) :
    Calls Try.prog 59 #[.pointer (some ⟨b, 0, none⟩), .int .u8 c] w fun e w' => e = .returned .nilIface ∧ (Lib.BuilderAt 106 5 B b (.pointer (some ⟨b, 0, none⟩)) (bs ++ [.int .u8 c]) w' ∧ Below B w w') := by
  obtain ⟨i0, hi, hz0, hz1, hz2⟩ := info_parts info5g
  go_enter Try.func59, Try.ntmps59
  go_wp2_with (go_at_call 89; refine (Bld_check B b bs _ h).mono ?_)
  rintro e w1 ⟨rfl, h1, hb1⟩
  obtain ⟨hB, v, hbk, hown, hne⟩ := h1
  have c0 : w1.cell? ⟨b, 0, none⟩ = some (.pointer (some ⟨b, 0, none⟩)) := by rw [Lib.cell_of_heap hbk]; rfl
  have c1 : w1.cell? ⟨b, 1, none⟩ = some v := by rw [Lib.cell_of_heap hbk]; rfl
  go_wp2_with ((with_reducible refine gate_builtin (b := .append) (xs := #[.tmp 11, .tmp 13]) rfl ?_); at_builtin; refine wpList_append_own _ rfl (.tmp 11) (.tmp 13) 23 rfl B 5 i0 (.int .u8 0) 1 1 Try.underlying23 hi hz0 hz1 hz2 rfl (by decide) _ _ _ rfl (hown.alloc _) ⟨w1.heap.size, 0, none⟩ 1 1 [.int .u8 c] rfl rfl ?c1 ?c2 ?c3 ?c4 ?c5 ?_)
  case c1 =>
    intro j u hj
    match j, hj with
    | 0, hj => simp at hj; subst hj; simp [Addr.add]
  case c2 => intro u hu; simp at hu; subst hu; rfl
  case c3 => unfold maxLen; omega
  case c4 => omega
  case c5 => have := hb1.size; simp; omega
  intro v' w2 hown' hgrow _
  have hlt : b < w1.heap.size := lt_of_block hbk
  have hb2 : w2.heap[b]? = some (.cells #[.pointer (some ⟨b, 0, none⟩), v] 106 (0, 0)) := by
    rw [hgrow.block b (by simp; omega) (fun e => hne e.symm), Lib.alloc_old w1 _ b hlt]
    exact hbk
  have d0 : w2.cell? ⟨b, 0, none⟩ = some (.pointer (some ⟨b, 0, none⟩)) := by rw [Lib.cell_of_heap hb2]; rfl
  have d1 : w2.cell? ⟨b, 1, none⟩ = some v := by rw [Lib.cell_of_heap hb2]; rfl
  have f1 : w2.frozen? ⟨b, 1, none⟩ = false := Lib.frozen_of_heap hb2 1
  obtain ⟨g, cap, rfl⟩ : ∃ g cap, v' = .slice (some ⟨g, 0, none⟩) (bs.length + 1) cap := by
    rcases hown'.2 with ⟨_, h0⟩ | ⟨g, cap, cur, hv, _⟩
    · omega
    · exact ⟨g, cap, hv⟩
  go_wp2
  go_ret
  refine ⟨rfl, ?_, ?_⟩
  · exact Lib.BuilderAt.put (T := 106) (e := 5) hB hb2 (bs' := bs ++ [.int .u8 c]) (by simpa using hown') (by decide)
  · exact ((hb1.alloc (by have := hb1.size; omega) _).grown hgrow (by have := hb1.size; simp; omega) (fun k hk => (hown.lt k hk).1)).setCell (p := ⟨b, 1, none⟩) hB _
theorem Bld_check2 (B b : Nat) (bs : List Value) (w : World) (h : Lib.IsBuilder 106 5 B b bs w) :
    Calls Try.prog 89 #[.pointer (some ⟨b, 0, none⟩)] w fun e w' => e = .returned (.tuple #[]) ∧ (Lib.BuilderAt 106 5 B b (.pointer (some ⟨b, 0, none⟩)) bs w' ∧ Below B w w') ∧ Kept w w' (fun k => k = b) ∧ ∀ p v, w.heap[b]? = some (.cells #[p, v] 106 (0, 0)) → w'.heap[b]? = some (.cells #[.pointer (some ⟨b, 0, none⟩), v] 106 (0, 0)) := by
  rcases h with h | h
  · refine (Bld_fresh b w h.cell0 h.shape h.frozen0).mono ?_
    rintro e w' ⟨rfl, rfl⟩
    exact ⟨rfl, ⟨h.used _, (Below.refl B w).setCell (p := ⟨b, 0, none⟩) h.1 _⟩, ⟨by simp [World.setCell], fun k hk hn => Below.heap_setCell _ _ _ _ hn⟩, fun p v hv => cells_set _ hv⟩
  · refine (Bld_used b w h.cell0).mono ?_
    rintro e w' ⟨rfl, rfl⟩
    refine ⟨rfl, ⟨h, Below.refl B _⟩, Kept.refl _ _, fun p v hv => ?_⟩
    have hc := h.cell0
    rw [Lib.cell_of_heap hv] at hc
    have : p = .pointer (some ⟨b, 0, none⟩) := by simpa using hc
    rw [← this]; exact hv
set_option maxRecDepth 100000 in
set_option maxHeartbeats 4000000 in
theorem Bld_Write (B b : Nat) (bs : List Value) (c : Int) (p0 v0 : Value) (w : World) (h : Lib.IsBuilder 106 5 B b bs w) (hv0 : w.heap[b]? = some (.cells #[p0, v0] 106 (0, 0))) (hlen : bs.length + 1 ≤ 140737488355328) (hBw : B ≤ w.heap.size) :
    Calls Try.prog 59 #[.pointer (some ⟨b, 0, none⟩), .int .u8 c] w fun e w' => e = .returned .nilIface ∧ (Lib.BuilderAt 106 5 B b (.pointer (some ⟨b, 0, none⟩)) (bs ++ [.int .u8 c]) w' ∧ Below B w w') ∧ Kept w w' (fun k => k = b ∨ some k = v0.ownBlock) := by
  obtain ⟨i0, hi, hz0, hz1, hz2⟩ := info_parts info5g
  go_enter Try.func59, Try.ntmps59
  go_wp2_with (go_at_call 89; refine (Bld_check2 B b bs _ h).mono ?_)
  rintro e w1 ⟨rfl, ⟨h1, hb1⟩, hk1, hv1⟩
  have hbk := hv1 _ _ hv0
  obtain ⟨hB, v, hbk', hown, hne⟩ := h1
  have hvv : v = v0 := by rw [hbk] at hbk'; injection hbk' with hbk'; injection hbk' with hbk'; simpa using hbk'.symm
  subst hvv
  have c0 : w1.cell? ⟨b, 0, none⟩ = some (.pointer (some ⟨b, 0, none⟩)) := by rw [Lib.cell_of_heap hbk]; rfl
  have c1 : w1.cell? ⟨b, 1, none⟩ = some v := by rw [Lib.cell_of_heap hbk]; rfl
  go_wp2_with ((with_reducible refine gate_builtin (b := .append) (xs := #[.tmp 11, .tmp 13]) rfl ?_); at_builtin; refine wpList_append_own _ rfl (.tmp 11) (.tmp 13) 23 rfl B 5 i0 (.int .u8 0) 1 1 Try.underlying23 hi hz0 hz1 hz2 rfl (by decide) _ _ _ rfl (hown.alloc _) ⟨w1.heap.size, 0, none⟩ 1 1 [.int .u8 c] rfl rfl ?c1 ?c2 ?c3 ?c4 ?c5 ?_)
  case c1 =>
    intro j u hj
    match j, hj with
    | 0, hj => simp at hj; subst hj; simp [Addr.add]
  case c2 => intro u hu; simp at hu; subst hu; rfl
  case c3 => unfold maxLen; omega
  case c4 => omega
  case c5 => have := hb1.size; simp; omega
  intro v' w2 hown' hgrow _
  have hlt : b < w1.heap.size := lt_of_block hbk
  have hb2 : w2.heap[b]? = some (.cells #[.pointer (some ⟨b, 0, none⟩), v] 106 (0, 0)) := by
    rw [hgrow.block b (by simp; omega) (fun e => hne e.symm), Lib.alloc_old w1 _ b hlt]
    exact hbk
  have d0 : w2.cell? ⟨b, 0, none⟩ = some (.pointer (some ⟨b, 0, none⟩)) := by rw [Lib.cell_of_heap hb2]; rfl
  have d1 : w2.cell? ⟨b, 1, none⟩ = some v := by rw [Lib.cell_of_heap hb2]; rfl
  have f1 : w2.frozen? ⟨b, 1, none⟩ = false := Lib.frozen_of_heap hb2 1
  obtain ⟨g, cap, rfl⟩ : ∃ g cap, v' = .slice (some ⟨g, 0, none⟩) (bs.length + 1) cap := by
    rcases hown'.2 with ⟨_, h0⟩ | ⟨g, cap, cur, hv, _⟩
    · omega
    · exact ⟨g, cap, hv⟩
  go_wp2
  go_ret
  refine ⟨rfl, ⟨?_, ?_⟩, ?_⟩
  · exact Lib.BuilderAt.put (T := 106) (e := 5) hB hb2 (bs' := bs ++ [.int .u8 c]) (by simpa using hown') (by decide)
  · exact ((hb1.alloc (by have := hb1.size; omega) _).grown hgrow (by have := hb1.size; simp; omega) (fun k hk => (hown.lt k hk).1)).setCell (p := ⟨b, 1, none⟩) hB _
  · have s1 : w1.heap.size ≤ w2.heap.size := Nat.le_trans (by simp) hgrow.size
    refine ⟨Nat.le_trans hk1.1 (Nat.le_trans s1 (by simp [World.setCell])), fun k hk hn => ?_⟩
    have n1 : k ≠ b := fun e => hn (.inl e)
    have n2 : some k ≠ v.ownBlock := fun e => hn (.inr e)
    have hk2 : k < w1.heap.size := Nat.lt_of_lt_of_le hk hk1.1
    exact (Below.heap_setCell _ _ _ _ n1).trans ((hgrow.block k (by simp; omega) n2).trans ((Lib.alloc_old w1 _ k hk2).trans (hk1.2 k hk n1)))
end Go.Proofs.Ytiladcdogbeomaa.QRangesPlays

namespace Go.Proofs.Ytiladcdogbeomaa.QRangesPlays
open Go.RowKit Go.Shelf Go.Proofs.YtiladcdogbeomaaW.PrintWords Go.Proofs.YtiladcdogbeomaaW.PrintLast Go.Proofs.YtiladcdogbeomaaW.PrintMore Go.Proofs.Ytiladcdogbeomaa.RowLaws Go.Proofs.Ytiladcdogbeomaa.Lazy
attribute [local go_sem] Oper.semAt_some
set_option maxRecDepth 100000 in
set_option maxHeartbeats 4000000 in
theorem Bld_String (B b : Nat) (l : List UInt8) (p0 v0 : Value) (w : World) (h : Lib.IsBuilder 106 5 B b (Lib.byteCells l) w) (hv0 : w.heap[b]? = some (.cells #[p0, v0] 106 (0, 0))) (h0 : l ≠ []) :
    Calls Try.prog 60 #[.pointer (some ⟨b, 0, none⟩)] w fun e w' => e = .returned (.string ⟨l.toArray⟩) ∧ Below B w w' ∧ Kept w w' (fun k => some k = v0.ownBlock) := by
  obtain ⟨p, hB, v, hbk, hown, hne⟩ : ∃ p, Lib.BuilderAt 106 5 B b p (Lib.byteCells l) w := by
    rcases h with h | h
    · exact ⟨_, h⟩
    · exact ⟨_, h⟩
  have ev : v = v0 := by rw [hbk] at hv0; injection hv0 with hv0; injection hv0 with hv0; have := congrArg (fun a : Array Value => a.toList) hv0; simpa using (List.cons.inj (List.cons.inj this).2).1
  subst ev
  have hl0 : l.length ≠ 0 := by simpa using h0
  rw [Lib.byteCells_length] at hown
  obtain ⟨g, cap, cur, rfl, hbg, hg, hnc, hcm, hcs, htake⟩ : ∃ g cap cur, v = .slice (some ⟨g, 0, none⟩) l.length cap ∧ B ≤ g ∧ w.heap[g]? = some (.cells cur 5 (0, 0)) ∧ l.length ≤ cap ∧ cap ≤ maxLen ∧ cur.size = cap * 1 ∧ cur.toList.take (l.length * 1) = Lib.byteCells l := by
    rcases hown.2 with ⟨_, hz⟩ | ⟨g, cap, cur, hv, r⟩
    · exact absurd hz hl0
    · exact ⟨g, cap, cur, hv, r⟩
  have c1 : w.drew.cell? ⟨b, 1, none⟩ = some (.slice (some ⟨g, 0, none⟩) l.length cap) := by
    have : w.drew.heap[b]? = some (.cells #[p, .slice (some ⟨g, 0, none⟩) l.length cap] 106 (0, 0)) := hbk
    rw [Lib.cell_of_heap this]; rfl
  have hSD : (Builtin.unsafeSliceData_ #[23] 139 #[.slice (some ⟨g, 0, none⟩) l.length cap]).run Try.prog w.drew = .ok (.pointer (some ⟨g, 0, none⟩)) w.drew :=
    Lib.run_unsafeSliceData_row _ _ _ _ _ _ (by omega)
  have hUS : (Builtin.unsafeString_ #[139, 3] 9 #[.pointer (some ⟨g, 0, none⟩), .int .i64 l.length]).run Try.prog w.drew = .ok (.string ⟨l.toArray⟩) (w.drew.freeze ⟨g, 0, none⟩ l.length) := by
    refine Lib.run_unsafeString_row w.drew 139 3 9 5 Try.underlying139 (by kernel_rfl) g cur.size (by have hg' : w.drew.heap[g]? = some (.cells cur 5 (0, 0)) := hg; simp [World.shape?, hg']) l h0 (by omega) (by unfold maxLen at hcm; omega) ?_
    intro j x hx
    have := hown.cells (g := g) rfl j (.int .u8 x.toNat) (by simp [Lib.byteCells, hx])
    exact this
  have hk : Kept w (w.drew.freeze ⟨g, 0, none⟩ l.length) (fun k => some k = (Value.slice (some ⟨g, 0, none⟩) l.length cap).ownBlock) := by
    have h2 : ∀ W : World, Kept W (W.freeze ⟨g, 0, none⟩ l.length) (fun k => k = g) := by
      intro W
      unfold World.freeze
      split
      · exact Kept.refl _ _
      · refine ⟨?_, fun k hk hn => ?_⟩
        · simp only [Array.size_modify]; exact Nat.le_refl _
        · simp only [Array.getElem?_modify]
          rw [if_neg (fun e => hn e.symm)]
    exact (h2 w.drew).mono (fun k hk => by subst hk; rfl)
  have mixed : Try.prog.follows .mixedOrders = true := by kernel_rfl
  go_enter Try.func60, Try.ntmps60
  go_wp2
  go_region_o
  all_goals (go_wp2; go_ret; exact ⟨rfl, Lib.below_freeze (Below.drew (Below.refl B w)) (p := ⟨g, 0, none⟩) hbg _, hk⟩)
end Go.Proofs.Ytiladcdogbeomaa.QRangesPlays
