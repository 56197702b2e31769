/- Law 24 (outbox): contracts of functions that its statements reach, and plain laws behind them (part 4). No condition. -/
import Derived.Test.YtiladcdogbeomaaUc
import Derived.Test.YtiladcdogbeomaaWWords
import Derived.Deep.Slices
import Derived.ChangeArms
import Derived.OpenShut
import Derived.DataReads
import Derived.WideShapes
namespace Go.Proofs.Ytiladcdogbeomaa.Lazy
open Go
section
variable {P : Program} {Q : Exit → Act → World → Prop} {ops : List Oper} {tab : List (Option Nat)} {t0 : List Value} {d0 : List Deferred}
theorem lazy_still {L : Nat → Bool} {σ : Nat → Value} {s j : Nat} {x : Value} (hx : t0[s]? = some x) (h : tab[s]? = some (some j)) (hL : L j = false) : (lazyA L σ t0 tab d0).eval (.tmp s) = x := by
  have : (lazyT L σ t0 tab)[s]? = some x := by
    unfold lazyT
    rw [List.getElem?_zipWith, h, hx]
    simp [hL]
  simp [Act.eval, lazyA, this]
end
end Go.Proofs.Ytiladcdogbeomaa.Lazy
namespace Go.Proofs.Ytiladcdogbeomaa.QRangesPlays
open Go.RowKit Go.Shelf Go.Proofs.YtiladcdogbeomaaW.PrintWords Go.Proofs.YtiladcdogbeomaaW.PrintLast Go.Proofs.YtiladcdogbeomaaW.PrintMore Go.Proofs.Ytiladcdogbeomaa.RowLaws Go.Proofs.Ytiladcdogbeomaa.Lazy
attribute [local go_sem] Oper.semAt_some
theorem w64i {x : Int} (h : -9223372036854775808 ≤ x ∧ x < 9223372036854775808) : wrap64 x = x := by unfold wrap64; omega
theorem OwnS.reads' {W : World} {B : Nat} {A : Option Addr} {n c : Nat} {xs : List S95} (h : OwnS W B (.slice A n c) xs) : n ≤ c ∧ Kd.C k95 W A n xs := by
  obtain ⟨A2, c2, e, h1, h2⟩ := h.reads
  cases e
  exact ⟨h1, h2⟩
theorem Only.belowN {g B : Nat} {a W W' : World} (h : Below B a W) (ho : Only g W W') (hg : B ≤ g) (hB : B ≤ W.heap.size) : Below B a W' :=
  ⟨ho.os.trans h.os, ho.tape.trans h.tape, ho.output.trans h.output, Nat.le_trans h.size ho.size, fun k hk => (ho.block k (Nat.lt_of_lt_of_le hk hB) (by intro e; injection e; omega)).trans (h.block k hk)⟩
def Mk_ (n : Nat) : Prop := n = n
theorem OwnS.only {W W' : World} {B g : Nat} {v : Value} {xs : List S95} (h : OwnS W B v xs) (ho : Only g W W') (hg : g < B) : OwnS W' B v xs :=
  own_move h (fun k hk => ho.block k (h.lt hk).2 (by have := (h.lt hk).1; intro e; injection e; omega))
theorem info5g : (Try.prog.info? 5).map (fun i => (i.zero, i.size, i.bytes)) = some (some (.int .u8 0), 1, 1) := by kernel_rfl
theorem cells_set {W : World} {g i : Nat} {cs : Array Value} {t : TypeId} (u : Value) (h : W.heap[g]? = some (.cells cs t (0, 0))) : (W.setCell ⟨g, i, none⟩ u).heap[g]? = some (.cells (cs.setIfInBounds i u) t (0, 0)) := by
  have hlt := lt_of_block h
  have hg : W.heap[g] = .cells cs t (0, 0) := by rw [Array.getElem?_eq_getElem hlt] at h; exact Option.some.inj h
  unfold World.setCell
  simp [hlt, Array.getElem_modify, hg]
def PairRow (W : World) (A : Option Addr) (xs : List (Int × Int)) : Prop :=
  ∀ i (h : i < xs.length), ∃ b o, A = some ⟨b, o, none⟩ ∧ W.cell? ⟨b, o + i * 2, none⟩ = some (.int .u16 xs[i].1) ∧ W.cell? ⟨b, o + i * 2 + 1, none⟩ = some (.int .u16 xs[i].2)
def PairsOk (xs : List (Int × Int)) : Prop := ∀ x ∈ xs, (0 ≤ x.1 ∧ x.1 < 65536) ∧ (0 ≤ x.2 ∧ x.2 < 65536)
set_option maxHeartbeats 4000000 in
theorem New_calls (w : World) : Calls Try.prog 36 #[] w fun e w' => ∃ g, e = .returned (.pointer (some ⟨g, 0, none⟩)) ∧ SetAt w' g [] ∧ Below w.heap.size w w' ∧ g = w.heap.size := by
  go_enter Try.func36, Try.ntmps36
  go_wp2
  go_ret
  exact ⟨_, rfl, ⟨.slice none 0 0, Boxed.new w 121 _, .inl ⟨rfl, rfl⟩⟩, below_alloc (Below.refl _ _) _, rfl⟩
end Go.Proofs.Ytiladcdogbeomaa.QRangesPlays

namespace Go.Proofs.Ytiladcdogbeomaa.QRangesPlays
open Go.RowKit Go.Proofs.YtiladcdogbeomaaW.PrintWords
open Iter
theorem cnt_bnd {lo : Int} : ∀ {l : List S95}, wf lo l → 0 ≤ lo → 0 ≤ cnt l ∧ (l ≠ [] → cnt l ≤ 1099511627777 - lo)
  | [], _, _ => ⟨by simp [cnt], fun h => absurd rfl h⟩
  | x :: r, ⟨h1, h2, h3, h4⟩, h0 => by
    have := cnt_bnd h4 (by omega)
    rw [cnt_cons]
    refine ⟨by omega, fun _ => ?_⟩
    by_cases hr : r = []
    · subst hr; simp only [cnt]; omega
    · have := this.2 hr; omega
theorem cntF_go : ∀ (l : List S95) (a lo : Int), wf lo l → 0 ≤ lo → 0 ≤ a → a ≤ 1099511627777 → l.foldl (fun n x => wrap64 (n + cntOne x)) a = a + cnt l
  | [], a, _, _, _, _, _ => by simp [cnt]
  | x :: r, a, lo, h, h0, ha, ha2 => by
    have hb := cnt_bnd h h0
    obtain ⟨h1, h2, h3, h4⟩ := h
    have hc := cnt_bnd h4 (by omega)
    have e1 : cntOne x = x.f1 - x.f0 + 1 := by
      unfold cntOne
      rw [show wrap64 (x.f1 - x.f0) = x.f1 - x.f0 from w64i (by omega)]; exact w64i (by omega)
    rw [List.foldl_cons, e1, w64i (by omega), cnt_cons]
    have key : ∀ (l : List S95) (a lo : Int), wf lo l → 0 ≤ lo → 0 ≤ a → a + cnt l ≤ 4611686018427387904 → l.foldl (fun n x => wrap64 (n + cntOne x)) a = a + cnt l := by
      intro l
      induction l with
      | nil => intro a _ _ _ _ _; simp [cnt]
      | cons y s ih =>
        intro a lo ⟨g1, g2, g3, g4⟩ g0 ga gb
        have hc := cnt_bnd g4 (by omega)
        rw [cnt_cons] at gb
        have e1 : cntOne y = y.f1 - y.f0 + 1 := by
          unfold cntOne
          rw [show wrap64 (y.f1 - y.f0) = y.f1 - y.f0 from w64i (by omega)]; exact w64i (by omega)
        rw [List.foldl_cons, e1, w64i (by omega), cnt_cons, ih _ (y.f1 + 2) g4 (by omega) (by omega) (by omega)]
        omega
    have hb2 := hb.2 (by simp)
    rw [cnt_cons] at hb2
    rw [key r _ (x.f1 + 2) h4 (by omega) (by omega) (by omega)]
    omega
theorem cntF_eq {l : List S95} (h : wf 0 l) : cntF l = cnt l := by
  unfold cntF
  rw [cntF_go l 0 0 h (by omega) (by omega) (by omega)]; omega
theorem foldrem {lo : Int} : ∀ (l s : List S95), wf lo s → (∀ x ∈ l, x.f0 ≤ x.f1) → wf lo (l.foldl (fun s x => rem x.f0 x.f1 s) s) ∧ ∀ n, (has (l.foldl (fun s x => rem x.f0 x.f1 s) s) n ↔ has s n ∧ ¬ has l n)
  | [], s, h, _ => ⟨h, fun n => by simp [has]⟩
  | x :: r, s, h, hx => by
    have h1 := hx x (by simp)
    obtain ⟨a, b⟩ := foldrem r (rem x.f0 x.f1 s) (wf_rem h1 h) (fun y hy => hx y (by simp [hy]))
    refine ⟨a, fun n => ?_⟩
    rw [List.foldl_cons, b n, has_rem h1 n h, has_cons]
    constructor
    · rintro ⟨⟨p, q⟩, r⟩; exact ⟨p, by rintro (h | h); exact q h; exact r h⟩
    · rintro ⟨p, q⟩; exact ⟨⟨p, fun h => q (.inl h)⟩, fun h => q (.inr h)⟩
theorem gps_all {f t : Int} {l : List S95} (h0 : 0 ≤ f) (hft : f ≤ t) (ht : t ≤ 1099511627776) (hw : wf 0 l) : wf f (gps f t f l) ∧ ∀ n, (has (gps f t f l) n ↔ (f ≤ n ∧ n ≤ t) ∧ ¬ has l n) := by
  have h := gps_rem (f := f) (t := t) (l := l) (o := []) (lo := 0) (c := f) hw (Int.le_refl _) (by simp) (.inl rfl) (by simp)
  rw [if_pos hft, List.nil_append, List.nil_append] at h
  have := foldrem (lo := f) l [⟨f, t⟩] ⟨Int.le_refl _, hft, ht, trivial⟩ (fun x hx => (wf_mem hw x hx).2.1)
  rw [h] at this
  refine ⟨this.1, fun n => ?_⟩
  rw [this.2 n]
  simp [has]
theorem take_lt {lo : Int} : ∀ {l : List S95}, wf lo l → ∀ k (hk : k < l.length) n, has (l.take k) n → n < l[k].f0
  | [], _, k, hk, _, _ => by simp at hk
  | x :: r, _, 0, _, _, h => by simp [has] at h
  | x :: r, ⟨h1, h2, h3, h4⟩, k + 1, hk, n, h => by
    rw [List.take_succ_cons, has_cons] at h
    simp only [List.getElem_cons_succ]
    rcases h with h | h
    · have := (wf_mem h4 (r[k]'(by simpa using hk)) (List.getElem_mem _)).1; omega
    · exact take_lt h4 k (by simpa using hk) n h
theorem any_has {l : List S95} {m : Int} : (l.map pr).any (tch m m) = true ↔ has l m := by
  rw [List.any_eq_true]
  constructor
  · rintro ⟨z, hz, ht⟩
    obtain ⟨x, hx, rfl⟩ := List.mem_map.1 hz
    rw [tch_pr] at ht
    simp only [Bool.and_eq_true, decide_eq_true_eq] at ht
    exact ⟨x, hx, ht.2, ht.1⟩
  · rintro ⟨x, hx, h1, h2⟩
    exact ⟨pr x, List.mem_map.2 ⟨x, hx, rfl⟩, by rw [tch_pr]; simp [h1, h2]⟩
/-- A gap that is put into a set that holds none of its numbers: nothing to remove, something new. -/
theorem put_gap {f t : Int} {l : List S95} (h0 : 0 ≤ f) (hft : f ≤ t) (ht : t ≤ 1099511627776) (hw : wf 0 l) (hn : ∀ n, f ≤ n → n ≤ t → ¬ has l n) :
    remL f t l = l ∧ addL f t l = ins f t l ∧ wf 0 (ins f t l) ∧ decide (cntF l < cntF (addL f t l)) = true ∧ wrap64 (cntF l - cntF (remL f t l)) = 0 := by
  have hm : may f t = true := by unfold may; simp [h0, hft, ht]
  have e1 : remL f t l = l := by unfold remL; rw [if_pos hm]; exact rem_none hft hw hn
  have e2 : addL f t l = ins f t l := by unfold addL; rw [if_pos hm]
  have hi := wf_ins h0 hft ht hw
  refine ⟨e1, e2, hi, ?_, by rw [e1, Int.sub_self]; exact w64i (by omega)⟩
  rw [e2, cntF_eq hw, cntF_eq hi, cnt_ins hw hft, ov_none hft hw hn]
  simp only [decide_eq_true_eq]; omega
theorem gapsL_nil {f t : Int} {l : List S95} (h0 : 0 ≤ f) (hft : f ≤ t) (ht : t ≤ 1099511627776) (hw : wf 0 l) (ha : ∀ n, f ≤ n → n ≤ t → has l n) : gapsL f t l = [] := by
  unfold gapsL
  split
  · obtain ⟨h1, h2⟩ := gps_all h0 hft ht hw
    cases hg : gps f t f l with
    | nil => rfl
    | cons x r =>
      rw [hg] at h1 h2
      have hx := wf_mem h1 x (by simp)
      have := (h2 x.f0).1 ⟨x, by simp, Int.le_refl _, hx.2.1⟩
      exact absurd (ha _ this.1.1 this.1.2) this.2
  · rfl
end Go.Proofs.Ytiladcdogbeomaa.QRangesPlays

namespace Go.Proofs.Ytiladcdogbeomaa.QRangesPlays
open Go.RowKit Go.Shelf Go.Proofs.YtiladcdogbeomaaW.PrintWords Go.Proofs.YtiladcdogbeomaaW.PrintLast Go.Proofs.YtiladcdogbeomaaW.PrintMore Go.Proofs.Ytiladcdogbeomaa.RowLaws Go.Proofs.Ytiladcdogbeomaa.Lazy
theorem Row.far {W W' : World} {sv : Value} {l : List S95} {S : Nat → Prop} (h : Row W sv l) (hk : Kept W W' S) (hS : ∀ q, S q → ∀ i, W.cell? ⟨q, 0, none⟩ ≠ some (.int .i64 i)) : Row W' sv l := by
  rcases h with h | ⟨b0, c0, rfl, r2, r3, r4⟩
  · exact .inl h
  · refine .inr ⟨b0, c0, rfl, ?_, r3, Nat.lt_of_lt_of_le r4 hk.1⟩
    refine ⟨r2.1, r2.2.1, fun hn => ?_⟩
    obtain ⟨bk, o, hA, z0, _⟩ := row_at r2 0 (by have := r2.1; omega)
    cases hA
    have hne : ¬ S b0 := fun e => hS b0 e _ (by simpa using z0)
    refine ⟨_, rfl, ?_⟩
    intro j p hj
    obtain ⟨ad, hA, hcc⟩ := r2.2.2 hn
    injection hA with hA
    subst hA
    obtain ⟨cs, c1, c2, c3⟩ := hcc j p hj
    refine ⟨cs, c1, c2, fun q u' hu => ?_⟩
    have hcell := c3 q u' hu
    rw [add_off] at hcell ⊢
    exact (World.cell?_of_block (hk.2 b0 (World.block_lt_of_cell? _ _ hcell) hne)).trans hcell
theorem SetAt.far {W W' : World} {gs : Nat} {l : List S95} {S : Nat → Prop} (h : SetAt W gs l) (hk : Kept W W' S) (hS : ∀ q, S q → ∀ i, W.cell? ⟨q, 0, none⟩ ≠ some (.int .i64 i)) (hg : ¬ S gs) : SetAt W' gs l := by
  have hlt := h.lt
  obtain ⟨sv, s1, s2⟩ := h
  exact ⟨sv, (hk.2 gs hlt hg).trans s1, s2.far hk hS⟩
end Go.Proofs.Ytiladcdogbeomaa.QRangesPlays

namespace Go.Proofs.Ytiladcdogbeomaa.Lazy
open Go
section
variable {P : Program} {Q : Exit → Act → World → Prop} {ops : List Oper} {tab : List (Option Nat)} {t0 : List Value} {d0 : List Deferred}
theorem wpAny_out {I : (Nat → Bool) → (Nat → Value) → World → Prop} (out : Nat → Bool) (hG : fitsG ops tab = true) (hl : t0.length = tab.length)
    (hg : ∀ (i : Nat) (o : Oper), ops[i]? = some o → (∀ j b, o.guard = some (j, b) → ∀ L σ W, I L σ W → L j = true → σ j = .bool (if out i then !b else b)) ∧ (o.guard = none → out i = false))
    (hstep : ∀ (i : Nat) (o : Oper), ops[i]? = some o → out i = false → ∀ L σ W, L i = false → (∀ e ∈ o.after, Region.binds .any e = true → L e.on = true) → I L σ W → Op1 P o (lazyA L σ t0 tab d0).eval W (fun v W' => I (updL L i) (updS σ i v) W'))
    (hskip : ∀ (i : Nat) (o : Oper), ops[i]? = some o → out i = true → ∀ L σ W, L i = false → (∀ e ∈ o.after, Region.binds .any e = true → L e.on = true) → I L σ W → I (updL L i) (updS σ i undef) W)
    (hdone : ∀ L σ W, (∀ j, j < ops.length → L j = true) → I L σ W → Q .normal (lazyA L σ t0 tab d0) W) :
    ∀ (fuel : Nat) (listed : Array Bool) (σ : Nat → Value) (W : World), listed.size = ops.length → falses listed ≤ fuel → I (toL listed) σ W → wpAny P .any ops.toArray Q fuel listed (lazyA (toL listed) σ t0 tab d0) W := by
  have hf := fits_of (fits_bare hG)
  have hlen : (bare ops).length = ops.length := by unfold bare; simp
  have hal : ∀ {listed : Array Bool}, listed.size = ops.length → Region.ready .any ops.toArray listed = [] → ∀ j, j < ops.length → toL listed j = true := by
    intro listed hs hr j hj
    exact all_listed hf (by rw [hlen]; exact hs) (ready_bare hr) j (by rw [hlen]; exact hj)
  intro fuel
  induction fuel with
  | zero =>
    intro listed σ W hs hn hI
    have hr : Region.ready .any ops.toArray listed = [] := by
      cases hr : Region.ready .any ops.toArray listed with
      | nil => rfl
      | cons x xs =>
        have hx : x ∈ Region.ready .any ops.toArray listed := by rw [hr]; exact List.mem_cons_self ..
        have := falses_set (mem_ready.1 hx).1
        omega
    exact ⟨hr, hdone _ _ _ (hal hs hr) hI⟩
  | succ fuel ih =>
    intro listed σ W hs hn hI
    refine ⟨fun hr => hdone _ _ _ (hal hs hr) hI, ?_⟩
    intro i hi
    obtain ⟨h0, o, ho, hall⟩ := mem_ready.1 hi
    have ho' : ops[i]? = some o := by simpa using ho
    have hob : (bare ops)[i]? = some { o with guard := none } := by rw [bare_get, ho']; rfl
    have hlt : i < listed.size := by rw [hs]; exact (List.getElem?_eq_some_iff.1 ho').1
    have hLi : toL listed i = false := by
      unfold toL
      simp [hlt] at h0 ⊢; exact h0
    have hput : ∀ v W', I (updL (toL listed) i) (updS σ i v) W' → wpAny P .any ops.toArray Q fuel (listed.setIfInBounds i true) ((lazyA (toL listed) σ t0 tab d0).put o.dst v) W' := by
      intro v W' hI'
      have hp := put_lazy (L := toL listed) (σ := σ) (t0 := t0) (d0 := d0) hf hl hob v
      simp only at hp
      rw [hp, ← toL_set hlt]
      exact ih _ _ _ (by simpa using hs) (by have := falses_set h0; omega) (by rw [toL_set hlt]; exact hI')
    obtain ⟨hg1, hg2⟩ := hg i o ho'
    have hw : Region.wanted o (yielded ops.toArray (lazyA (toL listed) σ t0 tab d0).tmps) = !(out i) := by
      unfold Region.wanted
      cases hgd : o.guard with
      | none => rw [hg2 hgd]; rfl
      | some jb =>
        obtain ⟨j, b⟩ := jb
        obtain ⟨⟨e, he, hb, hej⟩, d, hd⟩ := fitsG_gd hG ho' hgd
        have hLj : toL listed j = true := by rw [← hej]; exact hall e he hb
        have hv := hg1 j b hgd _ _ _ hI hLj
        have htab : tab[d]? = some (some j) := by
          cases hoj : ops[j]? with
          | none => rw [hoj] at hd; cases hd
          | some oj =>
            rw [hoj] at hd
            exact hf.dst j { oj with guard := none } d (by rw [bare_get, hoj]; rfl) hd
        have hget := lazyT_get (σ := σ) hl htab hLj
        simp only [yielded, List.getElem?_toArray, hd, Option.bind_some, lazyA, hget, hv]
        cases out i <;> cases b <;> rfl
    unfold wpOp
    rw [ho]
    simp only
    rw [hw]
    by_cases hout : out i = true
    · rw [hout]
      exact hput undef W (hskip i o ho' hout _ _ _ hLi hall hI)
    · rw [Bool.eq_false_iff.2 hout]
      exact .inl ((hstep i o ho' (Bool.eq_false_iff.2 hout) _ _ _ hLi hall hI).wp (fun v W' hI' => hput v W' hI'))
/-- The law: R tells what an operation turns, J what has come of the world, Val what an operation's value is; 'out' says which operations are left out. -/
theorem wp_region_valsO {id : Nat} {w : World} (hm : P.follows .mixedOrders = true) (tab : List (Option Nat)) (hG : fitsG ops tab = true) (hl : t0.length = tab.length) (out : Nat → Bool)
    (R : Nat → World → World → Prop) (J : (Nat → Bool) → World → Prop) (Val : Nat → Value → World → Prop) (hJ : J (fun _ => false) w.drew)
    (hst : ∀ (L : Nat → Bool) (i j : Nat) (v : Value) (W W' : World), L i = false → L j = true → j ≠ i → (∀ j d, (((ops[j]?).map fun o => o.after.toList.any fun e => e.on == d && Region.binds .any e) == some true) = true → L j = true → L d = true) → R i W W' → Val j v W → Val j v W')
    (hg : AllFrom (fun i o => (∀ j b, o.guard = some (j, b) → ∀ v W, Val j v W → v = .bool (if out i then !b else b)) ∧ (o.guard = none → out i = false)) 0 ops)
    (hstep : AllFrom (fun i o => out i = false → ∀ L ρ W, L i = false → (∀ j d, (((ops[j]?).map fun o => o.after.toList.any fun e => e.on == d && Region.binds .any e) == some true) = true → L j = true → L d = true) → (∀ s j x, tab[s]? = some (some j) → L j = false → t0[s]? = some x → ρ (.tmp s) = x) → J L W → Told Val tab t0 o ρ W → Op1 P o ρ W (fun v W' => R i W W' ∧ J (updL L i) W' ∧ Val i v W')) 0 ops)
    (hskip : ∀ i, out i = true → ∀ L W, L i = false → J L W → J (updL L i) W ∧ Val i undef W)
    (hdone : ∀ σ L W, (∀ j, j < ops.length → L j = true) → J L W → (∀ j, j < ops.length → Val j (σ j) W) → Q .normal (lazyA (fun _ => true) σ t0 tab d0) W) :
    (Code.region id ops.toArray true).wp P Q { tmps := t0.toArray, defers := d0 } w := by
  have hF := fits_of (fits_bare hG)
  have hlen : (bare ops).length = ops.length := by unfold bare; simp
  refine wp_region_any hm ?_
  rw [← lazy_start (d0 := d0) hF (fun _ => undef) hl, ← toL_none ops.toArray.size]
  have hclo : ∀ {i : Nat} {o : Oper} {L : Nat → Bool}, ops[i]? = some o → (∀ e ∈ o.after, Region.binds .any e = true → L e.on = true) → (∀ j d, (((ops[j]?).map fun o => o.after.toList.any fun e => e.on == d && Region.binds .any e) == some true) = true → L j = true → L d = true) →
      ∀ j d, (((ops[j]?).map fun o => o.after.toList.any fun e => e.on == d && Region.binds .any e) == some true) = true → updL L i j = true → updL L i d = true := by
    intro i o L ho hall hc j d hjd hj
    by_cases e : j = i
    · subst e
      rw [ho] at hjd
      simp only [Option.map_some, beq_iff_eq, Option.some.injEq] at hjd
      obtain ⟨e, he, hb⟩ := List.any_eq_true.1 hjd
      simp only [Bool.and_eq_true, beq_iff_eq] at hb
      exact upd_keep _ (by rw [← hb.1]; exact hall e (by simpa using he) hb.2)
    · exact upd_keep _ (hc j d hjd (upd_other hj e))
  refine wpAny_out (I := fun L σ W => (∀ j d, (((ops[j]?).map fun o => o.after.toList.any fun e => e.on == d && Region.binds .any e) == some true) = true → L j = true → L d = true) ∧ J L W ∧ ∀ j, L j = true → Val j (σ j) W) out hG hl (fun i o ho => ?_) (fun i o ho hout L σ W hLi hall hI => ?_) (fun i o ho hout L σ W hLi hall hI => ?_) (fun L σ W hL hI => ?_) _ _ _ _ (by simp) (falses_none _) (by rw [toL_none]; exact ⟨fun j d _ hj => (by cases hj), hJ, fun j hj => (by cases hj)⟩)
  · have := allFrom_get hg i o ho
    rw [Nat.zero_add] at this
    exact ⟨fun j b hgd L σ W hI hL => this.1 j b hgd _ W (hI.2.2 j hL), this.2⟩
  · have := allFrom_get hstep i o ho
    rw [Nat.zero_add] at this
    refine Op1.mono (this hout L _ W hLi hI.1 (fun s j x h1 h2 h3 => lazy_still h3 h1 h2) hI.2.1 ⟨fun s j hs ha => ?_, fun s x hx hs => lazy_old hx hs, fun v => rfl, fun f => rfl⟩) ?_
    · obtain ⟨e, he, hb⟩ := List.any_eq_true.1 ha
      simp only [Bool.and_eq_true, beq_iff_eq] at hb
      have hLj : L j = true := by rw [← hb.1]; exact hall e (by simpa using he) hb.2
      rw [lazy_eval hl hs hLj]
      exact hI.2.2 j hLj
    · rintro v W' ⟨h1, h2, h3⟩
      refine ⟨hclo ho hall hI.1, h2, fun j hj => ?_⟩
      by_cases e : j = i
      · subst e; simpa [updS] using h3
      · simp only [updS, if_neg e]
        exact hst L i j _ _ _ hLi (upd_other hj e) e hI.1 h1 (hI.2.2 j (upd_other hj e))
  · obtain ⟨h2, h3⟩ := hskip i hout L W hLi hI.2.1
    refine ⟨hclo ho hall hI.1, h2, fun j hj => ?_⟩
    by_cases e : j = i
    · subst e; simpa [updS] using h3
    · simp only [updS, if_neg e]
      exact hI.2.2 j (upd_other hj e)
  · have e : lazyA L σ t0 tab d0 = lazyA (fun _ => true) σ t0 tab d0 := by
      unfold lazyA
      rw [lazyT_congr (fun j hj => hL j (by have := hF.rg j hj; omega))]
    rw [e]
    exact hdone σ L W hL hI.2.1 (fun j hj => hI.2.2 j (hL j hj))
end
end Go.Proofs.Ytiladcdogbeomaa.Lazy

set_option linter.unusedVariables false
namespace Go.Proofs.Ytiladcdogbeomaa.Opens
open Go.RowKit Go.ChangeShapes Go.WideShapes Go.Proofs.YtiladcdogbeomaaW.PrintWords

/-- Whatever reads as a datum of type t holds a value of kind k for which ok holds. -/
def Opens {α : Type} (P : Program) (t : TypeId) (k : Kd α) (ok : α → Prop) : Prop :=
  ∀ (H : Type) (enc : TypeId × Value → H) (W : World) (base : Nat) (spare : Nat → Bool) (held : Bool) (fuel : Nat) (cs : List Value) (x : DataW H × List MemPlace),
    DataW.trod enc P W base spare held fuel t cs = some x → ∃ y : α, k.K W y cs ∧ ok y

theorem opens_int {P : Program} {t : TypeId} {k : IntKind} (ht : P.underlying t = some (.int k)) : Opens P t (Kd.int k) (fun n => (Lit.int k n).wf = true) := by
  intro H enc W base spare held fuel cs x h
  obtain ⟨n, rfl, _, hw⟩ := DataW.trod_int ht h
  exact ⟨n, rfl, hw⟩

theorem opens_bool {P : Program} {t : TypeId} (ht : P.underlying t = some .bool) : Opens P t Kd.bool (fun _ => True) := by
  intro H enc W base spare held fuel cs x h
  obtain ⟨n, rfl, _⟩ := DataW.trod_bool ht h
  exact ⟨n, rfl, trivial⟩

theorem opens_string {P : Program} {t : TypeId} (ht : P.underlying t = some .string) : Opens P t Kd.string (fun s => s.size ≤ 9223372036854775807) := by
  intro H enc W base spare held fuel cs x h
  obtain ⟨s, rfl, _, hs⟩ := DataW.trod_string ht h
  exact ⟨s, rfl, hs⟩

theorem cells_get {W : World} {base : Nat} {a : Addr} {n : Nat} {cs : List Value} (h : W.cells? base a n = some cs) : cs.length = n ∧ ∀ i u, cs[i]? = some u → W.cell? (a.add i) = some u := by
  unfold World.cells? at h
  split at h
  · have hl := mapM_some_length h
    simp at hl
    refine ⟨hl, fun i u hi => ?_⟩
    have hlt : i < n := by
      have := (List.getElem?_eq_some_iff.1 hi).1
      omega
    have := mapM_some_get h i i (by simp [hlt])
    rw [this]; exact hi
  · cases h

theorem opens_slice {α : Type} {P : Program} {t e : TypeId} {k : Kd α} {ok : α → Prop} (ht : P.underlying t = some (.slice e)) (hk : P.cellsOf e = k.sz) (he : Opens P e k ok) [Inhabited α] :
    Opens P t (Kd.slice e k) (fun xs => xs.length ≤ 9223372036854775807 ∧ ∀ x ∈ xs, ok x) := by
  intro H enc W base spare held fuel cs x h
  rcases Deep.open_slice ht h with ⟨rfl, _⟩ | ⟨a, len, cap, m, n, D, Pl, rfl, hb, hl, hm, hmm, _, hel⟩
  · refine ⟨[], ⟨none, 0, rfl, by simp, ?_⟩, by simp, by simp⟩
    exact ⟨rfl, by simp, fun h => absurd h (by simp)⟩
  · have hlm : len ≤ m := by rw [hmm]; split <;> omega
    obtain ⟨f, hf⟩ := Deep.choose_lt (α := α) (n := len) (p := fun i y => ∃ c, W.cells? base (a.add (i * P.cellsOf e)) (P.cellsOf e) = some c ∧ k.K W y c ∧ ok y) (fun i hi => by
      obtain ⟨c, hc, ht'⟩ := hel i (by omega)
      obtain ⟨y, hy, oy⟩ := he H enc W base spare held _ _ _ ht'
      exact ⟨y, c, hc, hy, oy⟩)
    have hlen : ((List.range len).map f).length = len := by simp
    have hcap : cap ≤ 9223372036854775807 := by have := hm; unfold maxLen at this; omega
    refine ⟨(List.range len).map f, ⟨some a, cap, by rw [hlen], by rw [hlen]; exact hl, ?_⟩, by rw [hlen]; omega, ?_⟩
    · refine ⟨rfl, by rw [hlen]; omega, fun _ => ⟨a, rfl, fun j p hp => ?_⟩⟩
      have hj : j < len := by have := (List.getElem?_eq_some_iff.1 hp).1; rw [hlen] at this; exact this
      have hp' : f j = p := by simpa [hj] using hp
      obtain ⟨c, hc, hy, _⟩ := hf j hj
      obtain ⟨hcl, hcg⟩ := cells_get hc
      refine ⟨c, by rw [hcl, hk], by rw [← hp']; exact hy, fun i u hu => ?_⟩
      have := hcg i u hu
      rwa [Deep.add_add, hk] at this
    · intro x hx
      obtain ⟨i, hi, rfl⟩ := List.mem_map.1 hx
      obtain ⟨_, _, _, oy⟩ := hf i (by simpa using hi)
      exact oy

/-- The parts of a struct or an array, from one on: their types and places. -/
def OpensAt {α : Type} (P : Program) (fs : List (TypeId × Nat)) (total off : Nat) (k : Kd α) (ok : α → Prop) : Prop :=
  ∀ (H : Type) (enc : TypeId × Value → H) (W : World) (base : Nat) (spare : Nat → Bool) (held : Bool) (fuel : Nat) (cs : List Value), cs.length = total →
    (∀ f ∈ fs, ∃ x, DataW.trod enc P W base spare held fuel f.1 ((cs.drop f.2).take (P.cellsOf f.1)) = some x) → ∃ y : α, k.K W y (cs.drop off) ∧ ok y

theorem at_last {α : Type} {P : Program} {t : TypeId} {total off : Nat} {k : Kd α} {ok : α → Prop} (h : Opens P t k ok) (hs : total = off + P.cellsOf t) : OpensAt P [(t, off)] total off k ok := by
  intro H enc W base spare held fuel cs hl hf
  obtain ⟨x, hx⟩ := hf _ (List.mem_singleton.2 rfl)
  rw [List.take_of_length_le (by rw [List.length_drop]; dsimp only; omega)] at hx
  exact h H enc W base spare held fuel _ x hx

theorem at_cons {α β : Type} {P : Program} {t : TypeId} {fs : List (TypeId × Nat)} {total off off' : Nat} {k : Kd α} {k' : Kd β} {ok : α → Prop} {ok' : β → Prop} (h : Opens P t k ok) (hr : OpensAt P fs total off' k' ok') (hs : off' = off + P.cellsOf t) :
    OpensAt P ((t, off) :: fs) total off (Kd.pair k k') (fun y => ok y.1 ∧ ok' y.2) := by
  intro H enc W base spare held fuel cs hl hf
  obtain ⟨x, hx⟩ := hf _ List.mem_cons_self
  obtain ⟨y, hy, oy⟩ := h H enc W base spare held fuel _ x hx
  obtain ⟨z, hz, oz⟩ := hr H enc W base spare held fuel cs hl (fun f hm => hf f (List.mem_cons_of_mem _ hm))
  refine ⟨(y, z), ⟨_, _, ?_, hy, hz⟩, oy, oz⟩
  rw [hs, ← List.drop_drop, List.take_append_drop]

theorem opens_struct {α β : Type} {P : Program} {t : TypeId} {fs : Array Field} {ps : List (TypeId × Nat)} {k : Kd α} {ok : α → Prop} (f : β → α) (g : α → β) (hg : ∀ a, f (g a) = a) (ht : P.underlying t = some (.struct fs))
    (hps : fs.toList.map (fun f => (f.type, f.offset)) = ps) (h : OpensAt P ps (P.cellsOf t) 0 k ok) : Opens P t (Kd.iso k f) (fun b => ok (f b)) := by
  intro H enc W base spare held fuel cs x hx
  cases fuel with
  | zero => simp [DataW.trod] at hx
  | succ n =>
    unfold DataW.trod at hx
    rw [ht] at hx
    simp only at hx
    split at hx
    · rename_i hl
      obtain ⟨xs, hxs, _⟩ := Option.map_eq_some_iff.1 hx
      obtain ⟨y, hy, oy⟩ := h H enc W base spare held n cs hl (fun p hp => by
        rw [← hps] at hp
        obtain ⟨q, hq, rfl⟩ := List.mem_map.1 hp
        exact mapM_each hxs q hq)
      refine ⟨g y, ?_, ?_⟩
      · show k.K W (f (g y)) cs
        rw [hg]; simpa using hy
      · show ok (f (g y))
        rw [hg]; exact oy
    · cases hx

theorem opens_array {α β : Type} {P : Program} {t e : TypeId} {n : Nat} {ps : List (TypeId × Nat)} {k : Kd α} {ok : α → Prop} (f : β → α) (g : α → β) (hg : ∀ a, f (g a) = a) (ht : P.underlying t = some (.array n e))
    (hps : (List.range n).map (fun i => (e, i * P.cellsOf e)) = ps) (h : OpensAt P ps (P.cellsOf t) 0 k ok) : Opens P t (Kd.iso k f) (fun b => ok (f b)) := by
  intro H enc W base spare held fuel cs x hx
  cases fuel with
  | zero => simp [DataW.trod] at hx
  | succ n' =>
    unfold DataW.trod at hx
    rw [ht] at hx
    simp only at hx
    split at hx
    · rename_i hl
      obtain ⟨xs, hxs, _⟩ := Option.map_eq_some_iff.1 hx
      obtain ⟨y, hy, oy⟩ := h H enc W base spare held n' cs hl (fun p hp => by
        rw [← hps] at hp
        obtain ⟨i, hi, rfl⟩ := List.mem_map.1 hp
        exact mapM_each hxs i hi)
      refine ⟨g y, ?_, ?_⟩
      · show k.K W (f (g y)) cs
        rw [hg]; simpa using hy
      · show ok (f (g y))
        rw [hg]; exact oy
    · cases hx

end Go.Proofs.Ytiladcdogbeomaa.Opens

namespace Go.Proofs.Ytiladcdogbeomaa.Acts
open Go.RowKit Go.Proofs.Ytiladcdogbeomaa.Opens Go.Proofs.YtiladcdogbeomaaW.PrintWords Go.Proofs.Ytiladcdogbeomaa.QRangesPlays
def okBytes (xs : List Int) : Prop := xs.length ≤ 9223372036854775807 ∧ ∀ x ∈ xs, (Lit.int .u8 x).wf = true
theorem opens23 : Opens Try.prog 23 (Kd.slice 5 (Kd.int .u8)) okBytes := opens_slice Try.underlying23 (by kernel_rfl) (opens_int Try.underlying5)
theorem wf_u8 {x : Int} (h : (Lit.int .u8 x).wf = true) : 0 ≤ x ∧ x < 256 := by
  have := h
  simp [Lit.wf, IntKind.min, IntKind.max, IntKind.signed, IntKind.bits] at this
  omega
end Go.Proofs.Ytiladcdogbeomaa.Acts

namespace Go.Proofs.Ytiladcdogbeomaa.Acts
open Go.RowKit Go.Proofs.Ytiladcdogbeomaa.Opens Go.Proofs.YtiladcdogbeomaaW.PrintWords Go.Proofs.Ytiladcdogbeomaa.QRangesPlays
def kpair : Kd (Int × Int) := Kd.pair (Kd.int .u16) (Kd.int .u16)
def okPair (x : Int × Int) : Prop := (Lit.int .u16 x.1).wf = true ∧ (Lit.int .u16 x.2).wf = true
def okPairs (xs : List (Int × Int)) : Prop := xs.length ≤ 9223372036854775807 ∧ ∀ x ∈ xs, okPair x
theorem kpair_open {w : World} {x : Int × Int} {cs : List Value} (h : kpair.K w x cs) : cs = [.int .u16 x.1, .int .u16 x.2] := by
  obtain ⟨c1, c2, e, h1, h2⟩ := h
  have h1' : c1 = [.int .u16 x.1] := h1
  have h2' : c2 = [.int .u16 x.2] := h2
  rw [e, h1', h2']
  rfl
theorem opens28 : Opens Try.prog 28 kpair okPair :=
  opens_array (fun x : Int × Int => x) (fun y => y) (fun _ => rfl) Try.underlying28 (by kernel_rfl) (at_cons (off := 0) (off' := 1) (opens_int Try.underlying27) (at_last (off := 1) (opens_int Try.underlying27) (by kernel_rfl)) (by kernel_rfl))
theorem opens22 : Opens Try.prog 22 (Kd.slice 28 kpair) okPairs := opens_slice Try.underlying22 (by kernel_rfl) opens28
theorem pairRow_of {W : World} {A : Option Addr} {n : Nat} {l : List (Int × Int)} (h : Kd.C kpair W A n l) : PairRow W A l := by
  have hz : kpair.sz = 2 := rfl
  have key : ∀ j (hj : j < l.length), ∃ ad, A = some ad ∧ W.cell? (ad.add (j * 2)) = some (.int .u16 l[j].1) ∧ W.cell? (ad.add (j * 2 + 1)) = some (.int .u16 l[j].2) := by
    intro j hj
    obtain ⟨ad, rfl, hc⟩ := h.2.2 (by have := h.1; omega)
    obtain ⟨c, hl, hx, hcell⟩ := hc j l[j] (List.getElem?_eq_getElem hj)
    have hx' := kpair_open hx
    subst hx'
    have e0 := hcell 0 (.int .u16 l[j].1) rfl
    have e1 := hcell 1 (.int .u16 l[j].2) rfl
    rw [hz] at e0 e1
    exact ⟨ad, rfl, by simpa using e0, e1⟩
  intro i hi
  obtain ⟨ad, hA, z0, _⟩ := key 0 (by omega)
  have hsp : ad.spot = none := by
    have e : ad.add (0 * 2) = ad := by unfold Addr.add; rw [if_pos (by omega)]
    rw [e] at z0
    unfold World.cell? at z0
    split at z0
    · split at z0
      · cases z0
      · rename_i hs; simpa using hs
    · cases z0
  obtain ⟨b, o, sp⟩ := ad
  obtain rfl : sp = none := hsp
  obtain ⟨ad2, hA2, z0, z1⟩ := key i hi
  rw [hA] at hA2
  obtain rfl : (⟨b, o, none⟩ : Addr) = ad2 := Option.some.inj hA2
  have ha : ∀ j, Addr.add ⟨b, o, none⟩ j = ⟨b, o + j, none⟩ := fun j => by
    unfold Addr.add
    split
    · rename_i h; subst h; rfl
    · rfl
  rw [ha] at z0 z1
  exact ⟨b, o, hA, z0, z1⟩
theorem wf_u16 {x : Int} (h : (Lit.int .u16 x).wf = true) : 0 ≤ x ∧ x < 65536 := by
  have := h
  simp [Lit.wf, IntKind.min, IntKind.max, IntKind.signed, IntKind.bits] at this
  omega
theorem pairsOk_of {l : List (Int × Int)} (h : okPairs l) : PairsOk l := fun x hx => ⟨wf_u16 (h.2 x hx).1, wf_u16 (h.2 x hx).2⟩
end Go.Proofs.Ytiladcdogbeomaa.Acts
