/- Law 24 (outbox): contracts of functions that its statements reach, and plain laws behind them (part 1). No condition. -/
import Derived.Test.YtiladcdogbeomaaWWords
import Derived.Test.YtiladcdogbeomaaProg
import Derived.Below
import Derived.Deep.Draws
import Derived.Deep.AppendLies
import Derived.Maps.AppendAt
import Derived.OwnWalk
import Derived.Laws.BytesArg
import Derived.Laws.MakeOwn
import Derived.Laws.OwnMore
import Derived.Deep.OwnRows
import Derived.Tactics
import Derived.Lib.ConvBytes
import Derived.Laws.Slices
import Derived.WalkKit
import Derived.KernelRfl
import Derived.RowKit3
import Derived.Deep.LoopGhost
import Derived.Deep.QuietTactic
import Derived.BigQuiet
import Derived.WideLaws
import Derived.Deep.DeepCutAuto
import Derived.Deep.CutBlock
import Derived.Deep.RegionHeld3
import Derived.Laws.Rows
import Derived.Lib.AppendStr
import Derived.ArgAppend
import Derived.Laws.IdiomCopy
import Derived.OrdersHeld
import Derived.Laws.BitsLemmas
import Derived.RowKit
import Derived.Laws.Cover1
import Derived.Lib.Hide
import Derived.WalkSpells
import Derived.Test.YtiladcdogbeomaaWLast
import Derived.Test.YtiladcdogbeomaaWTab
import Derived.Test.YtiladcdogbeomaaWKept
import Derived.Test.YtiladcdogbeomaaWEqStruct
import Derived.Test.YtiladcdogbeomaaWRepsOne
import Derived.OrdersIn
import Derived.OwnWalkIn
import Derived.ControlIn
import Derived.Laws.CopyOwn
import Derived.Laws.AppendOwn
import Derived.Lib.AppendZerosOnto
import Derived.Lib.Overlaps
import Derived.StillTailTactics
import Derived.RangeFuncNested
import Derived.RangeFuncBound
import Derived.RangeFuncCalls
import Derived.RangeFuncLeaves
import Derived.Shelf.Abstract
import Derived.Shelf.RegionOpen
import Derived.TacticsInMore
import Derived.LoopNIn
import Derived.LoopIn
import Derived.IntWalk
namespace Go.Proofs.YtiladcdogbeomaaW.PrintMore
theorem max2_int (k k' : IntKind) (x y : Int) : Builtin.max2 (.int k x) (.int k' y) = pure (.int k (if x < y then y else x)) := by simp only [Builtin.max2, gt_iff_lt]
theorem min2_int (k k' : IntKind) (x y : Int) : Builtin.min2 (.int k x) (.int k' y) = pure (.int k (if y < x then y else x)) := by simp only [Builtin.min2]
theorem max_two (ats : Array TypeId) (ty : TypeId) (a b : Value) : Builtin.max_ ats ty #[a, b] = (Builtin.max2 a b >>= fun s => pure s) := by simp only [Builtin.max_, List.foldlM_cons, List.foldlM_nil]
theorem min_two (ats : Array TypeId) (ty : TypeId) (a b : Value) : Builtin.min_ ats ty #[a, b] = (Builtin.min2 a b >>= fun s => pure s) := by simp only [Builtin.min_, List.foldlM_cons, List.foldlM_nil]
end Go.Proofs.YtiladcdogbeomaaW.PrintMore
namespace Go.Proofs.YtiladcdogbeomaaW.PrintWords
theorem gate_callee {P : Program} {ops : Array Oper} {rest : List Oper} {o : Oper} {a : Act} {Q : Exit → Act → World → Prop} {W : World} {f : FuncId} {xs : Array Operand} {ts : Array TypeId} (_ : o.op = .call { callee := .value (.func f), args := xs, argTypes := ts }) (h : wpList P ops Q (o :: rest) a W) : wpList P ops Q (o :: rest) a W := h
theorem gate_builtin {P : Program} {ops : Array Oper} {rest : List Oper} {o : Oper} {a : Act} {Q : Exit → Act → World → Prop} {W : World} {b : Builtin} {xs : Array Operand} {ts : Array TypeId} (_ : o.op = .call { callee := .builtin b, args := xs, argTypes := ts }) (h : wpList P ops Q (o :: rest) a W) : wpList P ops Q (o :: rest) a W := h
def mx (a b : Int) : Int := if a < b then b else a
def mn (a b : Int) : Int := if b < a then b else a
/-- A shift to the left. -/
def shl (k : IntKind) (x y : Int) : Int := k.wrap (x * 2 ^ min y.toNat k.bits)
theorem shl_small {k : IntKind} {x y j : Int} (h : shl k x y = j) (hy : y ≤ k.bits) : k.wrap (x * 2 ^ y.toNat) = j := by rw [← h]; unfold shl; rw [Nat.min_eq_left (by omega)]
theorem drewN_self (w : World) (n : Nat) : w.drewN n = w.drewN n := rfl
end Go.Proofs.YtiladcdogbeomaaW.PrintWords

namespace Go.Proofs.Ytiladcdogbeomaa.QRangesPlays
open Go.RowKit Go.Proofs.YtiladcdogbeomaaW.PrintWords Go.Proofs.YtiladcdogbeomaaW.PrintLast Go.Proofs.YtiladcdogbeomaaW.PrintMore
attribute [local go_sem] max2_int min2_int max_two min_two   -- for this text's walks alone
set_option linter.unusedVariables false
set_option linter.unusedSimpArgs false



def errW : Option Int → Value
  | none => .nilIface
  | some c => .iface 0 (.int .i64 c)
theorem errW_none : errW none = .nilIface := rfl
theorem errW_some (c : Int) : errW (some c) = .iface 0 (.int .i64 c) := rfl

theorem info5 : (Try.prog.info? 5).map (fun i => (i.zero, i.size, i.bytes)) = some (some (.int .u8 0), 1, 1) := by kernel_rfl
theorem info95 : (Try.prog.info? 95).map (fun i => (i.zero, i.size, i.bytes)) = some (some (.agg #[(.int .i64 0), (.int .i64 0)]), 2, 16) := by kernel_rfl
-- the values' own types
/-! #### struct type 95 -/
structure S95 where
  f0 : Int
  f1 : Int
def z95 : S95 := ⟨(0 : Int), (0 : Int)⟩
def k95 : Kd S95 := Kd.iso (Kd.pair (Kd.int .i64) (Kd.int .i64)) (fun x : S95 => (x.f0, x.f1))
theorem k95_open {w : World} {x : S95} {cs : List Value} (h : k95.K w x cs) : cs = [.int .i64 x.f0, .int .i64 x.f1] := by
  obtain ⟨_, _, rfl, rfl, rfl⟩ := h
  exact rfl
theorem k95_openM {w : World} {base : Nat} {ok : Nat → Prop} {x : S95} {cs : List Value} (h : k95.M w base ok x cs) : cs = [.int .i64 x.f0, .int .i64 x.f1] := by
  obtain ⟨_, _, rfl, rfl, rfl⟩ := h
  exact rfl
theorem k95_mk (w : World) (x : S95)  : k95.K w x [.int .i64 x.f0, .int .i64 x.f1] := ⟨[.int .i64 x.f0], [.int .i64 x.f1], rfl, rfl, rfl⟩
theorem k95_mkM (w : World) (base : Nat) (ok : Nat → Prop) (x : S95)  : k95.M w base ok x [.int .i64 x.f0, .int .i64 x.f1] := ⟨[.int .i64 x.f0], [.int .i64 x.f1], rfl, rfl, rfl⟩
def rd_T95 (xs : List S95) (i : Int) : S95 := xs.getD i.toNat z95
theorem at_T95 {w : World} {A : Option Addr} {n : Nat} {xs : List S95} (h : Kd.C k95 w A n xs) (i : Int) (h0 : 0 ≤ i) (h1 : i < n) : ∃ ad , A = some ad ∧ w.cell? (ad.add (i.toNat * 2)) = some (.int .i64 (rd_T95 xs i).f0) ∧ w.cell? ⟨(ad.add (i.toNat * 2)).block, (ad.add (i.toNat * 2)).off + 1, none⟩ = some (.int .i64 (rd_T95 xs i).f1) := by
  obtain ⟨ad, c, e, _, hK, hc0⟩ := Kd.C_get h z95 i h0 h1
  have hc : ∀ j u, c[j]? = some u → w.cell? (ad.add (i.toNat * 2 + j)) = some u := hc0
  obtain rfl := k95_open hK
  exact ⟨ad, e, hc 0 _ rfl, by rw [← add_field _ _ 1 (by omega)]; exact hc 1 _ rfl⟩

def rd_L3 (xs : List (List Int)) (i : Int) : (List Int) := xs.getD i.toNat ([] : List Int)
theorem at_L3 {w : World} {A : Option Addr} {n : Nat} {xs : List (List Int)} (h : Kd.C (Kd.slice 5 (Kd.int .u8)) w A n xs) (i : Int) (h0 : 0 ≤ i) (h1 : i < n) : ∃ ad A0 c0, A = some ad ∧ w.cell? (ad.add i.toNat) = some (.slice A0 (rd_L3 xs i).length c0) ∧ (rd_L3 xs i).length ≤ c0 ∧ (Kd.int .u8).C w A0 (rd_L3 xs i).length (rd_L3 xs i) := by
  obtain ⟨ad, c, e, _, hK, hc0⟩ := Kd.C_get h ([] : List Int) i h0 h1
  have hc : ∀ j u, c[j]? = some u → w.cell? (ad.add (i.toNat * 1 + j)) = some u := hc0
  obtain ⟨A0, c0, rfl, l0, g0⟩ := hK
  exact ⟨ad, A0, c0, e, by have hq := hc 0 _ rfl; rwa [Nat.mul_one, Nat.add_zero] at hq, l0, g0⟩

end Go.Proofs.Ytiladcdogbeomaa.QRangesPlays

namespace Go.Proofs.Ytiladcdogbeomaa.Lazy
open Go
/-- The temporaries: those of the operations that have come up hold what these gave. -/
def lazyT (L : Nat → Bool) (σ : Nat → Value) (t0 : List Value) (tab : List (Option Nat)) : List Value :=
  List.zipWith (fun x o => match o with | some j => bif L j then σ j else x | none => x) t0 tab
def lazyA (L : Nat → Bool) (σ : Nat → Value) (t0 : List Value) (tab : List (Option Nat)) (d0 : List Deferred) : Act := { tmps := (lazyT L σ t0 tab).toArray, defers := d0 }
def updL (L : Nat → Bool) (i : Nat) : Nat → Bool := fun j => if j = i then true else L j
def updS (σ : Nat → Value) (i : Nat) (v : Value) : Nat → Value := fun j => if j = i then v else σ j
theorem lazyT_get {L : Nat → Bool} {σ : Nat → Value} {t0 : List Value} {tab : List (Option Nat)} {s i : Nat} (hl : t0.length = tab.length) (h : tab[s]? = some (some i)) (hL : L i = true) : (lazyT L σ t0 tab)[s]? = some (σ i) := by
  unfold lazyT
  have hlt := (List.getElem?_eq_some_iff.1 h).1
  rw [List.getElem?_zipWith, h, List.getElem?_eq_getElem (by omega)]
  simp [hL]
theorem lazyT_old {L : Nat → Bool} {σ : Nat → Value} {t0 : List Value} {tab : List (Option Nat)} {s : Nat} {x : Value} (hx : t0[s]? = some x) (h : tab[s]? = some none) : (lazyT L σ t0 tab)[s]? = some x := by
  unfold lazyT
  rw [List.getElem?_zipWith, h, hx]
theorem lazyT_set {L : Nat → Bool} {σ : Nat → Value} {t0 : List Value} {tab : List (Option Nat)} {s i : Nat} (v : Value) (hl : t0.length = tab.length) (h : tab[s]? = some (some i)) (hu : ∀ s' : Nat, tab[s']? = some (some i) → s' = s) :
    (lazyT L σ t0 tab).set s v = lazyT (updL L i) (updS σ i v) t0 tab := by
  apply List.ext_getElem?
  intro k
  by_cases hk : k = s
  · subst hk
    rw [lazyT_get hl h (by simp [updL]), List.getElem?_set_self]
    · simp [updS]
    · unfold lazyT
      have := (List.getElem?_eq_some_iff.1 h).1
      simp; omega
  · rw [List.getElem?_set_ne (Ne.symm hk)]
    unfold lazyT
    rw [List.getElem?_zipWith, List.getElem?_zipWith]
    cases ht : tab[k]? with
    | none => cases t0[k]? <;> rfl
    | some o =>
      cases o with
      | none => cases t0[k]? <;> rfl
      | some j =>
        have hj : j ≠ i := fun e => hk (hu k (by rw [ht, e]))
        cases t0[k]? <;> simp [updL, updS, hj]
theorem lazyT_same {L : Nat → Bool} {σ : Nat → Value} {t0 : List Value} {tab : List (Option Nat)} {i : Nat} (v : Value) (hu : ∀ s' : Nat, tab[s']? ≠ some (some i)) : lazyT L σ t0 tab = lazyT (updL L i) (updS σ i v) t0 tab := by
  apply List.ext_getElem?
  intro k
  unfold lazyT
  rw [List.getElem?_zipWith, List.getElem?_zipWith]
  cases ht : tab[k]? with
  | none => cases t0[k]? <;> rfl
  | some o =>
    cases o with
    | none => cases t0[k]? <;> rfl
    | some j =>
      have hj : j ≠ i := fun e => hu k (by rw [ht, e])
      cases t0[k]? <;> simp [updL, updS, hj]
theorem lazyT_congr {L L' : Nat → Bool} {σ : Nat → Value} {t0 : List Value} {tab : List (Option Nat)} (h : ∀ j, some j ∈ tab → L j = L' j) : lazyT L σ t0 tab = lazyT L' σ t0 tab := by
  apply List.ext_getElem?
  intro k
  unfold lazyT
  rw [List.getElem?_zipWith, List.getElem?_zipWith]
  cases ht : tab[k]? with
  | none => cases t0[k]? <;> rfl
  | some o =>
    cases o with
    | none => cases t0[k]? <;> rfl
    | some j =>
      have := h j (List.mem_of_getElem? ht)
      cases t0[k]? <;> simp [this]
/-- A temporary that an operation has written. -/
theorem lazy_eval {L : Nat → Bool} {σ : Nat → Value} {t0 : List Value} {tab : List (Option Nat)} {d0 : List Deferred} {s i : Nat} (hl : t0.length = tab.length) (h : tab[s]? = some (some i)) (hL : L i = true) : (lazyA L σ t0 tab d0).eval (.tmp s) = σ i := by
  have := lazyT_get (σ := σ) hl h hL
  simp [Act.eval, lazyA, this]
theorem lazy_old {L : Nat → Bool} {σ : Nat → Value} {t0 : List Value} {tab : List (Option Nat)} {d0 : List Deferred} {s : Nat} {x : Value} (hx : t0[s]? = some x) (h : tab[s]? = some none) : (lazyA L σ t0 tab d0).eval (.tmp s) = x := by
  have := lazyT_old (L := L) (σ := σ) hx h
  simp [Act.eval, lazyA, this]
theorem lazy_const {L : Nat → Bool} {σ : Nat → Value} {t0 : List Value} {tab : List (Option Nat)} {d0 : List Deferred} (v : Value) : (lazyA L σ t0 tab d0).eval (.const v) = v := rfl
/-- Does the table fit the operations, and does each one wait for earlier ones alone? -/
def fitsB (ops : List Oper) (tab : List (Option Nat)) : Bool :=
  (ops.zipIdx.all fun (o, i) => (match o.dst with | some d => tab[d]? == some (some i) | none => true) && o.guard.isNone && o.after.all (fun e => !Region.binds .any e || decide (e.on < i)) && (match o.op with | .defer _ => false | _ => true)) &&
  (tab.zipIdx.all fun (o, s) => match o with | some j => ((ops[j]?).map (·.dst)) == some (some s) | none => true)
structure Fits (ops : List Oper) (tab : List (Option Nat)) : Prop where
  dst : ∀ (i : Nat) (o : Oper) d, ops[i]? = some o → o.dst = some d → tab[d]? = some (some i)
  gd : ∀ (i : Nat) (o : Oper), ops[i]? = some o → o.guard = none
  on : ∀ (i : Nat) (o : Oper), ops[i]? = some o → ∀ e ∈ o.after, Region.binds .any e = true → e.on < i
  nd : ∀ (i : Nat) (o : Oper), ops[i]? = some o → ∀ c, o.op ≠ .defer c
  un : ∀ (s j : Nat) (o : Oper), tab[s]? = some (some j) → ops[j]? = some o → o.dst = some s
  rg : ∀ j, some j ∈ tab → j < ops.length
theorem fits_of {ops : List Oper} {tab : List (Option Nat)} (h : fitsB ops tab = true) : Fits ops tab := by
  unfold fitsB at h
  rw [Bool.and_eq_true, List.all_eq_true, List.all_eq_true] at h
  obtain ⟨h1, h2⟩ := h
  have k1 : ∀ (i : Nat) (o : Oper), ops[i]? = some o → _ := fun i o ho => h1 (o, i) (List.mem_zipIdx_iff_getElem?.2 (by simpa using ho))
  have k2 : ∀ (s : Nat) (o : Option Nat), tab[s]? = some o → _ := fun s o ho => h2 (o, s) (List.mem_zipIdx_iff_getElem?.2 (by simpa using ho))
  refine ⟨?_, ?_, ?_, ?_, ?_, ?_⟩
  · intro i o d ho hd
    have := k1 i o ho
    simp only [Bool.and_eq_true, hd] at this
    simpa using this.1.1.1
  · intro i o ho
    have := k1 i o ho
    simp only [Bool.and_eq_true] at this
    simpa using this.1.1.2
  · intro i o ho e he hb
    have := k1 i o ho
    simp only [Bool.and_eq_true] at this
    have h3 := this.1.2
    rw [Array.all_eq_true_iff_forall_mem] at h3
    have h4 := h3 e he
    rw [hb] at h4
    simpa using h4
  · intro i o ho c hc
    have := k1 i o ho
    simp only [Bool.and_eq_true, hc] at this
    exact absurd this.2 (by simp)
  · intro s j o hs ho
    have := k2 s (some j) hs
    simp only [ho] at this
    simpa using this
  · intro j hj
    obtain ⟨s, hs⟩ := List.getElem?_of_mem hj
    have := k2 s (some j) hs
    simp only at this
    rcases Nat.lt_or_ge j ops.length with hlt | hge
    · exact hlt
    · rw [List.getElem?_eq_none hge] at this; simp at this
/-- One operation, in a fence: what it gives, and the world behind it. -/
def OpIn (F : Fence) (n : Nat) (P : Program) (o : Oper) (ρ : Operand → Value) (W : World) (K : Value → World → Prop) : Prop :=
  (∀ f, o.about P W ρ = some f → F.fn f) ∧ match (execOp ρ o).run P W with
    | .ok (.value v) W' => K v W'
    | .ok .skip W' => K undef W'
    | .ok (.enter f args) W' => (F.depth.isSome = true → 1 ≤ n) ∧ CallsIn F (n - 1) P f args W' fun e W'' => ∃ v, e = .returned v ∧ K v W''
    | _ => False
def Op1 (P : Program) (o : Oper) (ρ : Operand → Value) (W : World) (K : Value → World → Prop) : Prop :=
  match (execOp ρ o).run P W with
    | .ok (.value v) W' => K v W'
    | .ok .skip W' => K undef W'
    | .ok (.enter f args) W' => Calls P f args W' fun e W'' => ∃ v, e = .returned v ∧ K v W''
    | _ => False
theorem OpIn.wpIn {F : Fence} {n : Nat} {P : Program} {o : Oper} {a : Act} {W : World} {K : Value → World → Prop} {next : Act → World → Prop} {Q : Exit → Act → World → Prop} (h : OpIn F n P o a.eval W K) (hnd : ∀ c, o.op ≠ .defer c) (hK : ∀ v W', K v W' → next (a.put o.dst v) W') : o.wpIn F n P a W next Q := by
  unfold Oper.wpIn
  rw [Oper.semAt_plain F _ _ hnd]
  refine ⟨h.1, ?_⟩
  have h2 := h.2
  generalize (execOp a.eval o).run P W = r at *
  cases r with
  | ok x w' =>
    cases x <;> simp only [Oper.uponIn] at h2 ⊢
    case value => exact hK _ _ h2
    case skip => exact hK _ _ h2
    case enter => exact ⟨h2.1, h2.2.mono fun e w'' ⟨v, he, hk⟩ => by subst he; exact hK _ _ hk⟩
    all_goals exact h2.elim
  | halt x w' => cases x <;> exact h2.elim
theorem Op1.wp {P : Program} {o : Oper} {a : Act} {W : World} {K : Value → World → Prop} {next : Act → World → Prop} {Q : Exit → Act → World → Prop} (h : Op1 P o a.eval W K) (hK : ∀ v W', K v W' → next (a.put o.dst v) W') : o.wp P a W next Q := by
  unfold Oper.wp
  unfold Op1 at h
  generalize (execOp a.eval o).run P W = r at *
  cases r with
  | ok x w' =>
    cases x <;> simp only [Oper.upon] at h ⊢
    case value => exact hK _ _ h
    case skip => exact hK _ _ h
    case enter => exact h.mono fun e w'' ⟨v, he, hk⟩ => by subst he; exact hK _ _ hk
    all_goals exact h.elim
  | halt x w' => cases x <;> exact h.elim
theorem OpIn.of_run {F : Fence} {n : Nat} {P : Program} {o : Oper} {ρ : Operand → Value} {W : World} {K : Value → World → Prop} (hab : ∀ w, o.about P w ρ = none) {v : Value} {W' : World} (hr : (execOp ρ o).run P W = .ok (.value v) W') (hK : K v W') : OpIn F n P o ρ W K :=
  ⟨fun f hf => (by rw [hab] at hf; cases hf), by rw [hr]; exact hK⟩
theorem OpIn.of_skip {F : Fence} {n : Nat} {P : Program} {o : Oper} {ρ : Operand → Value} {W : World} {K : Value → World → Prop} (hab : ∀ w, o.about P w ρ = none) {W' : World} (hr : (execOp ρ o).run P W = .ok .skip W') (hK : K undef W') : OpIn F n P o ρ W K :=
  ⟨fun f hf => (by rw [hab] at hf; cases hf), by rw [hr]; exact hK⟩
theorem OpIn.of_call {F : Fence} {n : Nat} {P : Program} {o : Oper} {ρ : Operand → Value} {W W' : World} {K : Value → World → Prop} {f : FuncId} {args : Array Value} (hab : ∀ f, o.about P W ρ = some f → F.fn f) (hr : (execOp ρ o).run P W = .ok (.enter f args) W') (hn : F.depth.isSome = true → 1 ≤ n) (hc : CallsIn F (n - 1) P f args W' fun e W'' => ∃ v, e = .returned v ∧ K v W'') : OpIn F n P o ρ W K :=
  ⟨hab, by rw [hr]; exact ⟨hn, hc⟩⟩
theorem setCell_put' (W : World) (p : Addr) (u : Value) {v : Value} (h : W.cell? p = some v) : (W.setCell p u).cell? p = some u := World.cell?_setCell_same' _ _ _ (by rw [h]; rfl)
theorem Op1.of_run {P : Program} {o : Oper} {ρ : Operand → Value} {W : World} {K : Value → World → Prop} {v : Value} {W' : World} (hr : (execOp ρ o).run P W = .ok (.value v) W') (hK : K v W') : Op1 P o ρ W K := by unfold Op1; rw [hr]; exact hK
theorem Op1.of_skip {P : Program} {o : Oper} {ρ : Operand → Value} {W : World} {K : Value → World → Prop} {W' : World} (hr : (execOp ρ o).run P W = .ok .skip W') (hK : K undef W') : Op1 P o ρ W K := by unfold Op1; rw [hr]; exact hK
theorem Op1.of_call {P : Program} {o : Oper} {ρ : Operand → Value} {W W' : World} {K : Value → World → Prop} {f : FuncId} {args : Array Value} (hr : (execOp ρ o).run P W = .ok (.enter f args) W') (hc : Calls P f args W' fun e W'' => ∃ v, e = .returned v ∧ K v W'') : Op1 P o ρ W K := by unfold Op1; rw [hr]; exact hc
theorem upd_self {L : Nat → Bool} {i : Nat} : updL L i i = true := by simp [updL]
theorem upd_ne {L : Nat → Bool} {i j : Nat} (h : j ≠ i) : updL L i j = L j := by simp [updL, h]
theorem upd_keep {L : Nat → Bool} (i : Nat) {j : Nat} (h : L j = true) : updL L i j = true := by unfold updL; split <;> simp [h]
theorem upd_other {L : Nat → Bool} {i j : Nat} (h : updL L i j = true) (hn : j ≠ i) : L j = true := by rwa [upd_ne hn] at h
theorem upd_val {L : Nat → Bool} {σ : Nat → Value} {vals : List Value} {i : Nat} {v : Value} (h : ∀ j, L j = true → σ j = vals.getD j undef) (hv : vals.getD i undef = v) : ∀ j, updL L i j = true → updS σ i v j = vals.getD j undef := by
  intro j hj
  by_cases e : j = i
  · subst e; simp only [updS, if_true]; exact hv.symm
  · simp only [updS, if_neg e]; exact h j (upd_other hj e)
/-- A conjunction over a list, by places. -/
def AllFrom (φ : Nat → Oper → Prop) : Nat → List Oper → Prop
  | _, [] => True
  | k, o :: r => φ k o ∧ AllFrom φ (k + 1) r
theorem allFrom_get {φ : Nat → Oper → Prop} : ∀ {l : List Oper} {k : Nat}, AllFrom φ k l → ∀ (i : Nat) o, l[i]? = some o → φ (k + i) o
  | [], _, _, i, o, h => by simp at h
  | x :: r, k, ⟨h1, h2⟩, 0, o, h => by simp at h; subst h; exact h1
  | x :: r, k, ⟨h1, h2⟩, i + 1, o, h => by have := allFrom_get h2 i o (by simpa using h); rwa [show k + 1 + i = k + (i + 1) by omega] at this
theorem put_lazy {ops : List Oper} {tab : List (Option Nat)} (hf : Fits ops tab) {L : Nat → Bool} {σ : Nat → Value} {t0 : List Value} {d0 : List Deferred} (hl : t0.length = tab.length) {i : Nat} {o : Oper} (ho : ops[i]? = some o) (v : Value) :
    (lazyA L σ t0 tab d0).put o.dst v = lazyA (updL L i) (updS σ i v) t0 tab d0 := by
  cases hd : o.dst with
  | none =>
    have := lazyT_same (L := L) (σ := σ) (t0 := t0) (tab := tab) (i := i) v (fun s' hs => by have := hf.un s' i o hs ho; rw [hd] at this; cases this)
    simp only [Act.put, lazyA, ← this]
  | some d =>
    have := lazyT_set (L := L) (σ := σ) (t0 := t0) v hl (hf.dst i o d ho hd) (fun s' hs => by have := hf.un s' i o hs ho; rw [hd] at this; exact (Option.some.inj this).symm)
    simp only [Act.put, lazyA, List.setIfInBounds_toArray, this]
section
variable {F : Fence} {n : Nat} {P : Program} {Q : Exit → Act → World → Prop} {ops : List Oper} {tab : List (Option Nat)} {t0 : List Value} {d0 : List Deferred} {I : (Nat → Bool) → (Nat → Value) → World → Prop}
theorem all_listed (hf : Fits ops tab) {listed : Array Bool} (hs : listed.size = ops.length) (h : Region.ready .any ops.toArray listed = []) : ∀ j, j < ops.length → listed.getD j false = true := by
  intro j
  induction j using Nat.strongRecOn with
  | _ j ih =>
    intro hj
    by_cases hc : listed.getD j false = true
    · exact hc
    · exfalso
      have hm : j ∈ Region.ready .any ops.toArray listed := mem_ready.2 ⟨by
        have hh : listed.getD j false = false := by simpa using hc
        have hlt : j < listed.size := by omega
        simp [hlt] at hh ⊢; exact hh, ops[j], by simp [hj], fun e he hb => ih e.on (hf.on j _ (List.getElem?_eq_getElem hj) e he hb) (by have := hf.on j _ (List.getElem?_eq_getElem hj) e he hb; omega)⟩
      rw [h] at hm; cases hm
def toL (listed : Array Bool) : Nat → Bool := fun j => listed.getD j false
theorem toL_set {listed : Array Bool} {i : Nat} (h : i < listed.size) : toL (listed.setIfInBounds i true) = updL (toL listed) i := by
  funext j
  unfold toL updL
  by_cases hj : j = i
  · subst hj; simp [h]
  · simp [hj, Ne.symm hj]
def falses (listed : Array Bool) : Nat := listed.toList.countP (· == false)
theorem falses_set {listed : Array Bool} {i : Nat} (h : listed.getD i true = false) : falses (listed.setIfInBounds i true) + 1 = falses listed := by
  have hlt : i < listed.size := by
    rcases Nat.lt_or_ge i listed.size with hh | hh
    · exact hh
    · simp [Array.getElem?_eq_none hh] at h
  have hv : listed[i] = false := by simpa [hlt] using h
  unfold falses
  rw [Array.toList_setIfInBounds, List.countP_set (by simpa using hlt)]
  have hpos : 0 < listed.toList.countP (· == false) := List.countP_pos_iff.2 ⟨listed[i], by simp, by simp [hv]⟩
  have e : (listed.toList[i] == false) = true := by simp [hv]
  rw [if_pos e, if_neg (by simp)]
  omega
theorem wpAnyIn_lazy (hf : Fits ops tab) (hl : t0.length = tab.length)
    (hstep : ∀ (i : Nat) (o : Oper), ops[i]? = some o → ∀ L σ W, L i = false → (∀ e ∈ o.after, Region.binds .any e = true → L e.on = true) → I L σ W → OpIn F n P o (lazyA L σ t0 tab d0).eval W (fun v W' => I (updL L i) (updS σ i v) W'))
    (hdone : ∀ L σ W, (∀ j, j < ops.length → L j = true) → I L σ W → Q .normal (lazyA L σ t0 tab d0) W) :
    ∀ (fuel : Nat) (listed : Array Bool) (σ : Nat → Value) (W : World), listed.size = ops.length → falses listed ≤ fuel → I (toL listed) σ W → wpAnyIn F n P .any ops.toArray Q fuel listed (lazyA (toL listed) σ t0 tab d0) W := by
  intro fuel
  induction fuel with
  | zero =>
    intro listed σ W hs hn hI
    have hr : Region.ready .any ops.toArray listed = [] := by
      cases hr : Region.ready .any ops.toArray listed with
      | nil => rfl
      | cons x xs =>
        have hx : x ∈ Region.ready .any ops.toArray listed := by rw [hr]; exact List.mem_cons_self ..
        have := falses_set (mem_ready.1 hx).1
        omega
    exact ⟨hr, hdone _ _ _ (all_listed hf hs hr) hI⟩
  | succ fuel ih =>
    intro listed σ W hs hn hI
    refine ⟨fun hr => hdone _ _ _ (all_listed hf hs hr) hI, ?_⟩
    intro i hi
    obtain ⟨h0, o, ho, hall⟩ := mem_ready.1 hi
    have ho' : ops[i]? = some o := by simpa using ho
    have hlt : i < listed.size := by rw [hs]; exact (List.getElem?_eq_some_iff.1 ho').1
    have hLi : toL listed i = false := by
      unfold toL
      simp [hlt] at h0 ⊢; exact h0
    unfold wpOpIn
    rw [ho]
    simp only
    rw [if_pos (by simp [Region.wanted, hf.gd i o ho'])]
    refine (hstep i o ho' _ _ _ hLi hall hI).wpIn (hf.nd i o ho') ?_
    intro v W' hI'
    rw [put_lazy hf hl ho', ← toL_set hlt]
    exact ih _ _ _ (by simpa using hs) (by have := falses_set h0; omega) (by rw [toL_set hlt]; exact hI')
theorem wpAny_lazy (hf : Fits ops tab) (hl : t0.length = tab.length)
    (hstep : ∀ (i : Nat) (o : Oper), ops[i]? = some o → ∀ L σ W, L i = false → (∀ e ∈ o.after, Region.binds .any e = true → L e.on = true) → I L σ W → Op1 P o (lazyA L σ t0 tab d0).eval W (fun v W' => I (updL L i) (updS σ i v) W'))
    (hdone : ∀ L σ W, (∀ j, j < ops.length → L j = true) → I L σ W → Q .normal (lazyA L σ t0 tab d0) W) :
    ∀ (fuel : Nat) (listed : Array Bool) (σ : Nat → Value) (W : World), listed.size = ops.length → falses listed ≤ fuel → I (toL listed) σ W → wpAny P .any ops.toArray Q fuel listed (lazyA (toL listed) σ t0 tab d0) W := by
  intro fuel
  induction fuel with
  | zero =>
    intro listed σ W hs hn hI
    have hr : Region.ready .any ops.toArray listed = [] := by
      cases hr : Region.ready .any ops.toArray listed with
      | nil => rfl
      | cons x xs =>
        have hx : x ∈ Region.ready .any ops.toArray listed := by rw [hr]; exact List.mem_cons_self ..
        have := falses_set (mem_ready.1 hx).1
        omega
    exact ⟨hr, hdone _ _ _ (all_listed hf hs hr) hI⟩
  | succ fuel ih =>
    intro listed σ W hs hn hI
    refine ⟨fun hr => hdone _ _ _ (all_listed hf hs hr) hI, ?_⟩
    intro i hi
    obtain ⟨h0, o, ho, hall⟩ := mem_ready.1 hi
    have ho' : ops[i]? = some o := by simpa using ho
    have hlt : i < listed.size := by rw [hs]; exact (List.getElem?_eq_some_iff.1 ho').1
    have hLi : toL listed i = false := by
      unfold toL
      simp [hlt] at h0 ⊢; exact h0
    unfold wpOp
    rw [ho]
    simp only
    rw [if_pos (by simp [Region.wanted, hf.gd i o ho'])]
    refine .inl ((hstep i o ho' _ _ _ hLi hall hI).wp ?_)
    intro v W' hI'
    rw [put_lazy hf hl ho', ← toL_set hlt]
    exact ih _ _ _ (by simpa using hs) (by have := falses_set h0; omega) (by rw [toL_set hlt]; exact hI')
theorem lazy_start (_hf : Fits ops tab) (σ : Nat → Value) (hl : t0.length = tab.length) : lazyA (fun _ => false) σ t0 tab d0 = { tmps := t0.toArray, defers := d0 } := by
  unfold lazyA
  congr 1
  congr 1
  unfold lazyT
  apply List.ext_getElem?
  intro k
  rw [List.getElem?_zipWith]
  rcases Nat.lt_or_ge k t0.length with hk | hk
  · rw [List.getElem?_eq_getElem hk, List.getElem?_eq_getElem (by omega)]
    cases tab[k] <;> rfl
  · rw [List.getElem?_eq_none hk]
theorem toL_none (k : Nat) : toL (Array.replicate k false) = fun _ => false := by
  funext j
  unfold toL
  rcases Nat.lt_or_ge j k with h | h
  · simp [h]
  · simp [h]
theorem falses_none (k : Nat) : falses (Array.replicate k false) ≤ k := by
  unfold falses
  exact Nat.le_trans List.countP_le_length (by simp)
/-- A REGION THAT DRAWS ITS ORDER, in a fence (a round too). -/
theorem wpIn_region_lazy {id : Nat} {w : World} (hm : P.follows .mixedOrders = true) (tab : List (Option Nat)) (hf : fitsB ops tab = true) (hl : t0.length = tab.length) (I : (Nat → Bool) → (Nat → Value) → World → Prop)
    (h0 : I (fun _ => false) (fun _ => undef) w.drew)
    (hstep : AllFrom (fun i o => ∀ L σ W, L i = false → (∀ e ∈ o.after, Region.binds .any e = true → L e.on = true) → I L σ W → OpIn F n P o (lazyA L σ t0 tab d0).eval W (fun v W' => I (updL L i) (updS σ i v) W')) 0 ops)
    (hdone : ∀ L σ W, (∀ j, j < ops.length → L j = true) → I L σ W → Q .normal (lazyA (fun _ => true) σ t0 tab d0) W) :
    (Code.region id ops.toArray true).wpIn F n P Q { tmps := t0.toArray, defers := d0 } w := by
  have hF := fits_of hf
  refine wpIn_region_any hm ?_
  rw [← lazy_start (d0 := d0) hF (fun _ => undef) hl, ← toL_none ops.toArray.size]
  refine wpAnyIn_lazy (I := I) hF hl (fun i o ho => ?_) (fun L σ W hL hI => ?_) _ _ _ _ (by simp) (falses_none _) (by rw [toL_none]; exact h0)
  · have := allFrom_get hstep i o ho
    rwa [Nat.zero_add] at this
  · have e : lazyA L σ t0 tab d0 = lazyA (fun _ => true) σ t0 tab d0 := by
      unfold lazyA
      rw [lazyT_congr (fun j hj => hL j (hF.rg j hj))]
    rw [e]
    exact hdone L σ W hL hI
theorem wp_region_lazy {id : Nat} {w : World} (hm : P.follows .mixedOrders = true) (tab : List (Option Nat)) (hf : fitsB ops tab = true) (hl : t0.length = tab.length) (I : (Nat → Bool) → (Nat → Value) → World → Prop)
    (h0 : I (fun _ => false) (fun _ => undef) w.drew)
    (hstep : AllFrom (fun i o => ∀ L σ W, L i = false → (∀ e ∈ o.after, Region.binds .any e = true → L e.on = true) → I L σ W → Op1 P o (lazyA L σ t0 tab d0).eval W (fun v W' => I (updL L i) (updS σ i v) W')) 0 ops)
    (hdone : ∀ L σ W, (∀ j, j < ops.length → L j = true) → I L σ W → Q .normal (lazyA (fun _ => true) σ t0 tab d0) W) :
    (Code.region id ops.toArray true).wp P Q { tmps := t0.toArray, defers := d0 } w := by
  have hF := fits_of hf
  refine wp_region_any hm ?_
  rw [← lazy_start (d0 := d0) hF (fun _ => undef) hl, ← toL_none ops.toArray.size]
  refine wpAny_lazy (I := I) hF hl (fun i o ho => ?_) (fun L σ W hL hI => ?_) _ _ _ _ (by simp) (falses_none _) (by rw [toL_none]; exact h0)
  · have := allFrom_get hstep i o ho
    rwa [Nat.zero_add] at this
  · have e : lazyA L σ t0 tab d0 = lazyA (fun _ => true) σ t0 tab d0 := by
      unfold lazyA
      rw [lazyT_congr (fun j hj => hL j (hF.rg j hj))]
    rw [e]
    exact hdone L σ W hL hI
end
end Go.Proofs.Ytiladcdogbeomaa.Lazy

namespace Go.Proofs.Ytiladcdogbeomaa.Lazy
open Go
def fitsG (ops : List Oper) (tab : List (Option Nat)) : Bool :=
  (ops.zipIdx.all fun (o, i) => (match o.dst with | some d => tab[d]? == some (some i) | none => true) && (match o.guard with | none => true | some (j, _) => o.after.any (fun e => e.on == j && Region.binds .any e) && ((ops[j]?).bind (·.dst)).isSome) && o.after.all (fun e => !Region.binds .any e || decide (e.on < i)) && (match o.op with | .defer _ => false | _ => true)) &&
  (tab.zipIdx.all fun (o, s) => match o with | some j => ((ops[j]?).map (·.dst)) == some (some s) | none => true)
/-- The same operations without their guards. -/
def bare (ops : List Oper) : List Oper := ops.map fun o => { o with guard := none }
theorem bare_get {ops : List Oper} {i : Nat} : (bare ops)[i]? = (ops[i]?).map fun o => { o with guard := none } := by unfold bare; rw [List.getElem?_map]
theorem fits_bare {ops : List Oper} {tab : List (Option Nat)} (h : fitsG ops tab = true) : fitsB (bare ops) tab = true := by
  unfold fitsG at h
  rw [Bool.and_eq_true, List.all_eq_true, List.all_eq_true] at h
  obtain ⟨h1, h2⟩ := h
  unfold fitsB
  rw [Bool.and_eq_true, List.all_eq_true, List.all_eq_true]
  refine ⟨?_, ?_⟩
  · rintro ⟨o, i⟩ hm
    have hi := List.mem_zipIdx_iff_getElem?.1 hm
    simp only at hi
    rw [bare_get] at hi
    cases ho : ops[i]? with
    | none => rw [ho] at hi; cases hi
    | some o2 =>
      rw [ho] at hi
      simp only [Option.map_some, Option.some.injEq] at hi
      have := h1 (o2, i) (List.mem_zipIdx_iff_getElem?.2 (by simpa using ho))
      subst hi
      simp only [Bool.and_eq_true] at this
      obtain ⟨⟨⟨a, b⟩, c⟩, d⟩ := this
      simp only [Bool.and_eq_true]
      exact ⟨⟨⟨a, rfl⟩, c⟩, d⟩
  · rintro ⟨o, s⟩ hm
    have := h2 (o, s) hm
    cases o with
    | none => rfl
    | some j =>
      simp only at this ⊢
      rw [bare_get, Option.map_map]
      exact this
theorem fitsG_gd {ops : List Oper} {tab : List (Option Nat)} (h : fitsG ops tab = true) {i : Nat} {o : Oper} (ho : ops[i]? = some o) {j : Nat} {b : Bool} (hg : o.guard = some (j, b)) :
    (∃ e ∈ o.after, Region.binds .any e = true ∧ e.on = j) ∧ ∃ d, (ops[j]?).bind (·.dst) = some d := by
  unfold fitsG at h
  rw [Bool.and_eq_true, List.all_eq_true] at h
  have := h.1 (o, i) (List.mem_zipIdx_iff_getElem?.2 (by simpa using ho))
  simp only [Bool.and_eq_true, hg] at this
  obtain ⟨⟨⟨_, b, d⟩, _⟩, _⟩ := this
  rw [Array.any_eq_true'] at b
  obtain ⟨e, he, hb⟩ := b
  simp only [Bool.and_eq_true, beq_iff_eq] at hb
  exact ⟨⟨e, he, hb.2, hb.1⟩, Option.isSome_iff_exists.1 d⟩
section
variable {P : Program} {Q : Exit → Act → World → Prop} {ops : List Oper} {tab : List (Option Nat)} {t0 : List Value} {d0 : List Deferred} {I : (Nat → Bool) → (Nat → Value) → World → Prop}
theorem ready_bare {listed : Array Bool} (h : Region.ready .any ops.toArray listed = []) : Region.ready .any (bare ops).toArray listed = [] := by
  refine List.eq_nil_iff_forall_not_mem.2 fun j hj => ?_
  obtain ⟨h0, o, ho, hall⟩ := mem_ready.1 hj
  rw [List.getElem?_toArray, bare_get] at ho
  cases h2 : ops[j]? with
  | none => rw [h2] at ho; cases ho
  | some o2 =>
    rw [h2] at ho
    simp only [Option.map_some, Option.some.injEq] at ho
    subst ho
    have hm : j ∈ Region.ready .any ops.toArray listed := mem_ready.2 ⟨h0, o2, by rw [List.getElem?_toArray, h2], hall⟩
    rw [h] at hm; cases hm
theorem Op1.mono {o : Oper} {ρ : Operand → Value} {W : World} {K K' : Value → World → Prop} (h : Op1 P o ρ W K) (hK : ∀ v W', K v W' → K' v W') : Op1 P o ρ W K' := by
  unfold Op1 at *
  generalize (execOp ρ o).run P W = r at *
  cases r with
  | ok x w' =>
    cases x <;> simp only at h ⊢
    case value => exact hK _ _ h
    case skip => exact hK _ _ h
    case enter => exact h.mono fun e w'' ⟨v, he, hk⟩ => ⟨v, he, hK _ _ hk⟩
    all_goals exact h
  | halt x w' => exact h
theorem wpAny_guard (hG : fitsG ops tab = true) (hl : t0.length = tab.length)
    (hg : ∀ (i : Nat) (o : Oper), ops[i]? = some o → ∀ j b, o.guard = some (j, b) → ∀ L σ W, I L σ W → L j = true → σ j = .bool b)
    (hstep : ∀ (i : Nat) (o : Oper), ops[i]? = some o → ∀ L σ W, L i = false → (∀ e ∈ o.after, Region.binds .any e = true → L e.on = true) → I L σ W → Op1 P o (lazyA L σ t0 tab d0).eval W (fun v W' => I (updL L i) (updS σ i v) W'))
    (hdone : ∀ L σ W, (∀ j, j < ops.length → L j = true) → I L σ W → Q .normal (lazyA L σ t0 tab d0) W) :
    ∀ (fuel : Nat) (listed : Array Bool) (σ : Nat → Value) (W : World), listed.size = ops.length → falses listed ≤ fuel → I (toL listed) σ W → wpAny P .any ops.toArray Q fuel listed (lazyA (toL listed) σ t0 tab d0) W := by
  have hf := fits_of (fits_bare hG)
  have hlen : (bare ops).length = ops.length := by unfold bare; simp
  have hal : ∀ {listed : Array Bool}, listed.size = ops.length → Region.ready .any ops.toArray listed = [] → ∀ j, j < ops.length → toL listed j = true := by
    intro listed hs hr j hj
    exact all_listed hf (by rw [hlen]; exact hs) (ready_bare hr) j (by rw [hlen]; exact hj)
  intro fuel
  induction fuel with
  | zero =>
    intro listed σ W hs hn hI
    have hr : Region.ready .any ops.toArray listed = [] := by
      cases hr : Region.ready .any ops.toArray listed with
      | nil => rfl
      | cons x xs =>
        have hx : x ∈ Region.ready .any ops.toArray listed := by rw [hr]; exact List.mem_cons_self ..
        have := falses_set (mem_ready.1 hx).1
        omega
    exact ⟨hr, hdone _ _ _ (hal hs hr) hI⟩
  | succ fuel ih =>
    intro listed σ W hs hn hI
    refine ⟨fun hr => hdone _ _ _ (hal hs hr) hI, ?_⟩
    intro i hi
    obtain ⟨h0, o, ho, hall⟩ := mem_ready.1 hi
    have ho' : ops[i]? = some o := by simpa using ho
    have hob : (bare ops)[i]? = some { o with guard := none } := by rw [bare_get, ho']; rfl
    have hlt : i < listed.size := by rw [hs]; exact (List.getElem?_eq_some_iff.1 ho').1
    have hLi : toL listed i = false := by
      unfold toL
      simp [hlt] at h0 ⊢; exact h0
    have hw : Region.wanted o (yielded ops.toArray (lazyA (toL listed) σ t0 tab d0).tmps) = true := by
      unfold Region.wanted
      cases hgd : o.guard with
      | none => rfl
      | some jb =>
        obtain ⟨j, b⟩ := jb
        obtain ⟨⟨e, he, hb, hej⟩, d, hd⟩ := fitsG_gd hG ho' hgd
        have hLj : toL listed j = true := by rw [← hej]; exact hall e he hb
        have hv := hg i o ho' j b hgd _ _ _ hI hLj
        have htab : tab[d]? = some (some j) := by
          cases hoj : ops[j]? with
          | none => rw [hoj] at hd; cases hd
          | some oj =>
            rw [hoj] at hd
            exact hf.dst j { oj with guard := none } d (by rw [bare_get, hoj]; rfl) hd
        have hget := lazyT_get (σ := σ) hl htab hLj
        simp only [yielded, List.getElem?_toArray, hd, Option.bind_some, lazyA, hget, hv]
        simp
    unfold wpOp
    rw [ho]
    simp only
    rw [if_pos hw]
    refine .inl ((hstep i o ho' _ _ _ hLi hall hI).wp ?_)
    intro v W' hI'
    have hp := put_lazy (L := toL listed) (σ := σ) (t0 := t0) (d0 := d0) hf hl hob v
    simp only at hp
    rw [hp, ← toL_set hlt]
    exact ih _ _ _ (by simpa using hs) (by have := falses_set h0; omega) (by rw [toL_set hlt]; exact hI')
/-- What is told of an operation: the world's relation, the values of what it waits for, the elder temporaries. -/
def Told (Val : Nat → Value → World → Prop) (tab : List (Option Nat)) (t0 : List Value) (o : Oper) (ρ : Operand → Value) (W : World) : Prop :=
  (∀ s j, tab[s]? = some (some j) → (o.after.toList.any fun e => e.on == j && Region.binds .any e) = true → Val j (ρ (.tmp s)) W) ∧ (∀ s x, t0[s]? = some x → tab[s]? = some none → ρ (.tmp s) = x) ∧ (∀ v, ρ (.const v) = v) ∧ (∀ f, ρ (.func f) = .func (.func f) #[] #[])
/-- A REGION THAT DRAWS ITS ORDER, TOLD BY VALUES. -/
theorem wp_region_vals {id : Nat} {w : World} (hm : P.follows .mixedOrders = true) (tab : List (Option Nat)) (hG : fitsG ops tab = true) (hl : t0.length = tab.length)
    (R : World → World → Prop) (J : World → Prop) (Val : Nat → Value → World → Prop) (hR : R w w.drew) (hJ : J w.drew) (ht : ∀ A B C, R A B → R B C → R A C)
    (hst : ∀ j v W W', J W → R W W' → Val j v W → Val j v W')
    (hg : AllFrom (fun _ o => ∀ j b, o.guard = some (j, b) → ∀ v W, Val j v W → v = .bool b) 0 ops)
    (hstep : AllFrom (fun i o => ∀ ρ W, R w W → J W → Told Val tab t0 o ρ W → Op1 P o ρ W (fun v W' => R W W' ∧ J W' ∧ Val i v W')) 0 ops)
    (hdone : ∀ σ W, R w W → J W → (∀ j, j < ops.length → Val j (σ j) W) → Q .normal (lazyA (fun _ => true) σ t0 tab d0) W) :
    (Code.region id ops.toArray true).wp P Q { tmps := t0.toArray, defers := d0 } w := by
  have hF := fits_of (fits_bare hG)
  have hlen : (bare ops).length = ops.length := by unfold bare; simp
  refine wp_region_any hm ?_
  rw [← lazy_start (d0 := d0) hF (fun _ => undef) hl, ← toL_none ops.toArray.size]
  refine wpAny_guard (I := fun L σ W => R w W ∧ J W ∧ ∀ j, L j = true → Val j (σ j) W) hG hl (fun i o ho j b hgd L σ W hI hL => ?_) (fun i o ho L σ W hLi hall hI => ?_) (fun L σ W hL hI => ?_) _ _ _ _ (by simp) (falses_none _) ⟨hR, hJ, fun j hj => by rw [toL_none] at hj; cases hj⟩
  · have := allFrom_get hg i o ho
    exact this j b hgd _ W (hI.2.2 j hL)
  · have := allFrom_get hstep i o ho
    rw [Nat.zero_add] at this
    refine Op1.mono (this _ W hI.1 hI.2.1 ⟨fun s j hs ha => ?_, fun s x hx hs => lazy_old hx hs, fun v => rfl, fun f => rfl⟩) ?_
    · obtain ⟨e, he, hb⟩ := List.any_eq_true.1 ha
      simp only [Bool.and_eq_true, beq_iff_eq] at hb
      have hLj : L j = true := by rw [← hb.1]; exact hall e (by simpa using he) hb.2
      rw [lazy_eval hl hs hLj]
      exact hI.2.2 j hLj
    · rintro v W' ⟨h1, h2, h3⟩
      refine ⟨ht _ _ _ hI.1 h1, h2, fun j hj => ?_⟩
      by_cases e : j = i
      · subst e; simpa [updS] using h3
      · simp only [updS, if_neg e]
        exact hst j _ _ _ hI.2.1 h1 (hI.2.2 j (upd_other hj e))
  · have e : lazyA L σ t0 tab d0 = lazyA (fun _ => true) σ t0 tab d0 := by
      unfold lazyA
      rw [lazyT_congr (fun j hj => hL j (by have := hF.rg j hj; omega))]
    rw [e]
    exact hdone σ W hI.1 hI.2.1 (fun j hj => hI.2.2 j (hL j hj))
/-- THE SAME, WHERE THE WORLD'S STATE IS TOLD BY WHAT HAS COME UP: J L W; whatever has come up has had what it waits for before it ('hcl'). -/
theorem wp_region_valsL {id : Nat} {w : World} (hm : P.follows .mixedOrders = true) (tab : List (Option Nat)) (hG : fitsG ops tab = true) (hl : t0.length = tab.length)
    (R : World → World → Prop) (J : (Nat → Bool) → World → Prop) (Val : Nat → Value → World → Prop) (hJ : J (fun _ => false) w.drew)
    (hst : ∀ j v W W', R W W' → Val j v W → Val j v W')
    (hg : AllFrom (fun _ o => ∀ j b, o.guard = some (j, b) → ∀ v W, Val j v W → v = .bool b) 0 ops)
    (hstep : AllFrom (fun i o => ∀ L ρ W, L i = false → (∀ j d, (((ops[j]?).map fun o => o.after.toList.any fun e => e.on == d && Region.binds .any e) == some true) = true → L j = true → L d = true) → J L W → Told Val tab t0 o ρ W → Op1 P o ρ W (fun v W' => R W W' ∧ J (updL L i) W' ∧ Val i v W')) 0 ops)
    (hdone : ∀ σ L W, (∀ j, j < ops.length → L j = true) → J L W → (∀ j, j < ops.length → Val j (σ j) W) → Q .normal (lazyA (fun _ => true) σ t0 tab d0) W) :
    (Code.region id ops.toArray true).wp P Q { tmps := t0.toArray, defers := d0 } w := by
  have hF := fits_of (fits_bare hG)
  have hlen : (bare ops).length = ops.length := by unfold bare; simp
  refine wp_region_any hm ?_
  rw [← lazy_start (d0 := d0) hF (fun _ => undef) hl, ← toL_none ops.toArray.size]
  refine wpAny_guard (I := fun L σ W => (∀ j d, (((ops[j]?).map fun o => o.after.toList.any fun e => e.on == d && Region.binds .any e) == some true) = true → L j = true → L d = true) ∧ J L W ∧ ∀ j, L j = true → Val j (σ j) W) hG hl (fun i o ho j b hgd L σ W hI hL => ?_) (fun i o ho L σ W hLi hall hI => ?_) (fun L σ W hL hI => ?_) _ _ _ _ (by simp) (falses_none _) (by rw [toL_none]; exact ⟨fun j d _ hj => (by cases hj), hJ, fun j hj => (by cases hj)⟩)
  · have := allFrom_get hg i o ho
    exact this j b hgd _ W (hI.2.2 j hL)
  · have := allFrom_get hstep i o ho
    rw [Nat.zero_add] at this
    refine Op1.mono (this L _ W hLi hI.1 hI.2.1 ⟨fun s j hs ha => ?_, fun s x hx hs => lazy_old hx hs, fun v => rfl, fun f => rfl⟩) ?_
    · obtain ⟨e, he, hb⟩ := List.any_eq_true.1 ha
      simp only [Bool.and_eq_true, beq_iff_eq] at hb
      have hLj : L j = true := by rw [← hb.1]; exact hall e (by simpa using he) hb.2
      rw [lazy_eval hl hs hLj]
      exact hI.2.2 j hLj
    · rintro v W' ⟨h1, h2, h3⟩
      refine ⟨fun j d hjd hj => ?_, h2, fun j hj => ?_⟩
      · by_cases e : j = i
        · subst e
          rw [ho] at hjd
          simp only [Option.map_some, beq_iff_eq, Option.some.injEq] at hjd
          obtain ⟨e, he, hb⟩ := List.any_eq_true.1 hjd
          simp only [Bool.and_eq_true, beq_iff_eq] at hb
          exact upd_keep _ (by rw [← hb.1]; exact hall e (by simpa using he) hb.2)
        · exact upd_keep _ (hI.1 j d hjd (upd_other hj e))
      · by_cases e : j = i
        · subst e; simpa [updS] using h3
        · simp only [updS, if_neg e]
          exact hst j _ _ _ h1 (hI.2.2 j (upd_other hj e))
  · have e : lazyA L σ t0 tab d0 = lazyA (fun _ => true) σ t0 tab d0 := by
      unfold lazyA
      rw [lazyT_congr (fun j hj => hL j (by have := hF.rg j hj; omega))]
    rw [e]
    exact hdone σ L W hL hI.2.1 (fun j hj => hI.2.2 j (hL j hj))
end
end Go.Proofs.Ytiladcdogbeomaa.Lazy

namespace Go.Proofs.Ytiladcdogbeomaa.RowLaws
open Go.RowKit
/-- What a call on what lies at block g leaves: all other blocks that were there are as they were. -/
abbrev Only (g : Nat) (w w' : World) : Prop := w.grownBy w' (some g)
theorem Only.refl (g : Nat) (w : World) : Only g w w := ⟨rfl, rfl, rfl, Nat.le_refl _, fun _ _ _ => rfl⟩
theorem Only.trans {g : Nat} {a b c : World} (h : Only g a b) (k : Only g b c) : Only g a c :=
  ⟨k.os.trans h.os, k.tape.trans h.tape, k.output.trans h.output, Nat.le_trans h.size k.size, fun i hi hn => (k.block i (Nat.lt_of_lt_of_le hi h.size) hn).trans (h.block i hi hn)⟩
theorem Only.of_below {g : Nat} {w w' : World} (h : Below w.heap.size w w') : Only g w w' := ⟨h.os, h.tape, h.output, h.size, fun i hi _ => h.block i hi⟩
theorem Only.below {g n : Nat} {w w' : World} (h : Only g w w') (hn : n ≤ g) (hs : n ≤ w.heap.size) : Below n w w' := ⟨h.os, h.tape, h.output, h.size, fun i hi => h.block i (by omega) (by intro e; injection e; omega)⟩
theorem Only.cell {g : Nat} {w w' : World} (h : Only g w w') {p : Addr} {v : Value} (hp : p.block ≠ g) (hv : w.cell? p = some v) : w'.cell? p = some v :=
  (World.cell?_of_block (h.block p.block (World.block_lt_of_cell? _ _ hv) (by intro e; injection e; exact hp ‹_›))).trans hv
theorem Only.frozen {g : Nat} {w w' : World} (h : Only g w w') {p : Addr} (hl : p.block < w.heap.size) (hp : p.block ≠ g) : w'.frozen? p = w.frozen? p :=
  World.frozen?_of_block (h.block p.block hl (by intro e; injection e; exact hp ‹_›))
theorem Only.setCell {g : Nat} {a w : World} (h : Only g a w) {p : Addr} (hp : p.block = g) (u : Value) : Only g a (w.setCell p u) :=
  h.trans ⟨rfl, rfl, rfl, by simp [World.setCell], fun k _ hn => Below.heap_setCell _ _ _ _ (by intro e; subst e; exact hn (by rw [hp]))⟩
theorem Only.setRow {g : Nat} {a w : World} (h : Only g a w) (cs : Array Value) : Only g a (w.setRow g cs) :=
  h.trans ⟨rfl, rfl, rfl, by simp [World.setRow], fun k _ hn => setRow_other w g k cs (by intro e; exact hn (by rw [e]))⟩
theorem Only.alloc {g : Nat} {a w : World} (h : Only g a w) (o : Obj) : Only g a (w.alloc o) := h.trans (Only.of_below ((Below.refl _ _).alloc (Nat.le_refl _) o))
theorem Only.drew {g : Nat} {a w : World} (h : Only g a w) : Only g a w.drew := h.trans ⟨rfl, rfl, rfl, Nat.le_refl _, fun _ _ _ => rfl⟩
theorem Only.step {g : Nat} {a b c : World} (h : Only g a b) (k : Below b.heap.size b c) : Only g a c := h.trans (Only.of_below k)
/-- a turn of what was made since is none of what was there -/
theorem Only.fresh {g : Nat} {a b c : World} (h : Below a.heap.size a b) (k : Only g b c) (hg : a.heap.size ≤ g) : Below a.heap.size a c :=
  h.trans (k.below hg h.size)

section
variable {P : Program} {w : World} {ops : Array Oper} {rest : List Oper} {o : Oper} {a : Act} {Q : Exit → Act → World → Prop}
theorem run_copy_rows (w : World) (dT sT ty elem : TypeId) (sz : Nat) (g off dLen dCap : Nat) (ad : Addr) (sLen sCap : Nat) (cur : Array Value) (t : TypeId) (cs : List Value)
    (hu : P.underlying dT = some (.slice elem)) (hs : (P.info? elem).map (·.size) = some sz)
    (hg : w.heap[g]? = some (.cells cur t (0, 0))) (m : Nat) (hm : m = Nat.min sLen dLen) (hn : cs.length = m * sz)
    (hsrc : ∀ j v, cs[j]? = some v → w.cell? (ad.add j) = some v) (hfit : off + cs.length ≤ cur.size) (h1 : ∀ v ∈ cs, v.oneCell' = true) :
    (Builtin.copy_ #[dT, sT] ty #[.slice (some ⟨g, off, none⟩) dLen dCap, .slice (some ad) sLen sCap]).run P w =
      .ok (goInt m) (w.setRow g (cur.toList.take off ++ cs ++ cur.toList.drop (off + cs.length)).toArray) := by
  have hst := run_storeCells_at P g off t cs 0 cur w hg (by simpa using hfit) h1
  cases hq : P.info? elem with
  | none => simp [hq] at hs
  | some i =>
    have hi : i.size = sz := by simpa [hq] using hs
    have hl := run_firstCells_some (P := P) w sz m ad sLen sCap cs hn hsrc
    simp [Builtin.copy_, run_underlying hu, Builtin.lenOf, sizeOf, typeInfo, hq, hi, ← hm, hl, hst]
theorem run_copy_rows_none (w : World) (dT sT ty elem : TypeId) (d ad : Option Addr) (dLen dCap sLen sCap : Nat) (hu : P.underlying dT = some (.slice elem)) (hs : ((P.info? elem).map (·.size)).isSome = true) (hn : Nat.min sLen dLen = 0) :
    (Builtin.copy_ #[dT, sT] ty #[.slice d dLen dCap, .slice ad sLen sCap]).run P w = .ok (goInt 0) w := by
  cases hq : P.info? elem with
  | none => simp [hq] at hs
  | some i =>
    have hl : ∀ (x : Addr), (Builtin.firstCells i.size 0 (.slice (some x) sLen sCap)).run P w = .ok #[] w := fun x => by simpa using run_firstCells_some (P := P) w i.size 0 x sLen sCap [] (by simp) (by simp)
    have hl' : (Builtin.firstCells i.size 0 (.slice none sLen sCap)).run P w = .ok #[] w := run_firstCells_none (P := P) w i.size 0 sLen sCap
    cases d <;> cases ad <;> simp [Builtin.copy_, run_underlying hu, Builtin.lenOf, sizeOf, typeInfo, hq, hn, storeCells, hl, hl']
theorem wpList_copy_rows (hgd : o.guard = none) (d s : Operand) (dT sT : TypeId)
    (ho : o.op = .call { callee := .builtin .copy, args := #[d, s], argTypes := #[dT, sT] }) (elem : TypeId) (sz : Nat) (hu : P.underlying dT = some (.slice elem)) (hsz : (P.info? elem).map (·.size) = some sz)
    (dp sp : Option Addr) (dLen dCap sLen sCap : Nat) (hd : a.eval d = .slice dp dLen dCap) (hs : a.eval s = .slice sp sLen sCap)
    (g off : Nat) (cur : List Value) (t : TypeId) (hg : w.heap[g]? = some (.cells cur.toArray t (0, 0))) (m : Nat) (hm : m = Nat.min sLen dLen) (cs : List Value) (hn : cs.length = m * sz)
    (hpos : 0 < m → dp = some ⟨g, off, none⟩ ∧ ∃ ad, sp = some ad ∧ ∀ j v, cs[j]? = some v → w.cell? (ad.add j) = some v)
    (hfit : off + cs.length ≤ cur.length) (h1 : ∀ v ∈ cs, v.oneCell' = true)
    (h : ∀ w', Hid (w'.heap[g]? = some (.cells (splice cur off cs).toArray t (0, 0))) → Only g w w' → wpList P ops Q rest (a.put o.dst (goInt m)) w') :
    wpList P ops Q (o :: rest) a w := by
  refine wpList_plain hgd fun K hK => ?_
  by_cases h0 : m = 0
  · obtain rfl : cs = [] := List.eq_nil_of_length_eq_zero (by rw [hn, h0, Nat.zero_mul])
    subst h0
    have hrun := run_copy_rows_none (P := P) w dT sT o.type elem dp sp dLen dCap sLen sCap hu (by rw [hsz]; rfl) hm.symm
    unfold Oper.wp
    simp [execOp, ho, resolve, invoke, builtin, hd, hs, hrun, Result.andThen]
    exact hK _ _ (h w (show _ = _ by simpa [splice] using hg) (Only.refl _ _))
  · obtain ⟨rfl, ad, rfl, hsrc⟩ := hpos (by omega)
    have hrun := run_copy_rows (P := P) w dT sT o.type elem sz g off dLen dCap ad sLen sCap cur.toArray t cs hu hsz hg m hm hn hsrc (by simpa using hfit) h1
    unfold Oper.wp
    simp [execOp, ho, resolve, invoke, builtin, hd, hs, hrun, Result.andThen]
    exact hK _ _ (by simpa using h _ (show _ = _ by simpa [splice] using setRow_heap w g _ _ t _ hg) ((Only.refl _ _).setRow _))
theorem gate_stepb {K : Act → World → Prop} {E : Prop} {b : Builtin} {xs : Array Operand} {ts : Array TypeId} (_ho : o.op = .call { callee := .builtin b, args := xs, argTypes := ts }) (h : if Region.wanted o (yielded ops a.tmps) = true then Oper.wp P o a w K Q else E) : if Region.wanted o (yielded ops a.tmps) = true then Oper.wp P o a w K Q else E := h
theorem step_copy_rows {K : Act → World → Prop} {E : Prop} (hgd : o.guard = none) (d s : Operand) (dT sT : TypeId)
    (ho : o.op = .call { callee := .builtin .copy, args := #[d, s], argTypes := #[dT, sT] }) (elem : TypeId) (sz : Nat) (hu : P.underlying dT = some (.slice elem)) (hsz : (P.info? elem).map (·.size) = some sz)
    (dp sp : Option Addr) (dLen dCap sLen sCap : Nat) (hd : a.eval d = .slice dp dLen dCap) (hs : a.eval s = .slice sp sLen sCap)
    (g off : Nat) (cur : List Value) (t : TypeId) (hg : w.heap[g]? = some (.cells cur.toArray t (0, 0))) (m : Nat) (hm : m = Nat.min sLen dLen) (cs : List Value) (hn : cs.length = m * sz)
    (hpos : 0 < m → dp = some ⟨g, off, none⟩ ∧ ∃ ad, sp = some ad ∧ ∀ j v, cs[j]? = some v → w.cell? (ad.add j) = some v)
    (hfit : off + cs.length ≤ cur.length) (h1 : ∀ v ∈ cs, v.oneCell' = true)
    (h : ∀ w', Hid (w'.heap[g]? = some (.cells (splice cur off cs).toArray t (0, 0))) → Only g w w' → K (a.put o.dst (goInt m)) w') :
    if Region.wanted o (yielded ops a.tmps) = true then Oper.wp P o a w K Q else E := by
  have hw : Region.wanted o (yielded ops a.tmps) = true := by simp [Region.wanted, hgd]
  rw [if_pos hw]
  by_cases h0 : m = 0
  · obtain rfl : cs = [] := List.eq_nil_of_length_eq_zero (by rw [hn, h0, Nat.zero_mul])
    subst h0
    have hrun := run_copy_rows_none (P := P) w dT sT o.type elem dp sp dLen dCap sLen sCap hu (by rw [hsz]; rfl) hm.symm
    unfold Oper.wp
    simp [execOp, ho, resolve, invoke, builtin, hd, hs, hrun, Result.andThen]
    exact h w (show _ = _ by simpa [splice] using hg) (Only.refl _ _)
  · obtain ⟨rfl, ad, rfl, hsrc⟩ := hpos (by omega)
    have hrun := run_copy_rows (P := P) w dT sT o.type elem sz g off dLen dCap ad sLen sCap cur.toArray t cs hu hsz hg m hm hn hsrc (by simpa using hfit) h1
    unfold Oper.wp
    simp [execOp, ho, resolve, invoke, builtin, hd, hs, hrun, Result.andThen]
    have hh := h _ (show _ = _ by simpa [splice] using setRow_heap w g _ _ t _ hg) ((Only.refl _ _).setRow (cur.take off ++ cs ++ cur.drop (off + cs.length)).toArray)
    simp only [List.append_assoc] at hh
    exact hh
theorem run_clear_rows (w : World) (t e ty : TypeId) (z : Value) (sz : Nat) (ht : P.underlying t = some (.slice e)) (hv : ∀ w, (zeroValue e).run P w = .ok z w) (hz : z.cells.size = sz) (h1 : ∀ u ∈ z.cells.toList, u.oneCell' = true) (g off n c : Nat) (hn : 0 < n)
    (cur : Array Value) (tt : TypeId) (hg : w.heap[g]? = some (.cells cur tt (0, 0))) (hfit : off + n * sz ≤ cur.size) :
    ∃ Z : List Value, Z.length = n * sz ∧ (Builtin.clear_ #[t] ty #[.slice (some ⟨g, off, none⟩) n c]).run P w = .ok (.tuple #[]) (w.setRow g (cur.toList.take off ++ Z ++ cur.toList.drop (off + Z.length)).toArray) := by
  have hzl : (Builtin.zeroCells z.cells n).toList.length = n * sz := by simp [Builtin.zeroCells, hz]
  have hst := run_storeCells_at P g off tt (Builtin.zeroCells z.cells n).toList 0 cur w hg (by simpa [hzl] using hfit) (by
    intro v hv'
    obtain ⟨i, hi, rfl⟩ := List.getElem_of_mem hv'
    have hi' : i < n * z.cells.size := by simpa [Builtin.zeroCells] using hi
    have hpos : 0 < z.cells.size := Nat.pos_of_ne_zero (fun h => by rw [h] at hi'; simp at hi')
    have hlt : i % z.cells.size < z.cells.size := Nat.mod_lt _ hpos
    have e : (Builtin.zeroCells z.cells n).toList[i] = z.cells.toList[i % z.cells.size]'(by simpa using hlt) := by
      simp [Builtin.zeroCells, hlt]
    rw [e]
    exact h1 _ (List.getElem_mem _))
  simp only [Nat.add_zero] at hst
  refine ⟨_, hzl, ?_⟩
  obtain ⟨m, rfl⟩ : ∃ m, n = m + 1 := ⟨n - 1, by omega⟩
  simp [Builtin.clear_, run_underlying ht, hv, hst]
theorem wpList_clear_rows (hgd : o.guard = none) (s : Operand) (t : TypeId)
    (ho : o.op = .call { callee := .builtin .clear, args := #[s], argTypes := #[t] }) (e : TypeId) (z : Value) (sz : Nat) (ht : P.underlying t = some (.slice e)) (hv : ∀ w, (zeroValue e).run P w = .ok z w) (hz : z.cells.size = sz) (h1 : ∀ u ∈ z.cells.toList, u.oneCell' = true)
    (sp : Option Addr) (n c : Nat) (hs : a.eval s = .slice sp n c) (g off : Nat) (cur : List Value) (tt : TypeId) (hg : w.heap[g]? = some (.cells cur.toArray tt (0, 0)))
    (hpos : 0 < n → sp = some ⟨g, off, none⟩) (hfit : off + n * sz ≤ cur.length)
    (h : ∀ w' Z, Z.length = n * sz → Hid (w'.heap[g]? = some (.cells (splice cur off Z).toArray tt (0, 0))) → Only g w w' → wpList P ops Q rest (a.put o.dst (.tuple #[])) w') :
    wpList P ops Q (o :: rest) a w := by
  refine wpList_plain hgd fun K hK => ?_
  by_cases h0 : n = 0
  · subst h0
    have hrun : (Builtin.clear_ #[t] o.type #[.slice sp 0 c]).run P w = .ok (.tuple #[]) w := by
      cases sp <;> simp [Builtin.clear_, run_underlying ht]
    unfold Oper.wp
    simp [execOp, ho, resolve, invoke, builtin, hs, hrun, Result.andThen]
    exact hK _ _ (h w [] (by simp) (show _ = _ by simpa [splice] using hg) (Only.refl _ _))
  · obtain rfl := hpos (by omega)
    obtain ⟨Z, hZ, hrun⟩ := run_clear_rows (P := P) w t e o.type z sz ht hv hz h1 g off n c (by omega) cur.toArray tt hg (by simpa using hfit)
    unfold Oper.wp
    simp [execOp, ho, resolve, invoke, builtin, hs, hrun, Result.andThen]
    exact hK _ _ (by simpa using h _ Z hZ (show _ = _ by simpa [splice] using setRow_heap w g _ _ tt _ hg) ((Only.refl _ _).setRow _))
theorem wpList_append_room (hgd : o.guard = none) (s x : Operand) (t : TypeId)
    (ho : o.op = .call { callee := .builtin .append, args := #[s, x], argTypes := #[t, t] }) (e : TypeId) (i : TypeInfo) (sz : Nat) (ht : P.underlying t = some (.slice e)) (hi : P.info? e = some i) (hsz : i.size = sz)
    (g n cap : Nat) (hs : a.eval s = .slice (some ⟨g, 0, none⟩) n cap) (cur : List Value) (hg : w.heap[g]? = some (.cells cur.toArray e (0, 0)))
    (ad : Addr) (m c : Nat) (hx : a.eval x = .slice (some ad) m c) (news : List Value) (hl : news.length = m * sz) (hnews : ∀ j u, news[j]? = some u → w.cell? (ad.add j) = some u) (h1 : ∀ u ∈ news, u.oneCell' = true)
    (hroom : n + m ≤ cap) (hfit : n * sz + news.length ≤ cur.length)
    (h : ∀ w', Hid (w'.heap[g]? = some (.cells (splice cur (n * sz) news).toArray e (0, 0))) → Only g w w' → wpList P ops Q rest (a.put o.dst (.slice (some ⟨g, 0, none⟩) (n + m) cap)) w') :
    wpList P ops Q (o :: rest) a w := by
  refine wpList_plain hgd fun K hK => ?_
  have hrun := run_append_room (P := P) w t o.type e i ht hi g n cap cur.toArray hg ad m c news (by rw [hsz]; exact hl) hnews h1 hroom (by simpa [hsz] using hfit)
  unfold Oper.wp
  simp [execOp, ho, resolve, invoke, builtin, hs, hx, hrun, Result.andThen]
  exact hK _ _ (by simpa [hsz] using h _ (show _ = _ by simpa [splice] using setRow_heap w g _ _ e _ hg) ((Only.refl _ _).setRow _))
theorem wpList_append_zeros (hgd : o.guard = none) (s x : Operand) (t tn : TypeId)
    (ho : o.op = .call { callee := .builtin .append, args := #[s, x], argTypes := #[t, tn] }) (e : TypeId) (i : TypeInfo) (z : Value) (sz : Nat) (kn : IntKind) (ht : P.underlying t = some (.slice e)) (htn : P.underlying tn = some (.int kn)) (hi : P.info? e = some i) (hz : i.zero = some z) (hsz : i.size = sz) (hzs : z.cells.size = sz)
    (b sLen sCap : Nat) (hs : a.eval s = .slice (some ⟨b, 0, none⟩) sLen sCap) (olds : List Value) (hol : olds.length = sLen * sz) (hold : ∀ j u, olds[j]? = some u → w.cell? ⟨b, j, none⟩ = some u)
    (kq : IntKind) (k : Nat) (hx : a.eval x = .int kq k) (h0 : 0 < k) (hs0 : 0 < sz) (hgr : sCap < sLen + k) (h63 : ((sLen + k : Nat) : Int) ≤ 9223372036854775807) (h48 : k * i.bytes ≤ 281474976710656) (hfit : Builtin.nextslicecap (sLen + k) sCap * i.bytes ≤ 281474976710656)
    (h : ∀ w' cap cur, sLen + k ≤ cap → cap ≤ maxLen → Hid (w'.heap[w.heap.size]? = some (.cells (List.toArray cur) e (0, 0))) → cur.length = cap * sz → cur.take (sLen * sz) = olds → Below w.heap.size w w' → w.heap.size < w'.heap.size → wpList P ops Q rest (a.put o.dst (.slice (some ⟨w.heap.size, 0, none⟩) (sLen + k) cap)) w') :
    wpList P ops Q (o :: rest) a w := by
  refine wpList_plain hgd fun K hK => ?_
  have hadd : ∀ j, (⟨b, 0, none⟩ : Addr).add j = ⟨b, j, none⟩ := fun j => by unfold Addr.add; split <;> simp_all
  have hf := run_firstCells_some (P := P) w.drew sz sLen ⟨b, 0, none⟩ sLen sCap olds hol (fun j v hv => by rw [hadd]; exact hold j v hv)
  have hrun := Lib.run_append_grow_zeros (P := P) w t tn o.type e i z kq kn ht htn hi hz (some ⟨b, 0, none⟩) sLen sCap olds (by rw [hsz]; exact hf) k h0 (by omega) hgr h63 h48 hfit
  unfold Oper.wp
  simp [execOp, ho, resolve, invoke, builtin, hs, hx, hrun, Result.andThen]
  have hge := grownCap_ge w (sLen + k) sCap e
  have hle := grownCap_le_maxLen w (sLen + k) sCap e (by unfold maxLen; omega)
  refine hK _ _ (h _ (grownCap w (sLen + k) sCap e) (olds ++ (Builtin.zeroCells z.cells k).toList ++ (Builtin.zeroCells z.cells (grownCap w (sLen + k) sCap e - (sLen + k))).toList) hge hle ?_ ?_ ?_ ?_ ?_)
  · show _ = _
    rw [show (olds ++ (Builtin.zeroCells z.cells k).toList ++ (Builtin.zeroCells z.cells (grownCap w (sLen + k) sCap e - (sLen + k))).toList).toArray = olds.toArray ++ (Builtin.zeroCells z.cells k ++ Builtin.zeroCells z.cells (grownCap w (sLen + k) sCap e - (sLen + k))) by simp]
    exact heap_alloc_new w.drew _
  · simp only [List.length_append, Array.length_toList, size_zeroCells, hzs, hol, ← Nat.add_mul]
    congr 1; omega
  · rw [List.append_assoc, ← hol]; exact List.take_left
  · exact ((Below.refl _ w).drew).alloc (Nat.le_refl _) _
  · simp
end
/-- A region that draws: what only reads goes first, in the order of the text, in a world that is a variable. -/
theorem still_tail_at {P : Program} {id : Nat} {Q : Exit → Act → World → Prop} {a : Act} {w : World} {l : List Oper} (n : Nat) (hm : P.follows .mixedOrders = true) (hB : Region.lexTailB .any l.toArray n = true)
    (h : ∀ W, W = w.drew → wpStill P l.toArray W (fun a' => wpList P l.toArray Q (l.drop n) a' W) (l.take n) a) : (Code.region id l.toArray true).wp P Q a w :=
  wp_region_still_tail n hm hB (h _ rfl)
end Go.Proofs.Ytiladcdogbeomaa.RowLaws

namespace Go.Proofs.Ytiladcdogbeomaa.Iter
open Go.RowKit Go.Shelf Go.Proofs.YtiladcdogbeomaaW.PrintWords Go.Proofs.YtiladcdogbeomaaW.PrintLast
attribute [local go_sem] Oper.semAt_some

/-- Does a span touch the numbers from, .., to? -/
def tch (f t : Int) (x : Int × Int) : Bool := decide (f ≤ x.2) && decide (x.1 ≤ t)
def hits (zs : List (Int × Int)) (f t : Int) (k : Nat) : List (Fin zs.length) := ((List.finRange zs.length).take k).filter fun j => tch f t zs[j]
theorem hits_succ (zs : List (Int × Int)) (f t : Int) (k : Nat) (hk : k < zs.length) : hits zs f t (k + 1) = hits zs f t k ++ (if tch f t zs[k] = true then [⟨k, hk⟩] else []) := by
  unfold hits
  rw [List.take_succ_eq_append_getElem (by simpa using hk), List.filter_append, List.getElem_finRange, List.filter_cons]
  rfl
theorem hits_length (zs : List (Int × Int)) (f t : Int) (k : Nat) : (hits zs f t k).length ≤ k := by
  unfold hits
  exact Nat.le_trans (List.length_filter_le _ _) (by rw [List.length_take]; omega)
/-- What a round that goes on keeps: all below n₀, and the cells of two boxes. -/
def Kp (n₀ Bf Bt : Nat) (W W' : World) : Prop := Below n₀ W W' ∧ W'.cell? ⟨Bf, 0, none⟩ = W.cell? ⟨Bf, 0, none⟩ ∧ W'.cell? ⟨Bt, 0, none⟩ = W.cell? ⟨Bt, 0, none⟩

set_option maxRecDepth 100000 in
set_option maxHeartbeats 4000000 in
theorem all1_in (F : Fence) (n : Nat) (h90 : F.fn 90) (hro : F.round = none) (hn : 1 ≤ n) (l Bs Bf Bt g n₀ b cap : Nat) (f t : Int) (zs : List (Int × Int)) (hreach : zs.length * 16 ≤ 140737488351232) (hb : b < n₀) (W : World) (hn0 : n₀ ≤ W.heap.size) (J Jx : List (Fin zs.length) → World → Prop)
    (hJ : AbidesFrom W.heap.size J)
    (hY : ∀ pre x W1, J pre W1 → pre.length < zs.length → YieldAt F (n - 1) Try.prog l #[.int .i64 ((x.val : Nat) : Int)] W1 fun e W' =>
      (e = .returned (.bool true) ∧ J (pre ++ [x]) W' ∧ Kp n₀ Bf Bt W1 W') ∨ (e = .returned (.bool false) ∧ Jx (pre ++ [x]) W'))
    (hBs : W.cell? ⟨Bs, 0, none⟩ = some (.pointer (some ⟨g, 0, none⟩))) (hg : W.cell? ⟨g, 0, none⟩ = some (.slice (some ⟨b, 0, none⟩) zs.length cap))
    (hBf : W.cell? ⟨Bf, 0, none⟩ = some (.int .i64 f)) (hBt : W.cell? ⟨Bt, 0, none⟩ = some (.int .i64 t)) (hlf : Bf < W.heap.size) (hlt : Bt < W.heap.size)
    (hc0 : ∀ j, j < zs.length → W.cell? ⟨b, j * 2, none⟩ = some (.int .i64 (zs[j]?.getD (0, 0)).1)) (hc1 : ∀ j, j < zs.length → W.cell? ⟨b, j * 2 + 1, none⟩ = some (.int .i64 (zs[j]?.getD (0, 0)).2)) (h0 : J [] W) :
    CallsIn F n Try.prog 90 #[.func (.yield l) #[] #[], .pointer (some ⟨Bs, 0, none⟩), .pointer (some ⟨Bf, 0, none⟩), .pointer (some ⟨Bt, 0, none⟩)] W fun e W' => (∃ v, e = .returned v) ∧
      ((∃ ys, ys = hits zs f t zs.length ∧ J ys W') ∨ (∃ pre, (∃ k, k ≤ zs.length ∧ pre = hits zs f t k) ∧ Jx pre W')) := by
  refine callsIn_of_wp Try.func90 rfl h90 ?_ hro
  simp only [Try.ntmps90, List.size_toArray, List.length_cons, List.length_nil, Nat.reduceAdd, Nat.reduceSub, Array.replicate_succ, Array.replicate_zero, List.push_toArray, List.append_toArray, List.nil_append, List.cons_append]
  gi_wp2
  gi_loopw [12] (fun i wr => ∃ k : Nat, k ≤ zs.length ∧ i = .int .i64 k ∧ J (hits zs f t k) wr ∧ Below n₀ W wr ∧ wr.cell? ⟨Bf, 0, none⟩ = some (.int .i64 f) ∧ wr.cell? ⟨Bt, 0, none⟩ = some (.int .i64 t) ∧ W.heap.size ≤ wr.heap.size)
    (fun i _ => zs.length - (intOf i).toNat)
  case atStart => exact ⟨0, Nat.zero_le _, rfl, h0, Below.refl _ _, hBf, hBt, Nat.le_refl _⟩
  case round =>
    obtain ⟨k, hk, rfl, hJs, hnx, hf', ht', hsz⟩ := hrel
    have hcx0 : k < zs.length → wr.cell? ⟨b, k * 2, none⟩ = some (.int .i64 (zs[k]?.getD (0, 0)).1) := fun h => (hnx.cell (p := ⟨b, k * 2, none⟩) hb).trans (hc0 k h)
    have hcx1 : k < zs.length → wr.cell? ⟨b, k * 2 + 1, none⟩ = some (.int .i64 (zs[k]?.getD (0, 0)).2) := fun h => (hnx.cell (p := ⟨b, k * 2 + 1, none⟩) hb).trans (hc1 k h)
    by_cases hlt2 : k < zs.length
    · have h0' := hcx0 hlt2
      have h1' := hcx1 hlt2
      obtain ⟨A, hA⟩ : ∃ A, (zs[k]?.getD (0, 0)).1 = A := ⟨_, rfl⟩
      obtain ⟨C, hC⟩ : ∃ C, (zs[k]?.getD (0, 0)).2 = C := ⟨_, rfl⟩
      rw [hA] at h0'
      rw [hC] at h1'
      have hT : tch f t zs[k] = (decide (f ≤ C) && decide (A ≤ t)) := by
        have e : zs[k]?.getD (0, 0) = zs[k] := by simp [hlt2]
        rw [e] at hA hC
        unfold tch; rw [hA, hC]
      have hfx := fun o => (World.cell?_alloc_lt wr o ⟨Bf, 0, none⟩ (by show Bf < _; omega)).trans hf'
      have htx := fun o => (World.cell?_alloc_lt wr o ⟨Bt, 0, none⟩ (by show Bt < _; omega)).trans ht'
      clear hcx0 hcx1 hc0 hc1
      have hJx := hJ _ _ _ none hJs (World.grownBy_alloc wr (.cells #[.int .i64 A, .int .i64 C] 95) none) (fun r e => by cases e)
      have hnx' : Below n₀ W (wr.alloc (.cells #[.int .i64 A, .int .i64 C] 95)) := hnx.alloc (Nat.le_trans hn0 hsz) _
      by_cases hc1' : f ≤ C
      · have d1 : decide (f ≤ C) = true := decide_eq_true hc1'
        by_cases hc2' : A ≤ t
        · have d2 : decide (A ≤ t) = true := decide_eq_true hc2'
          obtain ⟨fn, tmps, assign, body, hy, hR⟩ := hY _ ⟨k, hlt2⟩ _ hJx (Nat.lt_of_le_of_lt (hits_length _ _ _ _) hlt2)
          dsimp only at hy
          have hH : hits zs f t (k + 1) = hits zs f t k ++ [⟨k, hlt2⟩] := by rw [hits_succ zs f t k hlt2, hT, d1, d2]; rfl
          have HH := Aside0.mk hH
          clear hH hT hA hC
          gi_wp2
          refine hR.mono ?_
          rintro e W3 (⟨rfl, hJ3, hk3⟩ | ⟨rfl, hJx3⟩)
          · gi_wp2
            go_roundw
            case rel => exact ⟨k + 1, by omega, by simp, by rw [HH.out]; exact hJ3, hnx'.trans hk3.1, hk3.2.1.trans (hfx _), hk3.2.2.trans (htx _), by have := hk3.1.size; simp at this; omega⟩
            case measure => simp [intOf]; omega
          · gi_wp2
            refine bodyPost_ret (results_none rfl _ _ _) rfl ?_
            exact ⟨⟨_, rfl⟩, .inr ⟨_, ⟨k + 1, by omega, HH.out.symm⟩, hJx3⟩⟩
        · have d1' : decide (A ≤ t) = false := decide_eq_false hc2'
          have hH : hits zs f t (k + 1) = hits zs f t k := by rw [hits_succ zs f t k hlt2, hT, d1']; simp
          have HH := Aside0.mk hH
          clear hH hT hA hC
          gi_wp2
          refine ⟨fun _ h => (by cases h), ?_⟩
          gi_wp2
          go_roundw
          case rel => exact ⟨k + 1, by omega, by simp, by rw [HH.out]; exact hJx, hnx', hfx _, htx _, by simp; omega⟩
          case measure => simp [intOf]; omega
      · have d1 : decide (f ≤ C) = false := decide_eq_false hc1'
        have hH : hits zs f t (k + 1) = hits zs f t k := by rw [hits_succ zs f t k hlt2, hT, d1]; simp
        have HH := Aside0.mk hH
        clear hH hT hA hC
        gi_wp2
        refine ⟨fun _ h => (by cases h), ?_⟩
        gi_wp2
        go_roundw
        case rel => exact ⟨k + 1, by omega, by simp, by rw [HH.out]; exact hJx, hnx', hfx _, htx _, by simp; omega⟩
        case measure => simp [intOf]; omega
    · have hke : k = zs.length := by omega
      subst hke
      gi_wp2
      go_end0
      exact ⟨⟨_, rfl⟩, .inl ⟨_, rfl, hJs⟩⟩

set_option maxRecDepth 100000 in
set_option maxHeartbeats 2000000 in
/-- .. at the nil slice: no round. -/
theorem all1_nil_in (F : Fence) (n : Nat) (h90 : F.fn 90) (hro : F.round = none) (l Bs Bf Bt g : Nat) {α : Type} (J : List α → World → Prop) (W : World)
    (hBs : W.cell? ⟨Bs, 0, none⟩ = some (.pointer (some ⟨g, 0, none⟩))) (hg : W.cell? ⟨g, 0, none⟩ = some (.slice none 0 0)) (h0 : J [] W) :
    CallsIn F n Try.prog 90 #[.func (.yield l) #[] #[], .pointer (some ⟨Bs, 0, none⟩), .pointer (some ⟨Bf, 0, none⟩), .pointer (some ⟨Bt, 0, none⟩)] W fun e W' => (∃ v, e = .returned v) ∧ J [] W' := by
  refine callsIn_of_wp Try.func90 rfl h90 ?_ hro
  simp only [Try.ntmps90, List.size_toArray, List.length_cons, List.length_nil, Nat.reduceAdd, Nat.reduceSub, Array.replicate_succ, Array.replicate_zero, List.push_toArray, List.append_toArray, List.nil_append, List.cons_append]
  gi_wp2
  gi_loopw [12] (fun i wr => i = .int .i64 0 ∧ J [] wr) (fun _ _ => 0)
  case atStart => exact ⟨rfl, h0⟩
  case round =>
    obtain ⟨rfl, hJs⟩ := hrel
    gi_wp2
    go_end0
    exact ⟨⟨_, rfl⟩, hJs⟩

/-- The slice value sv holds these spans, in a block below n₀; or it is nil and there are none. -/
def Spans (n₀ : Nat) (W : World) (sv : Value) (zs : List (Int × Int)) : Prop :=
  (sv = .slice none 0 0 ∧ zs = []) ∨ ∃ b cap, sv = .slice (some ⟨b, 0, none⟩) zs.length cap ∧ b < n₀ ∧ zs.length * 16 ≤ 140737488351232 ∧ (∀ j, j < zs.length → W.cell? ⟨b, j * 2, none⟩ = some (.int .i64 (zs[j]?.getD (0, 0)).1)) ∧ (∀ j, j < zs.length → W.cell? ⟨b, j * 2 + 1, none⟩ = some (.int .i64 (zs[j]?.getD (0, 0)).2))
theorem Spans.below {n₀ : Nat} {A B : World} (h : Below n₀ A B) {sv : Value} {zs : List (Int × Int)} : Spans n₀ A sv zs → Spans n₀ B sv zs
  | .inl e => .inl e
  | .inr ⟨b, cap, e, hb, hr, h0, h1⟩ => .inr ⟨b, cap, e, hb, hr, fun j hj => (h.cell (p := ⟨b, j * 2, none⟩) hb).trans (h0 j hj), fun j hj => (h.cell (p := ⟨b, j * 2 + 1, none⟩) hb).trans (h1 j hj)⟩

set_option maxRecDepth 100000 in
set_option maxHeartbeats 2000000 in
/-- 's.all(from, to)': three boxes; the function value captures them. -/
theorem all_in (F : Fence) (n : Nat) (h73 : F.fn 73) (hro : F.round = none) (p : Option Addr) (f t : Int) (w : World) :
    CallsIn F n Try.prog 73 #[.pointer p, .int .i64 f, .int .i64 t] w fun e w' => e = .returned (.func (.func 90) #[] #[.pointer (some ⟨w.heap.size, 0, none⟩), .pointer (some ⟨w.heap.size + 1, 0, none⟩), .pointer (some ⟨w.heap.size + 1 + 1, 0, none⟩)]) ∧
      w' = ((w.alloc (.cells #[.pointer p] 70)).alloc (.cells #[.int .i64 f] 3)).alloc (.cells #[.int .i64 t] 3) := by
  refine callsIn_of_wp Try.func73 rfl h73 ?_ hro
  simp only [Try.ntmps73, List.size_toArray, List.length_cons, List.length_nil, Nat.reduceAdd, Nat.reduceSub, Array.replicate_succ, Array.replicate_zero, List.push_toArray, List.append_toArray, List.nil_append, List.cons_append]
  gi_wp2
  go_ret
  exact ⟨rfl, rfl⟩

theorem all_stops (F : Fence) (n : Nat) (h90 : F.fn 90) (hro : F.round = none) (hn : 1 ≤ n) (Bs Bf Bt g n₀ : Nat) (f t : Int) (sv : Value) (zs : List (Int × Int)) (w : World) (hBsl : Bs < w.heap.size) (hBfl : Bf < w.heap.size) (hBtl : Bt < w.heap.size) (hgl : g < w.heap.size) (hn₀ : n₀ ≤ w.heap.size)
    (hBs : w.cell? ⟨Bs, 0, none⟩ = some (.pointer (some ⟨g, 0, none⟩))) (hg : w.cell? ⟨g, 0, none⟩ = some sv) (hBf : w.cell? ⟨Bf, 0, none⟩ = some (.int .i64 f)) (hBt : w.cell? ⟨Bt, 0, none⟩ = some (.int .i64 t)) (hI : Spans n₀ w sv zs) :
    SeqStopsK F n Try.prog 90 #[.pointer (some ⟨Bs, 0, none⟩), .pointer (some ⟨Bf, 0, none⟩), .pointer (some ⟨Bt, 0, none⟩)] (fun x : Fin zs.length => #[Value.int .i64 ((x.val : Nat) : Int)]) (Kp n₀ Bf Bt) (fun ys => ys = hits zs f t zs.length) (fun pre => ∃ k, k ≤ zs.length ∧ pre = hits zs f t k) zs.length w := fun l J Jx W hW hJ _ hY h0 => by
  have hs := (hW.cell (p := ⟨Bs, 0, none⟩) hBsl).trans hBs
  have hgg := (hW.cell (p := ⟨g, 0, none⟩) hgl).trans hg
  have hf := (hW.cell (p := ⟨Bf, 0, none⟩) hBfl).trans hBf
  have ht := (hW.cell (p := ⟨Bt, 0, none⟩) hBtl).trans hBt
  have hz := hW.size
  rcases hI.below (hW.mono hn₀) with ⟨rfl, rfl⟩ | ⟨b, cap, rfl, hb, hr, hc0, hc1⟩
  · exact (all1_nil_in F n h90 hro l Bs Bf Bt g J W hs hgg h0).mono fun e W' ⟨he, hj⟩ => ⟨he, .inl ⟨_, rfl, hj⟩⟩
  · refine (all1_in F n h90 hro hn l Bs Bf Bt g n₀ b cap f t zs hr hb W (by omega) J Jx hJ hY hs hgg hf ht (by omega) (by omega) hc0 hc1 h0).mono ?_
    rintro e W' ⟨he, ⟨ys, rfl, hj⟩ | ⟨pre, hk, hj⟩⟩
    · exact ⟨he, .inl ⟨_, rfl, hj⟩⟩
    · exact ⟨he, .inr ⟨_, hk, hj⟩⟩
theorem kp_t {n₀ Bf Bt : Nat} {A B C : World} (h : Kp n₀ Bf Bt A B) (k : Kp n₀ Bf Bt B C) : Kp n₀ Bf Bt A C := ⟨h.1.trans k.1, k.2.1.trans h.2.1, k.2.2.trans h.2.2⟩
theorem cell_new_l (W : World) (v : Value) (t : TypeId) : (W.alloc (.cells #[v] t)).cell? ⟨W.heap.size, 0, none⟩ = some v ∧ (W.alloc (.cells #[v] t)).frozen? ⟨W.heap.size, 0, none⟩ = false := by
  have h : (W.alloc (.cells #[v] t)).heap[W.heap.size]? = some (.cells #[v] t) := heap_alloc_new W _
  constructor
  · unfold World.cell?
    rw [h]
    rfl
  · unfold World.frozen?
    rw [h]
    rfl
theorem cell_alloc_l {W : World} {a : Addr} {v : Value} (o : Obj) (h : W.cell? a = some v) : (W.alloc o).cell? a = some v := cell_kept h (World.grownBy_alloc W o none) (fun r e => by cases e)
theorem frozen_alloc_l {W : World} {a : Addr} {v : Value} (o : Obj) (h : W.cell? a = some v) (hf : W.frozen? a = false) : (W.alloc o).frozen? a = false := (frozen_kept h (World.grownBy_alloc W o none) (fun r e => by cases e)).trans hf
theorem putObj_cell (W : World) (l : Nat) (o' : Obj) (p : Addr) (hp : p.block ≠ l) : (W.putObj l o').cell? p = W.cell? p := by
  unfold World.cell?
  rw [World.putObj_heap_other hp]
theorem kp_b {n₀ Bf Bt : Nat} {w : World} (hn : n₀ ≤ w.heap.size) (hf : Bf < w.heap.size) (ht : Bt < w.heap.size) (W : World) (l : Nat) (o o' : Obj) (hl : w.heap.size ≤ l) (h : W.heap[l]? = some o) (h1 : o.isCells = false) (h2 : o.isWalk = false) : Kp n₀ Bf Bt W (W.putObj l o') :=
  ⟨belowK_b hn W l o o' hl h h1 h2, putObj_cell W l o' _ (by show Bf ≠ l; omega), putObj_cell W l o' _ (by show Bt ≠ l; omega)⟩
theorem hits_nil {zs : List (Int × Int)} {f t : Int} (h : hits zs f t zs.length = []) : zs.any (tch f t) = false := by
  rw [List.any_eq_false]
  intro x hx
  obtain ⟨i, hi, rfl⟩ := List.getElem_of_mem hx
  unfold hits at h
  rw [List.take_of_length_le (by simp), List.filter_eq_nil_iff] at h
  exact h ⟨i, hi⟩ (List.mem_finRange _)
theorem hits_any {zs : List (Int × Int)} {f t : Int} {k : Nat} (h : hits zs f t k ≠ []) : zs.any (tch f t) = true := by
  obtain ⟨j, hj⟩ := List.exists_mem_of_ne_nil _ h
  unfold hits at hj
  rw [List.mem_filter] at hj
  rw [List.any_eq_true]
  exact ⟨zs[j], List.getElem_mem _, hj.2⟩

set_option maxRecDepth 100000 in
set_option maxHeartbeats 4000000 in
theorem Has_in (F : Fence) (n : Nat) (h40 : F.fn 40) (h73 : F.fn 73) (h90 : F.fn 90) (hro : F.round = none) (hn : 3 ≤ n) (g : Nat) (m : Int) (sv : Value) (zs : List (Int × Int)) (w : World) (hgl : g < w.heap.size)
    (hg : w.cell? ⟨g, 0, none⟩ = some sv) (hI : Spans w.heap.size w sv zs) :
    CallsIn F n Try.prog 40 #[.pointer (some ⟨g, 0, none⟩), .int .i64 m] w fun e W' => e = .returned (.bool (zs.any (tch m m))) ∧ Below w.heap.size w W' := by
  have h1 : 1 ≤ n := by omega
  refine callsIn_of_wp_marks Try.func40 rfl h40 ?_ hro
  simp only [Try.ntmps40, List.size_toArray, List.length_cons, List.length_nil, Nat.reduceAdd, Nat.reduceSub, Array.replicate_succ, Array.replicate_zero, List.push_toArray, List.append_toArray, List.nil_append, List.cons_append]
  gi_wp2_with (gi_at_call 73; refine (all_in F (n - 1) h73 hro _ _ _ _).mono ?_; rintro e w' ⟨rfl, rfl⟩)
  have c0 := cell_new_l w (.bool false) 4
  have c1 := cell_new_l (w.alloc (.cells #[.bool false] 4)) (.pointer (some ⟨g, 0, none⟩)) 70
  have c2 := cell_new_l ((w.alloc (.cells #[.bool false] 4)).alloc (.cells #[.pointer (some ⟨g, 0, none⟩)] 70)) (.int .i64 m) 3
  have c3 := cell_new_l (((w.alloc (.cells #[.bool false] 4)).alloc (.cells #[.pointer (some ⟨g, 0, none⟩)] 70)).alloc (.cells #[.int .i64 m] 3)) (.int .i64 m) 3
  simp only [World.size_alloc] at c1 c2 c3
  have hB0 : Below w.heap.size w ((((w.alloc (.cells #[.bool false] 4)).alloc (.cells #[.pointer (some ⟨g, 0, none⟩)] 70)).alloc (.cells #[.int .i64 m] 3)).alloc (.cells #[.int .i64 m] 3)) := ((((Below.refl _ w).alloc (Nat.le_refl _) _).alloc (by simp) _).alloc (by simp; omega) _).alloc (by simp; omega) _
  have r0 := cell_alloc_l (.cells #[.int .i64 m] 3) (cell_alloc_l (.cells #[.int .i64 m] 3) (cell_alloc_l (.cells #[.pointer (some ⟨g, 0, none⟩)] 70) c0.1))
  have rf := frozen_alloc_l (.cells #[.int .i64 m] 3) (cell_alloc_l (.cells #[.int .i64 m] 3) (cell_alloc_l (.cells #[.pointer (some ⟨g, 0, none⟩)] 70) c0.1)) (frozen_alloc_l (.cells #[.int .i64 m] 3) (cell_alloc_l (.cells #[.pointer (some ⟨g, 0, none⟩)] 70) c0.1) (frozen_alloc_l (.cells #[.pointer (some ⟨g, 0, none⟩)] 70) c0.1 c0.2))
  have q1 := cell_alloc_l (.cells #[.int .i64 m] 3) (cell_alloc_l (.cells #[.int .i64 m] 3) c1.1)
  have q2 := cell_alloc_l (.cells #[.int .i64 m] 3) c2.1
  have hsz : ((((w.alloc (.cells #[.bool false] 4)).alloc (.cells #[.pointer (some ⟨g, 0, none⟩)] 70)).alloc (.cells #[.int .i64 m] 3)).alloc (.cells #[.int .i64 m] 3)).heap.size = w.heap.size + 4 := by simp
  have hgW := (hB0.cell (p := ⟨g, 0, none⟩) hgl).trans hg
  have hIW := hI.below hB0
  obtain ⟨W0, hW0⟩ : ∃ W0, ((((w.alloc (.cells #[.bool false] 4)).alloc (.cells #[.pointer (some ⟨g, 0, none⟩)] 70)).alloc (.cells #[.int .i64 m] 3)).alloc (.cells #[.int .i64 m] 3)) = W0 := ⟨_, rfl⟩
  rw [hW0] at r0 rf q1 q2 hsz hgW hIW hB0 ⊢
  have c3' := c3.1
  rw [hW0] at c3'
  clear c0 c1 c2 c3 hW0
  refine wpIn_rangeFunc_ownF hro h1 (gf := 90) (lb := #[.pointer (some ⟨w.heap.size + 1, 0, none⟩), .pointer (some ⟨w.heap.size + 1 + 1, 0, none⟩), .pointer (some ⟨w.heap.size + 1 + 1 + 1, 0, none⟩)]) rfl h90 (enters_of Try.func90 (by kernel_rfl) rfl)
    (all_stops F (n - 1) h90 hro (by omega) (w.heap.size + 1) (w.heap.size + 1 + 1) (w.heap.size + 1 + 1 + 1) g w.heap.size m m sv zs W0 (by omega) (by omega) (by omega) (by omega) (by omega) q1 hgW q2 c3' hIW) kp_t (kp_b (by omega) (by omega) (by omega)) (Below.refl _ _) (fun _ => rfl)
    (fun pre W => (pre = [] ∧ W.cell? ⟨w.heap.size, 0, none⟩ = some (.bool false) ∧ W.frozen? ⟨w.heap.size, 0, none⟩ = false) ∧ Below w.heap.size w W)
    (fun c pre W => (c = .ret ∧ pre ≠ [] ∧ W.cell? ⟨w.heap.size, 0, none⟩ = some (.bool true)) ∧ Below w.heap.size w W)
    (OwnFrom.and (Own.from (fun s A B row hs hg hr => ⟨hs.1, cell_kept hs.2.1 hg hr, (frozen_kept hs.2.1 hg hr).trans hs.2.2⟩) _) (ownFrom_below (Nat.le_refl _) (by omega)))
    (fun c => OwnFrom.and (Own.from (fun s A B row hs hg hr => ⟨hs.1, hs.2.1, cell_kept hs.2.2 hg hr⟩) _) (ownFrom_below (Nat.le_refl _) (by omega)))
    ⟨⟨rfl, r0, rf⟩, hB0⟩
    (fun x => { tmps := #[.pointer (some ⟨g, 0, none⟩), .int .i64 m, undef, undef, .pointer (some ⟨w.heap.size, 0, none⟩), .pointer (some ⟨g, 0, none⟩), .bool false, .pointer (some ⟨g, 0, none⟩), .int .i64 m, .int .i64 m,
      .func (.func 90) #[] #[.pointer (some ⟨w.heap.size + 1, 0, none⟩), .pointer (some ⟨w.heap.size + 1 + 1, 0, none⟩), .pointer (some ⟨w.heap.size + 1 + 1 + 1, 0, none⟩)], .int .i64 ((x.val : Nat) : Int)], defers := [] }) ?assign ?body ?done ?stop
  case assign =>
    intro l x W K hK
    gi_wp2
    simpa using hK
  case body =>
    rintro l pre x W ⟨⟨hp, hcr, hfr⟩, hB⟩ _
    gi_wp2
    exact ⟨KeepsOthers.setCell _ _ _, ⟨rfl, by simp, World.cell?_setCell_same' _ _ _ (by rw [hcr]; rfl)⟩, hB.setCell (p := ⟨w.heap.size, 0, none⟩) (by simp) _⟩
  case done =>
    rintro D ys W hD hy ⟨⟨hnil, hcr, hfr⟩, hB⟩ hK
    gi_wp2
    have hK' := (KeepsOthers.setCell W ⟨w.heap.size, 0, none⟩ (.bool false)).same D _ hK rfl
    refine ⟨by simp, .inl ⟨_, _, rfl, run_takeDeferred hK', ?_⟩⟩
    have hc5 := cell_kept (World.cell?_setCell_same' W ⟨w.heap.size, 0, none⟩ (.bool false) (by rw [hcr]; rfl)) (grownBy_putObj' _ D (.deferred none)) (fun r e => by cases e; exact ⟨_, hK', rfl⟩)
    refine ⟨.bool false, ?_, by rw [hits_nil (hy.symm.trans hnil)], (hB.setCell (p := ⟨w.heap.size, 0, none⟩) (by simp) _).trans (belowK_b (w := w) (Nat.le_refl _) _ D _ _ (by omega) hK' rfl rfl)⟩
    simp [results, Try.f40, go_sem, hc5]
  case stop =>
    rintro D c pre W hD ⟨k, hk, hpre⟩ ⟨⟨rfl, hin, hcr⟩, hB⟩ hK
    gi_wp2
    refine ⟨by simp, .inl ⟨_, _, rfl, run_takeDeferred hK, ?_⟩⟩
    have hc5 := cell_kept hcr (grownBy_putObj' _ D (.deferred none)) (fun r e => by cases e; exact ⟨_, hK, rfl⟩)
    refine ⟨.bool true, ?_, by rw [hits_any (hpre ▸ hin)], hB.trans (belowK_b (w := w) (Nat.le_refl _) W D _ _ (by omega) hK rfl rfl)⟩
    simp [results, Try.f40, go_sem, hc5]
end Go.Proofs.Ytiladcdogbeomaa.Iter

namespace Go.Proofs.Ytiladcdogbeomaa.QRangesPlays
open Go.RowKit Go.Proofs.YtiladcdogbeomaaW.PrintWords Go.Proofs.YtiladcdogbeomaaW.PrintLast Go.Proofs.YtiladcdogbeomaaW.PrintMore
set_option linter.unusedVariables false
set_option linter.unusedSimpArgs false
def slices_Clone.f (l0 : List S95) : Option (List S95) := if l0.length < 8796093022208 then some l0 else none
set_option maxHeartbeats 400000 in
theorem slices_Clone.calls (A0 : Option Addr) (c0 : Nat) (l0 : List S95) (r : List S95) (w : World) (hr0 : Kd.C k95 w A0 l0.length l0) (hc0 : l0.length ≤ c0) (h : slices_Clone.f l0 = some r) :
    Calls Try.prog 75 #[.slice A0 l0.length c0] w fun e w' => ∃ v0_ : Value, e = .returned (v0_) ∧ Kd.R k95 95 w' w.heap.size (fun _ => True) v0_ r ∧ Below w.heap.size w w' := by
  unfold slices_Clone.f at h
  split at h
  case isFalse => cases h
  rename_i hlt
  obtain rfl := Option.some.inj h
  have HR0 := Aside0.mk hr0
  have HB := Aside0.mk (Below.refl w.heap.size w)
  have LM := Aside0.mk hlt
  clear h hr0 hlt
  have hnil := fun W a n c => Lib.run_eql_slice_nil (P := Try.prog) W 74 95 a n c 0 0 Try.underlying74
  cases A0 with
  | none =>
    have hn : l0 = [] := by
      rcases Nat.eq_zero_or_pos l0.length with h0 | h0
      · exact List.eq_nil_of_length_eq_zero h0
      · obtain ⟨ad, he, _⟩ := HR0.out.2.2 h0
        cases he
    subst hn
    go_enter Try.func75, Try.ntmps75
    go_wp2
    go_ret
    exact ⟨_, rfl, Kd.R_nil _ _ _ _ _, Below.refl _ _⟩
  | some ad =>
    go_enter Try.func75, Try.ntmps75
    go_wp2_with (first
      | ((with_reducible refine gate_dst (N := 5) rfl ?_); refine Kd.R_lit k95 _ 95 ?hg (N := 5) ?hd (xs := ([] : List S95)) (inner := []) (ok := fun _ => True) (okp := fun _ => True) ?hr ?hp (fun _ hk => hk) trivial (Below.refl _ _) (Nat.le_refl _) (by simp) ?_; (case hd => rfl); (case hg => rfl); (case hr => first | (go_simp; done) | (go_simp; rfl)); (case hp => exact (Reps.none _ _)); intro v160 w6 ho7 hb hg_ hnew_; clear hg_ hnew_; have n0_ := Aside0.mk (Kd.R_lower ho7 (below_size HB.out)); have n1_ := Aside0.mk (below_step HB.out hb); clear HB; have HO161 := n0_; have HB := n1_; clear n0_ n1_; clear hb ho7)
      | ((with_reducible refine gate_builtin (b := .append) (xs := #[.tmp 5, .tmp 6]) rfl ?_); at_builtin; refine Kd.R_append_rows k95 (w0 := w) w.heap.size rfl (.tmp 5) (.tmp 6) 74 95 (.agg #[(.int .i64 0), (.int .i64 0)]) 16 rfl Try.underlying74 info95 rfl (by decide) (by omega) v160 [] l0 _ _ _ (fun _ => True) (fun _ => False) rfl rfl ?aO ?aR (fun _ _ h => h) (fun _ h => h.elim) ?aF ?aB ?aS ?aL ?_; (case aR => repeat (first | exact (Kd.C_below HR0.out HB.out) | (with_reducible refine Kd.C_alloc ?_ _) | (with_reducible refine Kd.C_drewN ?_ _) | (with_reducible refine Kd.C_drew ?_))); (case aB => exact HB.out); (case aF => exact (fun _ _ => trivial)); (case aO => exact HO161.out); (case aS => exact (below_size HB.out)); (case aL => have := LM.out; simp; omega); intro v163 w8 ho hb hg hat; have n0_ := Aside0.mk (hb); have n1_ := Aside0.mk (ho); clear HB; clear HO161; have HB := n0_; have HO164 := n1_; clear n0_ n1_; clear ho hb hg hat))
    go_ret
    exact ⟨_, rfl, Kd.R_mono (by simpa using HO164.out) (fun _ _ => trivial), HB.out⟩


/-- A set that is there: its block holds a slice whose cells read as these spans. -/
def IsSet (W : World) (g : Nat) (l : List S95) : Prop := ∃ A c, W.cell? ⟨g, 0, none⟩ = some (.slice A l.length c) ∧ Kd.C k95 W A l.length l ∧ l.length ≤ c
theorem IsSet.below {W W' : World} {g : Nat} {l : List S95} (h : IsSet W g l) (hb : Below W.heap.size W W') : IsSet W' g l := by
  obtain ⟨A, c, h1, h2, h3⟩ := h
  exact ⟨A, c, (hb.cell (World.block_lt_of_cell? _ _ h1)).trans h1, Kd.C_below h2 hb, h3⟩

theorem Set_Spans.calls (g : Nat) (l r : List S95) (w : World) (hS : IsSet w g l) (h : slices_Clone.f l = some r) :
    Calls Try.prog 39 #[.pointer (some ⟨g, 0, none⟩)] w fun e w' => ∃ v0_ : Value, e = .returned v0_ ∧ Kd.R k95 95 w' w.heap.size (fun _ => True) v0_ r ∧ Below w.heap.size w w' := by
  obtain ⟨A, c, h1, h2, h3⟩ := hS
  have H2 := Aside0.mk h2
  have H3 := Aside0.mk h3
  have H := Aside0.mk h
  clear h2 h3 h
  go_enter Try.func39, Try.ntmps39
  go_wp2_with (go_at_call 75; refine (slices_Clone.calls A c l r _ H2.out H3.out H.out).mono ?_; rintro e w2 ⟨v, rfl, ho, hb⟩; have HO := Aside0.mk ho; have HB := Aside0.mk hb; clear ho hb)
  go_ret
  exact ⟨_, rfl, HO.out, HB.out⟩

theorem Set_Len.calls (g : Nat) (l : List S95) (w : World) (hS : IsSet w g l) (hl : l.length < 8796093022208) :
    Calls Try.prog 43 #[.pointer (some ⟨g, 0, none⟩)] w fun e w' => e = .returned (.int .i64 l.length) ∧ Below w.heap.size w w' := by
  have hc : slices_Clone.f l = some l := by unfold slices_Clone.f; rw [if_pos hl]
  have H := Aside0.mk (Set_Spans.calls g l l w hS hc)
  clear hS hc
  go_enter Try.func43, Try.ntmps43
  go_wp2_with (go_at_call 39; refine H.out.mono ?_; rintro e w2 ⟨v, rfl, ho, hb⟩; obtain ⟨A, c, rfl⟩ := Kd.R_slice ho; have HB := Aside0.mk hb; clear ho hb)
  go_ret
  exact ⟨rfl, HB.out⟩

theorem add_off (b o n : Nat) : (⟨b, o, none⟩ : Addr).add n = ⟨b, o + n, none⟩ := by unfold Addr.add; split <;> simp_all
theorem row_at {W : World} {A : Option Addr} {n : Nat} {l : List S95} (h : Kd.C k95 W A n l) (k : Nat) (hk : k < l.length) : ∃ b o, A = some ⟨b, o, none⟩ ∧ W.cell? ⟨b, o + k * 2, none⟩ = some (.int .i64 l[k].f0) ∧ W.cell? ⟨b, o + k * 2 + 1, none⟩ = some (.int .i64 l[k].f1) := by
  have hz : k95.sz = 2 := rfl
  have key : ∀ j (hj : j < l.length), ∃ ad, A = some ad ∧ W.cell? (ad.add (j * 2)) = some (.int .i64 l[j].f0) ∧ W.cell? (ad.add (j * 2 + 1)) = some (.int .i64 l[j].f1) := by
    intro j hj
    obtain ⟨ad, rfl, hc⟩ := h.2.2 (by have := h.1; omega)
    obtain ⟨c, hl, hx, hcell⟩ := hc j l[j] (List.getElem?_eq_getElem hj)
    have hx' : c = [.int .i64 l[j].f0, .int .i64 l[j].f1] := by
      obtain ⟨c1, c2, e, h1, h2⟩ := hx
      have h1' : c1 = [.int .i64 l[j].f0] := h1
      have h2' : c2 = [.int .i64 l[j].f1] := h2
      rw [e, h1', h2']
      rfl
    subst hx'
    have e0 := hcell 0 (.int .i64 l[j].f0) rfl
    have e1 := hcell 1 (.int .i64 l[j].f1) rfl
    rw [hz] at e0 e1
    exact ⟨ad, rfl, by simpa using e0, e1⟩
  obtain ⟨ad, hA, z0, _⟩ := key 0 (by omega)
  have hsp : ad.spot = none := by
    have e : ad.add (0 * 2) = ad := by unfold Addr.add; rw [if_pos (by omega)]
    rw [e] at z0
    unfold World.cell? at z0
    split at z0
    · split at z0
      · cases z0
      · rename_i hs; simpa using hs
    · cases z0
  obtain ⟨b, o, sp⟩ := ad
  obtain rfl : sp = none := hsp
  obtain ⟨ad2, hA2, y0, y1⟩ := key k hk
  obtain rfl : ad2 = ⟨b, o, none⟩ := Option.some.inj (hA2.symm.trans hA)
  rw [add_off] at y0 y1
  exact ⟨b, o, hA, y0, by rw [Nat.add_assoc]; exact y1⟩
def cntOne (x : S95) : Int := wrap64 (wrap64 (x.f1 - x.f0) + 1)
def cntF (l : List S95) : Int := l.foldl (fun n x => wrap64 (n + cntOne x)) 0
theorem count_one (a b r : Int) (w : World) (h : r = wrap64 (wrap64 (b - a) + 1)) :
    Calls Try.prog 88 #[.agg #[.int .i64 a, .int .i64 b]] w fun e w' => e = .returned (.int .i64 r) ∧ Below w.heap.size w w' := by
  subst h
  have hu := Try.underlying95
  go_enter Try.func88, Try.ntmps88
  go_wp2
  go_ret
  exact ⟨by first | rfl | (simp [wrap64, IntKind.wrap_i64]), below_alloc (Below.refl _ _) _⟩
theorem Set_Count.calls (g : Nat) (l : List S95) (w : World) (hS : IsSet w g l) (hl : l.length < 8796093022208) :
    Calls Try.prog 50 #[.pointer (some ⟨g, 0, none⟩)] w fun e w' => e = .returned (.int .i64 (cntF l)) ∧ Below w.heap.size w w' := by
  have hc : slices_Clone.f l = some l := by unfold slices_Clone.f; rw [if_pos hl]
  have H := Aside0.mk (Set_Spans.calls g l l w hS hc)
  clear hS hc
  go_enter Try.func50, Try.ntmps50
  go_wp2_with (go_at_call 39; refine H.out.mono ?_; rintro e w2 ⟨v, rfl, ho, hb⟩; obtain ⟨A, c, rfl⟩ := Kd.R_slice ho; have HR := Aside0.mk (Kd.R_reads' ho).2.2; have HB := Aside0.mk hb; clear ho hb)
  go_loopw [3, 9] (fun n i wr => ∃ k : Nat, k ≤ l.length ∧ i = .int .i64 k ∧ n = .int .i64 (cntF (l.take k)) ∧ Aside0 (Below w2.heap.size w2 wr)) (fun _ i _ => l.length - (intOf i).toNat)
  case atStart => exact ⟨0, Nat.zero_le _, rfl, rfl, ⟨Below.refl _ _⟩⟩
  case round =>
    obtain ⟨k, hk, rfl, rfl, HW⟩ := hrel
    by_cases hlt : k < l.length
    · have hC := Kd.C_below HR.out HW.out
      obtain ⟨bb, oo, rfl, h0, h1⟩ := row_at hC k hlt
      clear hC
      have hs : cntF (l.take (k + 1)) = wrap64 (cntF (l.take k) + wrap64 (wrap64 (l[k].f1 - l[k].f0) + 1)) := by
        unfold cntF
        rw [List.take_succ_eq_append_getElem hlt, List.foldl_append]
        rfl
      obtain ⟨a, ha⟩ : ∃ a, l[k].f0 = a := ⟨_, rfl⟩
      obtain ⟨b, hb⟩ : ∃ b, l[k].f1 = b := ⟨_, rfl⟩
      obtain ⟨N, hN⟩ : ∃ N, cntF (l.take k) = N := ⟨_, rfl⟩
      rw [ha] at h0
      rw [hb] at h1
      rw [ha, hb, hN] at hs
      rw [hN]
      have HS := Aside0.mk hs
      have HD := Aside0.mk (below_step HB.out HW.out)
      clear hs ha hb hN
      go_wp2_with (go_at_call 88; refine (count_one a b _ _ rfl).mono ?_; rintro e w4 ⟨rfl, hb⟩; have H4 := Aside0.mk hb; clear hb)
      go_roundw
      case rel => exact ⟨k + 1, by omega, by simp, by rw [HS.out], ⟨below_step (below_alloc HW.out _) H4.out⟩⟩
      case measure => simp [intOf]; omega
    · have hk2 : k = l.length := by omega
      have HK := Aside0.mk (show l.take k = l from List.take_of_length_le (by omega))
      go_wp2
      go_ret
      rw [HK.out]
      exact ⟨rfl, below_step HB.out HW.out⟩
end Go.Proofs.Ytiladcdogbeomaa.QRangesPlays

namespace Go.Proofs.Ytiladcdogbeomaa.QRangesPlays
open Go.RowKit Go.Shelf Go.Proofs.YtiladcdogbeomaaW.PrintWords Go.Proofs.YtiladcdogbeomaaW.PrintLast Go.Proofs.YtiladcdogbeomaaW.PrintMore
/-- A span as a pair. -/
def pr (x : S95) : Int × Int := (x.f0, x.f1)
/-- A slice of spans from its block's beginning, or nil. -/
def Row (W : World) (sv : Value) (l : List S95) : Prop := (sv = .slice none 0 0 ∧ l = []) ∨ ∃ b c, sv = .slice (some ⟨b, 0, none⟩) l.length c ∧ Kd.C k95 W (some ⟨b, 0, none⟩) l.length l ∧ l.length ≤ c ∧ b < W.heap.size
theorem Row.below {W W' : World} {sv : Value} {l : List S95} (h : Row W sv l) (hb : Below W.heap.size W W') : Row W' sv l := by
  rcases h with h | ⟨b, c, h1, h2, h3, h4⟩
  · exact .inl h
  · exact .inr ⟨b, c, h1, Kd.C_below h2 hb, h3, Nat.lt_of_lt_of_le h4 hb.size⟩
theorem Row.spans {W : World} {sv : Value} {l : List S95} (h : Row W sv l) (hl : l.length * 16 ≤ 140737488351232) : Iter.Spans W.heap.size W sv (l.map pr) := by
  rcases h with ⟨rfl, rfl⟩ | ⟨b, c, rfl, h2, h3, h4⟩
  · exact .inl ⟨rfl, rfl⟩
  · refine .inr ⟨b, c, by rw [List.length_map], h4, by rw [List.length_map]; exact hl, ?_, ?_⟩
    · intro j hj
      rw [List.length_map] at hj
      obtain ⟨b', o', e, r0, r1⟩ := row_at h2 j hj
      injection e with e
      injection e with e1 e2 _
      subst e1; subst e2
      rw [Nat.zero_add] at r0
      rw [r0]
      simp [hj, pr]
    · intro j hj
      rw [List.length_map] at hj
      obtain ⟨b', o', e, r0, r1⟩ := row_at h2 j hj
      injection e with e
      injection e with e1 e2 _
      subst e1; subst e2
      rw [Nat.zero_add] at r1
      rw [r1]
      simp [hj, pr]
theorem Set_Has.calls (g : Nat) (m : Int) (l : List S95) (sv : Value) (w : World) (hg : w.cell? ⟨g, 0, none⟩ = some sv) (hR : Row w sv l) (hl : l.length * 16 ≤ 140737488351232) :
    Calls Try.prog 40 #[.pointer (some ⟨g, 0, none⟩), .int .i64 m] w fun e w' => e = .returned (.bool ((l.map pr).any (Iter.tch m m))) ∧ Below w.heap.size w w' := by
  refine (callsIn_wide (n := 3)).1 ?_
  exact Iter.Has_in _ 3 trivial trivial trivial rfl (by decide) g m sv (l.map pr) w (World.block_lt_of_cell? _ _ hg) hg (hR.spans hl)
end Go.Proofs.Ytiladcdogbeomaa.QRangesPlays

namespace Go.Proofs.Ytiladcdogbeomaa.QRangesPlays
open Go.RowKit Go.Shelf Go.Proofs.YtiladcdogbeomaaW.PrintWords Go.Proofs.YtiladcdogbeomaaW.PrintLast Go.Proofs.YtiladcdogbeomaaW.PrintMore
theorem Row.set {W : World} {sv : Value} {l : List S95} {g : Nat} (h : Row W sv l) (hg : W.cell? ⟨g, 0, none⟩ = some sv) : IsSet W g l := by
  rcases h with ⟨rfl, rfl⟩ | ⟨b, c, rfl, h2, h3, h4⟩
  · exact ⟨none, 0, hg, ⟨rfl, by simp, fun h => by simp at h⟩, Nat.zero_le _⟩
  · exact ⟨_, c, hg, h2, h3⟩
theorem Set_Max.calls (g : Nat) (l : List S95) (sv : Value) (w : World) (hg : w.cell? ⟨g, 0, none⟩ = some sv) (hR : Row w sv l) (hl : l.length * 16 ≤ 140737488351232) :
    Calls Try.prog 49 #[.pointer (some ⟨g, 0, none⟩)] w fun e w' => e = .returned (.tuple #[.int .i64 ((l.getLast?.map (·.f1)).getD 0), .bool (l.length != 0)]) ∧ Below w.heap.size w w' := by
  have HL := Aside0.mk (Set_Len.calls g l w (hR.set hg) (by omega))
  rcases hR with ⟨rfl, rfl⟩ | ⟨b, c, rfl, h2, h3, h4⟩
  · go_enter Try.func49, Try.ntmps49
    go_wp2_with (go_at_call 43; refine HL.out.mono ?_; rintro e w2 ⟨rfl, hb⟩; have HB := Aside0.mk hb; clear hb)
    go_ret2
    exact ⟨rfl, HB.out⟩
  · by_cases h0 : l.length = 0
    · obtain rfl := List.eq_nil_of_length_eq_zero h0
      go_enter Try.func49, Try.ntmps49
      go_wp2_with (go_at_call 43; refine HL.out.mono ?_; rintro e w2 ⟨rfl, hb⟩; have HB := Aside0.mk hb; clear hb)
      go_ret2
      exact ⟨rfl, HB.out⟩
    · obtain ⟨b', o', e, r0, r1⟩ := row_at h2 (l.length - 1) (by omega)
      injection e with e
      injection e with e1 e2 _
      subst e1; subst e2
      rw [Nat.zero_add] at r1
      obtain ⟨t, ht⟩ : ∃ t, l[l.length - 1].f1 = t := ⟨_, rfl⟩
      have hlast : (l.getLast?.map (·.f1)).getD 0 = t := by
        rw [← ht, List.getLast?_eq_getElem?, List.getElem?_eq_getElem (by omega)]
        rfl
      rw [ht] at r1
      rw [hlast]
      obtain ⟨n, hn⟩ : ∃ n, l.length = n + 1 := ⟨l.length - 1, by omega⟩
      rw [hn] at r1 hg HL ⊢
      rw [Nat.add_sub_cancel] at r1
      have hw : wrap64 ((((n : Nat) : Int) + 1) - 1) = n := by unfold wrap64; omega
      clear hlast ht r0 h2 h3
      go_enter Try.func49, Try.ntmps49
      go_wp2_with (go_at_call 43; refine HL.out.mono ?_; rintro e w2 ⟨rfl, hb⟩; have HB := Aside0.mk hb; have hg2 := (hb.cell (World.block_lt_of_cell? _ _ hg)).trans hg; have r2 := (hb.cell (World.block_lt_of_cell? _ _ r1)).trans r1; clear hb)
      go_region
      go_wp2
      go_ret2
      exact ⟨by simp, pw_below_drewN HB.out _⟩
end Go.Proofs.Ytiladcdogbeomaa.QRangesPlays

namespace Go.Proofs.Ytiladcdogbeomaa.QRangesPlays
open Go.RowKit Go.Shelf Go.Proofs.YtiladcdogbeomaaW.PrintWords Go.Proofs.YtiladcdogbeomaaW.PrintLast Go.Proofs.YtiladcdogbeomaaW.PrintMore Go.Proofs.Ytiladcdogbeomaa.RowLaws
/-- A row's cells. -/
def rowC (xs : List S95) : List Value := xs.flatMap fun x => [.int .i64 x.f0, .int .i64 x.f1]
theorem rowC_append (a b : List S95) : rowC (a ++ b) = rowC a ++ rowC b := by unfold rowC; rw [List.flatMap_append]
theorem rowC_length : ∀ (a : List S95), (rowC a).length = a.length * 2
  | [] => rfl
  | x :: r => by
    have e : rowC (x :: r) = [.int .i64 x.f0, .int .i64 x.f1] ++ rowC r := rfl
    rw [e, List.length_append, rowC_length r, List.length_cons]; simp; omega
theorem rowC_one (a : List S95) : ∀ v ∈ rowC a, v.oneCell' = true := by
  intro v hv
  unfold rowC at hv
  rw [List.mem_flatMap] at hv
  obtain ⟨x, _, hv⟩ := hv
  simp at hv
  rcases hv with rfl | rfl <;> rfl
theorem rowC_take (a : List S95) (k : Nat) : (rowC a).take (k * 2) = rowC (a.take k) := by
  rcases Nat.le_total k a.length with h | h
  · conv => lhs; rw [← List.take_append_drop k a, rowC_append]
    rw [List.take_append_of_le_length (by rw [rowC_length, List.length_take]; omega), List.take_of_length_le (by rw [rowC_length, List.length_take]; omega)]
  · rw [List.take_of_length_le (by rw [rowC_length]; omega), List.take_of_length_le h]
theorem rowC_drop (a : List S95) (k : Nat) : (rowC a).drop (k * 2) = rowC (a.drop k) := by
  rcases Nat.le_total k a.length with h | h
  · conv => lhs; rw [← List.take_append_drop k a, rowC_append]
    rw [List.drop_left' (by rw [rowC_length, List.length_take]; omega)]
  · rw [List.drop_of_length_le (by rw [rowC_length]; omega), List.drop_of_length_le h]; rfl
theorem info95f : (Try.prog.info? 95).map (fun i => (i.zero, i.size, i.bytes)) = some (some (.agg #[.int .i64 0, .int .i64 0]), 2, 16) := by kernel_rfl
theorem zero95 (w : World) : (zeroValue 95).run Try.prog w = .ok (.agg #[.int .i64 0, .int .i64 0]) w := by
  obtain ⟨i0, hi0, hz0, hz1, hz2⟩ := info_parts info95f
  simp [zeroValue, typeInfo, hi0, hz0]
theorem own_mk {w : World} {g : Nat} {cur : List Value} {n cap : Nat} {xs : List S95} (hg : w.heap[g]? = some (.cells cur.toArray 95 (0, 0))) (hn : n = xs.length) (hc : cur.length = cap * 2) (hle : n ≤ cap) (hm : cap ≤ maxLen) (ht : cur.take (n * 2) = rowC xs) (B : Nat) (hB : B ≤ g) :
    w.ownsRow B 95 2 (.slice (some ⟨g, 0, none⟩) n cap) xs.length (rowC xs) :=
  ⟨rowC_length xs, .inr ⟨g, cap, cur.toArray, by rw [hn], hB, hg, by omega, hm, by simpa using hc, by rw [← hn]; simpa using ht⟩⟩
theorem splice_take {α : Type} {L : List α} {off : Nat} {cs : List α} (h : off ≤ L.length) : (splice L off cs).take (off + cs.length) = L.take off ++ cs := by
  unfold splice
  rw [← List.append_assoc, List.take_left' (by rw [List.length_append, List.length_take]; omega)]
theorem splice_take_le {α : Type} {L : List α} {off k : Nat} {cs : List α} (h : k ≤ off) (h2 : off ≤ L.length) : (splice L off cs).take k = L.take k := by
  unfold splice
  rw [List.take_append_of_le_length (by rw [List.length_take]; omega), List.take_take]
  congr 1; omega
theorem take_of_take {α : Type} {L A : List α} {n k : Nat} (h : L.take n = A) (hk : k ≤ n) : L.take k = A.take k := by
  rw [← h, List.take_take]; congr 1; omega
set_option maxRecDepth 100000 in
set_option maxHeartbeats 1000000 in
/-- slices.Replace, up to the end of what is there: in place. -/
theorem Replace_end (b cap : Nat) (cur : List Value) (l : List S95) (i L : Nat) (x0 x1 : Int) (bx : Nat) (w : World)
    (hg : w.heap[b]? = some (.cells cur.toArray 95 (0, 0))) (hc : cur.length = cap * 2) (hl : l.length = L) (hlc : L ≤ cap) (hm : cap ≤ maxLen) (ht : cur.take (L * 2) = rowC l)
    (hx : w.heap[bx]? = some (.cells #[.int .i64 x0, .int .i64 x1] 95 (0, 0))) (_hne : b ≠ bx) (hi : i < L) :
    Calls Try.prog 74 #[.slice (some ⟨b, 0, none⟩) L cap, .int .i64 (i : Int), .int .i64 (L : Int), .slice (some ⟨bx, 0, none⟩) 1 1] w fun e w' => ∃ v, e = .returned v ∧ (∀ B, B ≤ b → w'.ownsRow B 95 2 v (l.take i ++ [(⟨x0, x1⟩ : S95)]).length (rowC (l.take i ++ [(⟨x0, x1⟩ : S95)]))) ∧ Only b w w' := by
  unfold maxLen at hm
  have hne1 : ((i : Int) == (L : Int)) = false := by simp; omega
  have hi1 : (i : Int) < (L : Int) := by omega
  have HG := Aside0.mk hg
  have HX := Aside0.mk hx
  have HC := Aside0.mk hc
  have HT := Aside0.mk ht
  have HL := Aside0.mk hl
  clear hg hx hc ht hl
  go_enter Try.func74, Try.ntmps74
  obtain ⟨i0, hi0, hz0, hz1, hz2⟩ := info_parts info95f
  go_wp2_with (first
    | ((with_reducible refine gate_builtin (b := .append) (xs := #[.tmp 32, .tmp 33]) rfl ?_); at_builtin; refine wpList_append_room rfl (.tmp 32) (.tmp 33) 74 rfl 95 i0 2 Try.underlying74 hi0 hz1 b i cap rfl cur HG.out ⟨bx, 0, none⟩ 1 1 rfl [.int .i64 x0, .int .i64 x1] rfl (World.news_of_block HX.out) (by simp [Value.oneCell']) (by omega) (by have := HC.out; simp; omega) ?_; intro w1 hg1 ho1; have HG1 := Aside0.mk hg1; have HO1 := Aside0.mk ho1; clear hg1 ho1)
    | ((with_reducible refine gate_builtin (b := .clear) (xs := #[.tmp 43]) rfl ?_); refine wpList_clear_rows rfl (.tmp 43) 74 rfl 95 (.agg #[.int .i64 0, .int .i64 0]) 2 Try.underlying74 zero95 rfl (by decide) (some ⟨b, (i + 1) * 2, none⟩) (L - (i + 1)) (cap - (i + 1)) rfl b ((i + 1) * 2) _ 95 HG1.out (fun _ => rfl) (by rw [length_splice _ _ _ (by have := HC.out; simp; omega)]; have := HC.out; omega) ?_; intro w2 Z hZ hg2 ho2; have HZ := Aside0.mk hZ; have HG2 := Aside0.mk hg2; have HO2 := Aside0.mk (HO1.out.trans ho2); clear hZ hg2 ho2))
  all_goals go_ret
  · refine ⟨_, rfl, fun B hB => own_mk HG2.out (n := i + 1) (cap := cap) ?_ ?_ (by omega) (by unfold maxLen; omega) ?_ B hB, HO2.out⟩
    · have := HL.out; simp; omega
    · have := HC.out; have := HZ.out
      rw [length_splice _ _ _ (by rw [length_splice _ _ _ (by simp; omega)]; omega), length_splice _ _ _ (by simp; omega)]; omega
    · have := HC.out
      rw [splice_take_le (by omega) (by rw [length_splice _ _ _ (by simp; omega)]; omega), show (i + 1) * 2 = i * 2 + [Value.int .i64 x0, Value.int .i64 x1].length by simp; omega, splice_take (by omega), take_of_take HT.out (by omega), rowC_take, rowC_append]
      rfl
  · refine ⟨_, rfl, fun B hB => own_mk HG1.out (n := i + 1) (cap := cap) ?_ ?_ (by omega) (by unfold maxLen; omega) ?_ B hB, HO1.out⟩
    · have := HL.out; simp; omega
    · have := HC.out
      rw [length_splice _ _ _ (by simp; omega)]; omega
    · have := HC.out
      rw [show (i + 1) * 2 = i * 2 + [Value.int .i64 x0, Value.int .i64 x1].length by simp; omega, splice_take (by omega), take_of_take HT.out (by omega), rowC_take, rowC_append]
      rfl
end Go.Proofs.Ytiladcdogbeomaa.QRangesPlays

namespace Go.Proofs.Ytiladcdogbeomaa.QRangesPlays
open Go.RowKit Go.Shelf Go.Proofs.YtiladcdogbeomaaW.PrintWords Go.Proofs.YtiladcdogbeomaaW.PrintLast Go.Proofs.YtiladcdogbeomaaW.PrintMore Go.Proofs.Ytiladcdogbeomaa.RowLaws
theorem sz95 : (Try.prog.info? 95).map (·.size) = some 2 := by kernel_rfl
theorem splice_drop {α : Type} {L : List α} {off k : Nat} {cs : List α} (h : off + cs.length ≤ k) (h2 : off ≤ L.length) : (splice L off cs).drop k = L.drop k := by
  unfold splice
  rw [← List.append_assoc, List.drop_append, List.length_append, List.length_take, Nat.min_eq_left h2, List.drop_of_length_le (by rw [List.length_append, List.length_take]; omega), List.nil_append, List.drop_drop]
  congr 1; omega
theorem src_cells {w : World} {b off n : Nat} {t : TypeId} {cur cs : List Value} (hg : w.heap[b]? = some (.cells cur.toArray t (0, 0))) (h : (cur.drop off).take n = cs) : ∀ k v, cs[k]? = some v → w.cell? ((⟨b, off, none⟩ : Addr).add k) = some v := by
  intro k v hv
  rw [add_off]
  rw [← h, List.getElem?_take] at hv
  split at hv
  · rw [List.getElem?_drop] at hv
    simp [World.cell?, hg, hv]
  · cases hv
theorem mid_take {cur : List Value} {cap L i j : Nat} {l : List S95} {x0 x1 : Int} (hc : cur.length = cap * 2) (ht : cur.take (L * 2) = rowC l) (hl : l.length = L) (hi : i + 1 ≤ j) (hj : j < L) (hlc : L ≤ cap) :
    (splice (splice cur (i * 2) [Value.int .i64 x0, Value.int .i64 x1]) ((i + 1) * 2) (rowC (l.drop j))).take ((i + 1 + (L - j)) * 2) = rowC (l.take i ++ [(⟨x0, x1⟩ : S95)] ++ l.drop j) := by
  rw [show (i + 1 + (L - j)) * 2 = (i + 1) * 2 + (rowC (l.drop j)).length by rw [rowC_length, List.length_drop]; omega]
  rw [splice_take (by rw [length_splice _ _ _ (by simp; omega)]; omega)]
  rw [show (i + 1) * 2 = i * 2 + [Value.int .i64 x0, Value.int .i64 x1].length by simp; omega, splice_take (by omega), take_of_take ht (by omega), rowC_take, rowC_append, rowC_append]
  rfl
set_option maxRecDepth 100000 in
set_option maxHeartbeats 1000000 in
/-- slices.Replace in the middle: in place. -/
theorem Replace_mid (b cap : Nat) (cur : List Value) (l : List S95) (i j L : Nat) (x0 x1 : Int) (bx : Nat) (w : World)
    (hg : w.heap[b]? = some (.cells cur.toArray 95 (0, 0))) (hc : cur.length = cap * 2) (hl : l.length = L) (hlc : L ≤ cap) (hm : cap ≤ maxLen) (ht : cur.take (L * 2) = rowC l)
    (hx : w.heap[bx]? = some (.cells #[.int .i64 x0, .int .i64 x1] 95 (0, 0))) (hne : b ≠ bx) (hi : i + 1 ≤ j) (hj : j < L) :
    Calls Try.prog 74 #[.slice (some ⟨b, 0, none⟩) L cap, .int .i64 (i : Int), .int .i64 (j : Int), .slice (some ⟨bx, 0, none⟩) 1 1] w fun e w' => ∃ v, e = .returned v ∧ (∀ B, B ≤ b → w'.ownsRow B 95 2 v (l.take i ++ [(⟨x0, x1⟩ : S95)] ++ l.drop j).length (rowC (l.take i ++ [(⟨x0, x1⟩ : S95)] ++ l.drop j))) ∧ Only b w w' := by
  unfold maxLen at hm
  have hne1 : ((i : Int) == (j : Int)) = false := by simp; omega
  have hne2 : ((j : Int) == (L : Int)) = false := by simp; omega
  have HG := Aside0.mk hg
  have HX := Aside0.mk hx
  have HC := Aside0.mk hc
  have HT := Aside0.mk ht
  have HL := Aside0.mk hl
  clear hg hx hc ht hl
  go_enter Try.func74, Try.ntmps74
  go_wp2
  go_region
  have hdr : Only b w w.drew := (Only.refl b w).drew
  go_wp2_with ((with_reducible refine gate_builtin (b := .copy) (xs := #[.tmp 95, .tmp 96]) rfl ?_); refine wpList_copy_rows rfl (.tmp 95) (.tmp 96) 74 74 rfl 95 2 Try.underlying74 sz95 _ _ _ _ _ _ rfl rfl b (i * 2) cur 95 HG.out 1 (by show 1 = min 1 _; omega) [.int .i64 x0, .int .i64 x1] rfl (fun _ => ⟨rfl, _, rfl, World.news_of_block (w := w.drew) HX.out⟩) (by have := HC.out; simp; omega) (by simp [Value.oneCell']) ?_; intro w1 hg1 ho1; have HG1 := Aside0.mk hg1; have HO1 := Aside0.mk (hdr.trans ho1); clear hg1 ho1)
  have hS : ((splice cur (i * 2) [Value.int .i64 x0, Value.int .i64 x1]).drop (j * 2)).take ((L - j) * 2) = rowC (l.drop j) := by
    rw [splice_drop (by simp; omega) (by have := HC.out; omega), ← rowC_drop, ← HT.out, List.drop_take]
    congr 1; omega
  have hSl : (rowC (l.drop j)).length = (L - j) * 2 := by rw [rowC_length, List.length_drop, HL.out]
  have hfit1 : (i + 1) * 2 + (rowC (l.drop j)).length ≤ (splice cur (i * 2) [Value.int .i64 x0, Value.int .i64 x1]).length := by rw [hSl, length_splice _ _ _ (by have := HC.out; simp; omega)]; have := HC.out; omega
  have HS := Aside0.mk hS
  have HSL := Aside0.mk hSl
  have HF := Aside0.mk hfit1
  clear hS hSl hfit1
  have hw4 : (i : Int) + 1 ≤ (i : Int) + 1 + ((L - j : Nat) : Int) := by omega
  have hw5 : ¬ (cap = i + 1) := by omega
  have hw6 : ¬ (cap = j) := by omega
  have hw7 : j ≤ L := by omega
  have hw1 : IntKind.i64.wrap ((i : Int) + 1) = (i : Int) + 1 := IntWalk.i64_in _ (by omega)
  have hw2 : (0 : Int) ≤ (i : Int) + 1 := by omega
  have hw3 : ((i : Int) + 1).toNat = i + 1 := by omega
  refine still_tail_at 9 (by kernel_rfl) (by kernel_rfl) ?_
  intro W hW
  have HGW := Aside0.mk (show W.heap[b]? = some (.cells (splice cur (i * 2) [Value.int .i64 x0, Value.int .i64 x1]).toArray 95 (0, 0)) from by rw [hW]; exact HG1.out)
  have HOW := Aside0.mk (show Only b w W from by rw [hW]; exact HO1.out.drew)
  clear hW
  simp only [List.take_succ_cons, List.take_zero, List.drop_succ_cons, List.drop_zero]
  repeat still_step
  refine wpStill_nil ?_
  clear hw1 hw2 hw3 hw4 hw5 hw6 hw7
  by_cases hcap : i + 1 + (L - j) < cap
  · have hcap' : ¬ (cap = i + 1 + (L - j)) := by omega
    go_wp2_with (first
      | ((with_reducible refine gate_builtin (b := .copy) (xs := #[.tmp 103, .tmp 106]) rfl ?_); refine wpList_copy_rows rfl (.tmp 103) (.tmp 106) 74 74 rfl 95 2 Try.underlying74 sz95 _ _ _ _ _ _ rfl rfl b ((i + 1) * 2) _ 95 HGW.out (L - j) (by show L - j = min _ _; omega) (rowC (l.drop j)) HSL.out (fun _ => ⟨rfl, _, rfl, src_cells HGW.out HS.out⟩) HF.out (rowC_one _) ?_; intro w2 hg2 ho2; have HG2 := Aside0.mk hg2; have HO2 := Aside0.mk (HOW.out.trans ho2); clear hg2 ho2)
      | ((with_reducible refine gate_builtin (b := .clear) (xs := #[.tmp 110]) rfl ?_); refine wpList_clear_rows rfl (.tmp 110) 74 rfl 95 (.agg #[.int .i64 0, .int .i64 0]) 2 Try.underlying74 zero95 rfl (by decide) _ _ _ rfl b ((i + 1 + (L - j)) * 2) _ 95 HG2.out (fun _ => rfl) (by have := HC.out; rw [length_splice _ _ _ HF.out, length_splice _ _ _ (by simp; omega)]; omega) ?_; intro w3 Z hZ hg3 ho3; have HZ := Aside0.mk hZ; have HG3 := Aside0.mk hg3; have HO3 := Aside0.mk (HO2.out.trans ho3); clear hZ hg3 ho3))
    go_ret
    refine ⟨_, rfl, fun B hB => own_mk HG3.out (n := i + 1 + (L - j)) (cap := cap) ?_ ?_ (by omega) (by unfold maxLen; omega) ?_ B hB, HO3.out⟩
    · have := HL.out; simp; omega
    · have := HZ.out; have := HC.out
      rw [length_splice _ _ _ (by rw [length_splice _ _ _ HF.out, length_splice _ _ _ (by simp; omega)]; omega), length_splice _ _ _ HF.out, length_splice _ _ _ (by simp; omega)]; omega
    · have := HC.out
      rw [splice_take_le (by omega) (by rw [length_splice _ _ _ HF.out, length_splice _ _ _ (by simp; omega)]; omega)]
      exact mid_take HC.out HT.out HL.out hi hj hlc
  · obtain rfl : cap = i + 1 + (L - j) := by omega
    go_wp2_with (first
      | ((with_reducible refine gate_builtin (b := .copy) (xs := #[.tmp 103, .tmp 106]) rfl ?_); refine wpList_copy_rows rfl (.tmp 103) (.tmp 106) 74 74 rfl 95 2 Try.underlying74 sz95 _ _ _ _ _ _ rfl rfl b ((i + 1) * 2) _ 95 HGW.out (L - j) (by show L - j = min _ _; omega) (rowC (l.drop j)) HSL.out (fun _ => ⟨rfl, _, rfl, src_cells HGW.out HS.out⟩) HF.out (rowC_one _) ?_; intro w2 hg2 ho2; have HG2 := Aside0.mk hg2; have HO2 := Aside0.mk (HOW.out.trans ho2); clear hg2 ho2)
      | ((with_reducible refine gate_builtin (b := .clear) (xs := #[.tmp 110]) rfl ?_); refine wpList_clear_rows rfl (.tmp 110) 74 rfl 95 (.agg #[.int .i64 0, .int .i64 0]) 2 Try.underlying74 zero95 rfl (by decide) _ _ _ rfl b ((i + 1 + (L - j)) * 2) _ 95 HG2.out (fun h => by omega) (by have := HC.out; rw [length_splice _ _ _ HF.out, length_splice _ _ _ (by simp; omega)]; omega) ?_; intro w3 Z hZ hg3 ho3; have HZ := Aside0.mk hZ; have HG3 := Aside0.mk hg3; have HO3 := Aside0.mk (HO2.out.trans ho3); clear hZ hg3 ho3))
    go_ret
    refine ⟨_, rfl, fun B hB => own_mk HG3.out (n := i + 1 + (L - j)) (cap := i + 1 + (L - j)) ?_ ?_ (by omega) (by unfold maxLen; omega) ?_ B hB, HO3.out⟩
    · have := HL.out; simp; omega
    · have := HZ.out; have := HC.out
      rw [length_splice _ _ _ (by rw [length_splice _ _ _ HF.out, length_splice _ _ _ (by simp; omega)]; omega), length_splice _ _ _ HF.out, length_splice _ _ _ (by simp; omega)]; omega
    · have := HC.out
      rw [splice_take_le (by omega) (by rw [length_splice _ _ _ HF.out, length_splice _ _ _ (by simp; omega)]; omega)]
      exact mid_take HC.out HT.out HL.out hi hj hlc
end Go.Proofs.Ytiladcdogbeomaa.QRangesPlays

namespace Go.Proofs.Ytiladcdogbeomaa.QRangesPlays
open Go.RowKit Go.Shelf Go.Proofs.YtiladcdogbeomaaW.PrintWords Go.Proofs.YtiladcdogbeomaaW.PrintLast Go.Proofs.YtiladcdogbeomaaW.PrintMore Go.Proofs.Ytiladcdogbeomaa.RowLaws
set_option maxRecDepth 100000 in
set_option maxHeartbeats 1000000 in
/-- slices.Insert at the end. -/
theorem Insert_end (B : Nat) (s : Value) (l : List S95) (L : Nat) (x0 x1 : Int) (bx : Nat) (w : World)
    (ho : w.ownsRow B 95 2 s l.length (rowC l)) (hl : l.length = L) (hsz : L * 16 ≤ 70368744177664)
    (hx : w.heap[bx]? = some (.cells #[.int .i64 x0, .int .i64 x1] 95 (0, 0))) (hB : B ≤ w.heap.size) :
    Calls Try.prog 91 #[s, .int .i64 (L : Int), .slice (some ⟨bx, 0, none⟩) 1 1] w fun e w' => ∃ v, e = .returned v ∧ w'.ownsRow B 95 2 v (l ++ [(⟨x0, x1⟩ : S95)]).length (rowC (l ++ [(⟨x0, x1⟩ : S95)])) ∧ w.grownBy w' s.ownBlock := by
  have HO := Aside0.mk ho
  have HX := Aside0.mk hx
  have HL := Aside0.mk hl
  obtain ⟨i0, hi0, hz0, hz1, hz2⟩ := info_parts info95f
  have hne : ((0 : Int) == (1 : Int)) = false := by decide
  rcases ho.2 with ⟨rfl, h0⟩ | ⟨g, cap, cur, rfl, hg, hh, hle, hm, _, _⟩
  · have : L = 0 := by omega
    subst this
    clear hl hx ho h0
    go_enter Try.func91, Try.ntmps91
    go_wp2_with ((with_reducible refine gate_builtin (b := .append) (xs := #[.tmp 23, .tmp 24]) rfl ?_); at_builtin; refine wpList_append_own _ rfl (.tmp 23) (.tmp 24) 74 rfl B 95 i0 (.agg #[.int .i64 0, .int .i64 0]) 2 16 Try.underlying74 hi0 hz0 hz1 hz2 rfl (by decide) _ _ _ rfl HO.out ⟨bx, 0, none⟩ 1 1 [.int .i64 x0, .int .i64 x1] rfl rfl (World.news_of_block HX.out) (by simp [Value.oneCell']) (by have := HL.out; unfold maxLen; omega) (by have := HL.out; omega) hB ?_; intro v1 w1 ho1 hg1 _; have HO1 := Aside0.mk ho1; have HG1 := Aside0.mk hg1; clear ho1 hg1)
    go_ret
    exact ⟨_, rfl, by have h := HO1.out; rw [rowC_append, List.length_append]; exact h, HG1.out⟩
  · clear hx ho hh
    unfold maxLen at hm
    obtain rfl := hl
    go_enter Try.func91, Try.ntmps91
    go_wp2_with ((with_reducible refine gate_builtin (b := .append) (xs := #[.tmp 23, .tmp 24]) rfl ?_); at_builtin; refine wpList_append_own _ rfl (.tmp 23) (.tmp 24) 74 rfl B 95 i0 (.agg #[.int .i64 0, .int .i64 0]) 2 16 Try.underlying74 hi0 hz0 hz1 hz2 rfl (by decide) _ _ _ rfl HO.out ⟨bx, 0, none⟩ 1 1 [.int .i64 x0, .int .i64 x1] rfl rfl (World.news_of_block HX.out) (by simp [Value.oneCell']) (by have := HL.out; unfold maxLen; omega) (by have := HL.out; omega) hB ?_; intro v1 w1 ho1 hg1 _; have HO1 := Aside0.mk ho1; have HG1 := Aside0.mk hg1; clear ho1 hg1)
    all_goals
      go_ret
      exact ⟨_, rfl, by rw [rowC_append]; exact HO1.out, HG1.out⟩
theorem splice_take_ge {α : Type} {L : List α} {off k : Nat} {cs : List α} (h : off + cs.length ≤ k) (h2 : off ≤ L.length) : (splice L off cs).take k = L.take off ++ cs ++ (L.take k).drop (off + cs.length) := by
  unfold splice
  rw [← List.append_assoc, List.take_append, List.take_of_length_le (by rw [List.length_append, List.length_take]; omega), List.length_append, List.length_take, Nat.min_eq_left h2, List.drop_take]
theorem under3 : Try.prog.underlying 3 = some (.int .i64) := by kernel_rfl
set_option maxRecDepth 100000 in
set_option maxHeartbeats 1000000 in
/-- slices.Insert ahead of the end, no room. -/
theorem Insert_grow (b : Nat) (cur : List Value) (l : List S95) (i L : Nat) (x0 x1 : Int) (bx : Nat) (w : World)
    (hg : w.heap[b]? = some (.cells cur.toArray 95 (0, 0))) (hl : l.length = L) (hlc : L ≤ 4398046511104) (ht : cur.take (L * 2) = rowC l) (hc : cur.length = L * 2)
    (hx : w.heap[bx]? = some (.cells #[.int .i64 x0, .int .i64 x1] 95 (0, 0))) (hi : i < L) :
    Calls Try.prog 91 #[.slice (some ⟨b, 0, none⟩) L L, .int .i64 (i : Int), .slice (some ⟨bx, 0, none⟩) 1 1] w fun e w' => ∃ v, e = .returned v ∧ (∀ B, B ≤ w.heap.size → w'.ownsRow B 95 2 v (l.take i ++ [(⟨x0, x1⟩ : S95)] ++ l.drop i).length (rowC (l.take i ++ [(⟨x0, x1⟩ : S95)] ++ l.drop i))) ∧ Only b w w' := by
  obtain ⟨i0, hi0, hz0, hz1, hz2⟩ := info_parts info95f
  have hne1 : ((i : Int) == (L : Int)) = false := by simp; omega
  have hne : ((1 : Int) == (0 : Int)) = false := by decide
  have HG := Aside0.mk hg
  have HX := Aside0.mk hx
  have HC := Aside0.mk hc
  have HT := Aside0.mk ht
  have HL := Aside0.mk hl
  have hcc : ¬ (L = i) := by omega
  have hbx : bx < w.heap.size := (Array.getElem?_eq_some_iff.1 hx).1
  have hbb : b < w.heap.size := (Array.getElem?_eq_some_iff.1 hg).1
  clear hg hx hc ht hl
  go_enter Try.func91, Try.ntmps91
  go_wp2_with (first
    | ((with_reducible refine gate_builtin (b := .append) (xs := #[.tmp 34, .tmp 39]) rfl ?_); refine wpList_append_zeros rfl (.tmp 34) (.tmp 39) 74 3 rfl 95 i0 (.agg #[.int .i64 0, .int .i64 0]) 2 .i64 Try.underlying74 under3 hi0 hz0 hz1 rfl b i L rfl (rowC (l.take i)) (by rw [rowC_length, List.length_take, HL.out, Nat.min_eq_left (by omega)]) ?hold .i64 (L + 1 - i) ?hx (by omega) (by decide) (by omega) (by omega) (by rw [hz2]; omega) (by rw [hz2]; exact growslice_fits (by omega) (by omega)) ?_; (case hx => show Value.int IntKind.i64 _ = Value.int IntKind.i64 ((L + 1 - i : Nat) : Int); congr 1; omega); (case hold => have hs := src_cells (n := i * 2) (off := 0) HG.out (by rw [List.drop_zero, take_of_take HT.out (by omega), rowC_take]); intro j u hu; have := hs j u hu; rwa [add_off, Nat.zero_add] at this); rw [show i + (L + 1 - i) = L + 1 by omega]; intro w1 cap2 cur2 hc1 hc2 hg1 hl1 ht1 hb1 hs1; have HG1 := Aside0.mk hg1; have HL1 := Aside0.mk hl1; have HT1 := Aside0.mk ht1; have HB1 := Aside0.mk hb1; have HX1 := Aside0.mk (show w1.heap[bx]? = some (.cells #[.int .i64 x0, .int .i64 x1] 95 (0, 0)) from (hb1.block bx hbx).trans HX.out); have HS1 := Aside0.mk (show w1.heap[b]? = some (.cells cur.toArray 95 (0, 0)) from (hb1.block b hbb).trans HG.out); clear hg1 hl1 ht1 hb1)
    | ((with_reducible refine gate_builtin (b := .copy) (xs := #[.tmp 43, .tmp 44]) rfl ?_); refine wpList_copy_rows rfl (.tmp 43) (.tmp 44) 74 74 rfl 95 2 Try.underlying74 sz95 _ _ _ _ _ _ rfl rfl w.heap.size (i * 2) cur2 95 HG1.out 1 (by show 1 = min 1 _; omega) [.int .i64 x0, .int .i64 x1] rfl (fun _ => ⟨rfl, _, rfl, World.news_of_block HX1.out⟩) (by have := HL1.out; simp; omega) (by simp [Value.oneCell']) ?_; intro w2 hg2 ho2; have HG2 := Aside0.mk hg2; have HO2 := Aside0.mk ho2; clear hg2 ho2))
  have hw4 : (i : Int) + 1 ≤ (L : Int) + 1 := by omega
  have hw5 : ¬ (cap2 = i + 1) := by omega
  have hw7 : i ≤ L := by omega
  have hw1 : IntKind.i64.wrap ((i : Int) + 1) = (i : Int) + 1 := IntWalk.i64_in _ (by omega)
  have hw2 : (0 : Int) ≤ (i : Int) + 1 := by omega
  have hw3 : ((i : Int) + 1).toNat = i + 1 := by omega
  refine still_tail_at 8 (by kernel_rfl) (by kernel_rfl) ?_
  intro W hW
  have HGW := Aside0.mk (show W.heap[w.heap.size]? = some (.cells (splice cur2 (i * 2) [Value.int .i64 x0, Value.int .i64 x1]).toArray 95 (0, 0)) from by rw [hW]; exact HG2.out)
  have HOW := Aside0.mk (show Only w.heap.size w1 W from by rw [hW]; exact HO2.out.drew)
  have HSW := Aside0.mk (show W.heap[b]? = some (.cells cur.toArray 95 (0, 0)) from by rw [hW]; exact (HO2.out.block b (by omega) (by intro e; injection e; omega)).trans HS1.out)
  clear hW
  simp only [List.take_succ_cons, List.take_zero, List.drop_succ_cons, List.drop_zero]
  repeat still_step
  refine wpStill_nil ?_
  clear hw1 hw2 hw3 hw4 hw5 hw7
  go_wp2_with ((with_reducible refine gate_builtin (b := .copy) (xs := #[.tmp 50, .tmp 53]) rfl ?_); refine wpList_copy_rows rfl (.tmp 50) (.tmp 53) 74 74 rfl 95 2 Try.underlying74 sz95 _ _ _ _ _ _ rfl rfl w.heap.size ((i + 1) * 2) _ 95 HGW.out (L - i) (by show L - i = min _ _; omega) (rowC (l.drop i)) (by rw [rowC_length, List.length_drop, HL.out]) (fun _ => ⟨rfl, _, rfl, src_cells (n := (L - i) * 2) HSW.out (by rw [← rowC_drop, ← HT.out, List.drop_take]; congr 1; omega)⟩) (by have := HL1.out; rw [rowC_length, List.length_drop, HL.out, length_splice _ _ _ (by simp; omega)]; omega) (rowC_one _) ?_; intro w3 hg3 ho3; have HG3 := Aside0.mk hg3; have HO3 := Aside0.mk (HOW.out.trans ho3); clear hg3 ho3)
  go_ret
  have h1 := HL1.out
  have h2 := HL.out
  refine ⟨_, rfl, fun B hB => own_mk HG3.out (n := L + 1) (cap := cap2) ?_ ?_ (by omega) hc2 ?_ B hB, ?_⟩
  · simp; omega
  · rw [length_splice _ _ _ (by rw [rowC_length, List.length_drop, HL.out, length_splice _ _ _ (by simp; omega)]; omega), length_splice _ _ _ (by simp; omega)]; omega
  · rw [show (L + 1) * 2 = (i + 1) * 2 + (rowC (l.drop i)).length by rw [rowC_length, List.length_drop]; omega]
    rw [splice_take (by rw [length_splice _ _ _ (by simp; omega)]; omega)]
    rw [show (i + 1) * 2 = i * 2 + [Value.int .i64 x0, Value.int .i64 x1].length by simp; omega, splice_take (by omega), HT1.out, rowC_append, rowC_append]
    rfl
  · exact Only.of_below (Only.fresh HB1.out HO3.out (Nat.le_refl _))
set_option maxRecDepth 100000 in
set_option maxHeartbeats 1000000 in
/-- slices.Insert ahead of the end, in place. -/
theorem Insert_room (b cap : Nat) (cur : List Value) (l : List S95) (i L : Nat) (x0 x1 : Int) (bx : Nat) (w : World)
    (hg : w.heap[b]? = some (.cells cur.toArray 95 (0, 0))) (hl : l.length = L) (hlc : L < cap) (hm : cap ≤ maxLen) (ht : cur.take (L * 2) = rowC l) (hc : cur.length = cap * 2)
    (hx : w.heap[bx]? = some (.cells #[.int .i64 x0, .int .i64 x1] 95 (0, 0))) (hne : b ≠ bx) (hi : i < L) :
    Calls Try.prog 91 #[.slice (some ⟨b, 0, none⟩) L cap, .int .i64 (i : Int), .slice (some ⟨bx, 0, none⟩) 1 1] w fun e w' => ∃ v, e = .returned v ∧ (∀ B, B ≤ b → w'.ownsRow B 95 2 v (l.take i ++ [(⟨x0, x1⟩ : S95)] ++ l.drop i).length (rowC (l.take i ++ [(⟨x0, x1⟩ : S95)] ++ l.drop i))) ∧ Only b w w' := by
  unfold maxLen at hm
  have hne1 : ((i : Int) == (L : Int)) = false := by simp; omega
  have hne2 : ((1 : Int) == (0 : Int)) = false := by decide
  have hsz2 : ∀ w, (sizeOf 95).run Try.prog w = .ok 2 w := fun w => by
    obtain ⟨i0, hi0, hz0, hz1, hz2⟩ := info_parts info95f
    simp [sizeOf, typeInfo, hi0, hz1]
  have hov : ∀ la lb cb, (callFunc 92 #[.slice (some ⟨bx, 0, none⟩) 1 la, .slice (some ⟨b, (i + 1) * 2, none⟩) lb cb]).run Try.prog w = .ok (.value (.bool false)) w := fun la lb cb => by
    rw [run_callFunc_extern Try.func92 (by kernel_rfl) (by kernel_rfl) (by kernel_rfl) (e := Extern.SlicesOverlaps.overlaps #[74, 74] #[4]) (by kernel_rfl),
      Lib.run_overlaps_apart w 74 4 95 Try.underlying74 2 hsz2 ⟨bx, 0, none⟩ ⟨b, (i + 1) * 2, none⟩ 1 la lb cb (fun e => hne e.symm) 95 95 2 (cap * 2) (by simp [World.shape?, hx]) (by simp [World.shape?, hg, hc]) (by omega) (by simp [World.frozen?, hx]) (by simp [World.frozen?, hx])]
    rfl
  have HG := Aside0.mk hg
  have HX := Aside0.mk hx
  have HC := Aside0.mk hc
  have HT := Aside0.mk ht
  have HL := Aside0.mk hl
  have hcc : ¬ (cap = i) := by omega
  have hcc2 : ¬ (cap = i + 1) := by omega
  clear hg hx hc ht hl hsz2
  go_enter Try.func91, Try.ntmps91
  go_wp2_with (simp only [hov])
  have hw4 : (i : Int) + 1 ≤ (L : Int) + 1 := by omega
  have hw7 : i ≤ L + 1 := by omega
  have hw8 : (i : Int) ≤ (L : Int) + 1 := by omega
  have hw1 : IntKind.i64.wrap ((i : Int) + 1) = (i : Int) + 1 := IntWalk.i64_in _ (by omega)
  have hw2 : (0 : Int) ≤ (i : Int) + 1 := by omega
  have hw3 : ((i : Int) + 1).toNat = i + 1 := by omega
  refine still_tail_at 8 (by kernel_rfl) (by kernel_rfl) ?_
  intro W hW
  have HGW := Aside0.mk (show W.heap[b]? = some (.cells cur.toArray 95 (0, 0)) from by rw [hW]; exact HG.out)
  have HOW := Aside0.mk (show Only b w W from by rw [hW]; exact (Only.refl b w).drew)
  have HXW := Aside0.mk (show W.heap[bx]? = some (.cells #[.int .i64 x0, .int .i64 x1] 95 (0, 0)) from by rw [hW]; exact HX.out)
  clear hW
  simp only [List.take_succ_cons, List.take_zero, List.drop_succ_cons, List.drop_zero]
  repeat still_step
  refine wpStill_nil ?_
  clear hw1 hw2 hw3 hw4 hw7 hw8
  have hbx : bx < w.heap.size := (Array.getElem?_eq_some_iff.1 HX.out).1
  have hbW : bx < W.heap.size := (Array.getElem?_eq_some_iff.1 HXW.out).1
  go_wp2_with (first
    | ((with_reducible refine gate_builtin (b := .copy) (xs := #[.tmp 73, .tmp 76]) rfl ?_); refine wpList_copy_rows rfl (.tmp 73) (.tmp 76) 74 74 rfl 95 2 Try.underlying74 sz95 _ _ _ _ _ _ rfl rfl b ((i + 1) * 2) cur 95 HGW.out (L - i) (by show L - i = min _ _; omega) (rowC (l.drop i)) (by rw [rowC_length, List.length_drop, HL.out]) (fun _ => ⟨rfl, _, rfl, src_cells (n := (L - i) * 2) HGW.out (by rw [← rowC_drop, ← HT.out, List.drop_take]; congr 1; omega)⟩) (by have := HC.out; rw [rowC_length, List.length_drop, HL.out]; omega) (rowC_one _) ?_; intro w3 hg3 ho3; have HG3 := Aside0.mk hg3; have HO3 := Aside0.mk (HOW.out.trans ho3); have HX3 := Aside0.mk (show w3.heap[bx]? = some (.cells #[.int .i64 x0, .int .i64 x1] 95 (0, 0)) from (ho3.block bx hbW (by intro e; injection e; omega)).trans HXW.out); clear hg3 ho3)
    | ((with_reducible refine gate_builtin (b := .copy) (xs := #[.tmp 80, .tmp 81]) rfl ?_); refine wpList_copy_rows rfl (.tmp 80) (.tmp 81) 74 74 rfl 95 2 Try.underlying74 sz95 _ _ _ _ _ _ rfl rfl b (i * 2) _ 95 HG3.out 1 (by show 1 = min 1 _; omega) [.int .i64 x0, .int .i64 x1] rfl (fun _ => ⟨rfl, _, rfl, World.news_of_block HX3.out⟩) (by have := HC.out; rw [length_splice _ _ _ (by rw [rowC_length, List.length_drop, HL.out]; omega)]; simp; omega) (by simp [Value.oneCell']) ?_; intro w4 hg4 ho4; have HG4 := Aside0.mk hg4; have HO4 := Aside0.mk (HO3.out.trans ho4); clear hg4 ho4))
  go_ret
  have h1 := HC.out
  have h2 := HL.out
  have h3 : (splice cur ((i + 1) * 2) (rowC (l.drop i))).length = cap * 2 := by rw [length_splice _ _ _ (by rw [rowC_length, List.length_drop, HL.out]; omega)]; exact h1
  refine ⟨_, rfl, fun B hB => own_mk HG4.out (n := L + 1) (cap := cap) ?_ ?_ (by omega) (by unfold maxLen; omega) ?_ B hB, HO4.out⟩
  · simp; omega
  · rw [length_splice _ _ _ (by simp; omega)]; omega
  · rw [splice_take_ge (by simp; omega) (by omega), splice_take_le (by omega) (by omega)]
    rw [show (L + 1) * 2 = (i + 1) * 2 + (rowC (l.drop i)).length by rw [rowC_length, List.length_drop]; omega, splice_take (by omega)]
    rw [show i * 2 + [Value.int .i64 x0, Value.int .i64 x1].length = (i + 1) * 2 by simp; omega, List.drop_left' (by rw [List.length_take]; omega), take_of_take HT.out (by omega), rowC_take, rowC_append, rowC_append]
    rfl
end Go.Proofs.Ytiladcdogbeomaa.QRangesPlays

namespace Go.Proofs.Ytiladcdogbeomaa.QRangesPlays
open Go.RowKit Go.Shelf Go.Proofs.YtiladcdogbeomaaW.PrintWords Go.Proofs.YtiladcdogbeomaaW.PrintLast Go.Proofs.YtiladcdogbeomaaW.PrintMore Go.Proofs.Ytiladcdogbeomaa.RowLaws
/-- The slice value v is a row of the call's own, from block B on, that holds these spans. -/
def OwnS (W : World) (B : Nat) (v : Value) (xs : List S95) : Prop := W.ownsRow B 95 2 v xs.length (rowC xs)
set_option maxRecDepth 100000 in
/-- slices.Insert of one span into a row of the call's own. -/
theorem Insert_calls (B : Nat) (s : Value) (l : List S95) (i L : Nat) (x0 x1 : Int) (bx : Nat) (w : World)
    (ho : OwnS w B s l) (hl : l.length = L) (hsz : L ≤ 4398046511104)
    (hx : w.heap[bx]? = some (.cells #[.int .i64 x0, .int .i64 x1] 95 (0, 0))) (hne : some bx ≠ s.ownBlock) (hi : i ≤ L) (hB : B ≤ w.heap.size) :
    Calls Try.prog 91 #[s, .int .i64 (i : Int), .slice (some ⟨bx, 0, none⟩) 1 1] w fun e w' => ∃ v, e = .returned v ∧ OwnS w' B v (l.take i ++ [(⟨x0, x1⟩ : S95)] ++ l.drop i) ∧ w.grownBy w' s.ownBlock := by
  by_cases hiL : i = L
  · subst hiL
    have e : l.take i ++ [(⟨x0, x1⟩ : S95)] ++ l.drop i = l ++ [(⟨x0, x1⟩ : S95)] := by rw [List.take_of_length_le (by omega), List.drop_of_length_le (by omega), List.append_nil]
    rw [e]
    exact Insert_end B s l i x0 x1 bx w ho hl (by omega) hx hB
  · rcases ho.2 with ⟨rfl, h0⟩ | ⟨g, cap, cur, rfl, hg, hh, hle, hm, hcs, htk⟩
    · omega
    · have hne' : g ≠ bx := by intro e; exact hne (by simp [Value.ownBlock, e])
      obtain rfl := hl
      by_cases hc : l.length = cap
      · subst hc
        skip
        refine (Insert_grow g cur.toList l i l.length x0 x1 bx w (by simpa using hh) rfl hsz (by simpa using htk) (by simpa using hcs) hx (by omega)).mono ?_
        rintro e w' ⟨v, rfl, h1, h2⟩
        exact ⟨v, rfl, h1 B hB, h2⟩
      · skip
        refine (Insert_room g cap cur.toList l i l.length x0 x1 bx w (by simpa using hh) rfl (by omega) hm (by simpa using htk) (by simpa using hcs) hx hne' (by omega)).mono ?_
        rintro e w' ⟨v, rfl, h1, h2⟩
        exact ⟨v, rfl, h1 B hg, h2⟩
set_option maxRecDepth 100000 in
set_option maxHeartbeats 1000000 in
theorem Replace_same (B : Nat) (s : Value) (l : List S95) (i L : Nat) (x0 x1 : Int) (bx : Nat) (w : World)
    (ho : OwnS w B s l) (hl : l.length = L) (hsz : L ≤ 4398046511104)
    (hx : w.heap[bx]? = some (.cells #[.int .i64 x0, .int .i64 x1] 95 (0, 0))) (hne : some bx ≠ s.ownBlock) (hi : i ≤ L) (hB : B ≤ w.heap.size) :
    Calls Try.prog 74 #[s, .int .i64 (i : Int), .int .i64 (i : Int), .slice (some ⟨bx, 0, none⟩) 1 1] w fun e w' => ∃ v, e = .returned v ∧ OwnS w' B v (l.take i ++ [(⟨x0, x1⟩ : S95)] ++ l.drop i) ∧ w.grownBy w' s.ownBlock := by
  have HI := Aside0.mk (Insert_calls B s l i L x0 x1 bx w ho hl hsz hx hne hi hB)
  rcases ho.2 with ⟨rfl, h0⟩ | ⟨g, cap, cur, rfl, hg, hh, hle, hm, _, _⟩
  · have : i = 0 := by omega
    subst this
    clear hl hx ho h0
    go_enter Try.func74, Try.ntmps74
    go_wp2_with (go_at_call 91; refine HI.out.mono ?_; rintro e w1 ⟨v, rfl, ho, hg⟩; have HO := Aside0.mk ho; have HG := Aside0.mk hg; clear ho hg)
    go_ret
    exact ⟨_, rfl, HO.out, HG.out⟩
  · unfold maxLen at hm
    clear hx ho hh
    obtain rfl := hl
    go_enter Try.func74, Try.ntmps74
    go_wp2_with (go_at_call 91; refine HI.out.mono ?_; rintro e w1 ⟨v, rfl, ho, hg⟩; have HO := Aside0.mk ho; have HG := Aside0.mk hg; clear ho hg)
    all_goals
      go_ret
      exact ⟨v, rfl, by simpa using HO.out, HG.out⟩
set_option maxRecDepth 100000 in
/-- slices.Replace by one span in a row of the call's own. -/
theorem Replace_calls (B : Nat) (s : Value) (l : List S95) (i j L : Nat) (x0 x1 : Int) (bx : Nat) (w : World)
    (ho : OwnS w B s l) (hl : l.length = L) (hsz : L ≤ 4398046511104)
    (hx : w.heap[bx]? = some (.cells #[.int .i64 x0, .int .i64 x1] 95 (0, 0))) (hne : some bx ≠ s.ownBlock) (hi : i ≤ j) (hj : j ≤ L) (hB : B ≤ w.heap.size) :
    Calls Try.prog 74 #[s, .int .i64 (i : Int), .int .i64 (j : Int), .slice (some ⟨bx, 0, none⟩) 1 1] w fun e w' => ∃ v, e = .returned v ∧ OwnS w' B v (l.take i ++ [(⟨x0, x1⟩ : S95)] ++ l.drop j) ∧ w.grownBy w' s.ownBlock := by
  by_cases hij : i = j
  · subst hij; exact Replace_same B s l i L x0 x1 bx w ho hl hsz hx hne hj hB
  · rcases ho.2 with ⟨rfl, h0⟩ | ⟨g, cap, cur, rfl, hg, hh, hle, hm, hcs, htk⟩
    · omega
    · have hne' : g ≠ bx := by intro e; exact hne (by simp [Value.ownBlock, e])
      obtain rfl := hl
      by_cases hc : j = l.length
      · subst hc
        have e : l.take i ++ [(⟨x0, x1⟩ : S95)] ++ l.drop l.length = l.take i ++ [(⟨x0, x1⟩ : S95)] := by rw [List.drop_of_length_le (by omega), List.append_nil]
        rw [e]
        refine (Replace_end g cap cur.toList l i l.length x0 x1 bx w (by simpa using hh) (by simpa using hcs) rfl (by omega) hm (by simpa using htk) hx hne' (by omega)).mono ?_
        rintro e w' ⟨v, rfl, h1, h2⟩
        exact ⟨v, rfl, h1 B hg, h2⟩
      · refine (Replace_mid g cap cur.toList l i j l.length x0 x1 bx w (by simpa using hh) (by simpa using hcs) rfl (by omega) hm (by simpa using htk) hx hne' (by omega) (by omega)).mono ?_
        rintro e w' ⟨v, rfl, h1, h2⟩
        exact ⟨v, rfl, h1 B hg, h2⟩
end Go.Proofs.Ytiladcdogbeomaa.QRangesPlays
