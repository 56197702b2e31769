/- Contracts and plain laws for the statement RecordPlays, part c: several texts of this session behind one another. No condition. -/
import Derived.Test.YtiohgpcbdefokaaDoorMRecordPlaysb
import Derived.Deep.RegionHeld3
import Derived.Deep.DeepCutAuto
import Derived.Test.YtiohgpcbdefokaaDoorMRecordPlaysa
import Derived.Lib.Hide
import Derived.WalkSpells
import Derived.RegionTactic
/- The document's answer for a record's step: what its box and its loop tell. No condition. -/
namespace Go.Proofs.YtiohgpcbdefokaaDoor.B
open Go.RowKit Go.Proofs.YtiohgpcbdefokaaDoorW.PrintWords Go.Proofs.YtiohgpcbdefokaaDoor.RowLaws
attribute [local go_sem ↓ high] lvO_hs ldO_hs stO_hs lvO_pt ldO_pt stO_pt zero_pt eqA_pt lvO_ptR ldO_ptR stO_ptR zero_ptR eqA_ptR lvO_rc ldO_rc stO_rc zero_rc eqA_rc lvO_rcR ldO_rcR stO_rcR zero_rcR eqA_rcR lvO_tk ldO_tk stO_tk zero_tk eqA_tk lvO_tkR ldO_tkR stO_tkR zero_tkR eqA_tkR lvO_it ldO_it stO_it zero_it eqA_it blO_pt blO_ptR blO_rc blO_rcR blO_tk blO_tkR blO_it bsO_pt bsO_ptR bsO_rc bsO_rcR bsO_it
attribute [local go_sem high] rowAt_setCell rowAt_setRow cell_setRow_ne isRow_setRow_ne rowAt_alloc rowAt_drew isRow_alloc isRow_drew isRow_setCell rowRun_some okL_hs ldV_hs ldA_hs stA_hs setRow_alloc get_pt_id get_pt_path cut_pt_sum get_pt_size get_pt_off cut_pt okL_pt size_pt lenb_pt eta_pt ldV_pt ldA_pt stA_pt ldV_ptR ldA_ptR stA_ptR get_rc_kind get_rc_id get_rc_path cut_rc_sum get_rc_size get_rc_off cut_rc okL_rc size_rc lenb_rc eta_rc ldV_rc ldA_rc stA_rc ldV_rcR ldA_rcR stA_rcR get_tk_path cut_tk_sum get_tk_size get_tk_off cut_tk_old cut_tk okL_tk size_tk lenb_tk eta_tk ldV_tk ldA_tk stA_tk ldV_tkR ldA_tkR stA_tkR get_it_path get_it_dir get_it_size cut_it_sum cut_it okL_it size_it lenb_it eta_it ldV_it ldA_it stA_it bld_pt_01234 bld_pt_0123 bld_pt_z bld_ptR_01234 bld_ptR_0123 bld_ptR_z bld_rc_012345 bld_rc_015 bld_rc_01 bld_rc_z bld_rc_01234 bld_rc_24 bld_rc_05 bld_rc_0 bld_rcR_012345 bld_rcR_015 bld_rcR_01 bld_rcR_z bld_rcR_01234 bld_rcR_24 bld_rcR_05 bld_rcR_0 bld_tk_01234 bld_tk_0 bld_tk_z bld_tkR_01234 bld_tkR_0 bld_tkR_z bld_it_0123 bld_it_023 bld_it_01 bld_it_0 bld_it_z bs0_pt bs1_pt bs0_ptR bs1_ptR bs0_rc bs1_rc bs0_rcR bs1_rcR bs0_it bs1_it
attribute [local irreducible] wpStill
/-- The boxes of a state and a record, and the box of what is handed back. -/
structure RsW (w : World) (A : Option Addr) (n c : Nat) (nx : Int) (r : Rc) (W : World) : Prop where
  b : Below w.heap.size w W
  z : w.heap.size + 1 + 1 + 1 ≤ W.heap.size
  s0 : W.cell? ⟨w.heap.size, 0, none⟩ = some (.slice A n c)
  s1 : W.cell? ⟨w.heap.size, 1, none⟩ = some (.int .i64 nx)
  rr : rowAt W ⟨w.heap.size + 1, 0, none⟩ 37 = some (rcL r)
  rs : rowAt W ⟨w.heap.size + 1, 3, none⟩ 32 = some (hsL r.sum)
  t0 : W.cell? ⟨w.heap.size + 1 + 1, 0, none⟩ = some (.slice none 0 0)
  t1 : W.cell? ⟨w.heap.size + 1 + 1, 1, none⟩ = some (.int .i64 0)
  f0 : W.frozen? ⟨w.heap.size + 1 + 1, 0, none⟩ = false
  f1 : W.frozen? ⟨w.heap.size + 1 + 1, 1, none⟩ = false
theorem RsW.below {w : World} {A : Option Addr} {n c : Nat} {nx : Int} {r : Rc} {W W' : World} (h : RsW w A n c nx r W) (hb : Below (w.heap.size + 1 + 1 + 1) W W') : RsW w A n c nx r W' := by
  have hz := h.z
  have hs := hb.size
  exact ⟨Below.trans h.b (hb.mono (by omega)), by omega, (hb.cell (p := ⟨w.heap.size, 0, none⟩) (by simp; omega)).trans h.s0, (hb.cell (p := ⟨w.heap.size, 1, none⟩) (by simp; omega)).trans h.s1, by rw [rowAt_below hb (by simp)]; exact h.rr, by rw [rowAt_below hb (by simp)]; exact h.rs, (hb.cell (p := ⟨w.heap.size + 1 + 1, 0, none⟩) (by simp)).trans h.t0, (hb.cell (p := ⟨w.heap.size + 1 + 1, 1, none⟩) (by simp)).trans h.t1, (hb.frozen (p := ⟨w.heap.size + 1 + 1, 0, none⟩) (by simp)).trans h.f0, (hb.frozen (p := ⟨w.heap.size + 1 + 1, 1, none⟩) (by simp)).trans h.f1⟩
theorem RsW.cells {w : World} {A : Option Addr} {n c : Nat} {nx : Int} {r : Rc} {W : World} (h : RsW w A n c nx r W) : W.cell? ⟨w.heap.size + 1, 0, none⟩ = some (.int .u8 r.kind) ∧ W.cell? ⟨w.heap.size + 1, 1, none⟩ = some (.int .i64 r.id) ∧ W.cell? ⟨w.heap.size + 1, 2, none⟩ = some (.string r.path) ∧ W.cell? ⟨w.heap.size + 1, 35, none⟩ = some (.int .i64 r.size) ∧ W.cell? ⟨w.heap.size + 1, 36, none⟩ = some (.int .i64 r.off) :=
  ⟨(rowAt_some h.rr).2 0 _ (get_rc_kind r), (rowAt_some h.rr).2 1 _ (get_rc_id r), (rowAt_some h.rr).2 2 _ (get_rc_path r), (rowAt_some h.rr).2 35 _ (get_rc_size r), (rowAt_some h.rr).2 36 _ (get_rc_off r)⟩
/-- Which place the loop has found so far. -/
def AtI (l : List Pt) (id : Int) (k : Nat) (v : Value) : Prop :=
  (v = .int .i64 (-1) ∧ ∀ j, j < k → ∀ x, l[j]? = some x → ¬ x.id = id) ∨ ∃ (i : Nat) (x : Pt), i < k ∧ v = .int .i64 i ∧ l[i]? = some x ∧ x.id = id
theorem AtI.hit {l : List Pt} {id : Int} {k : Nat} {x : Pt} (hx : l[k]? = some x) (hi : x.id = id) : AtI l id (k + 1) (.int .i64 k) := .inr ⟨k, x, by omega, rfl, hx, hi⟩
theorem AtI.miss {l : List Pt} {id : Int} {k : Nat} {v : Value} {x : Pt} (h : AtI l id k v) (hx : l[k]? = some x) (hi : ¬ x.id = id) : AtI l id (k + 1) v := by
  rcases h with ⟨rfl, h⟩ | ⟨i, y, h1, rfl, h2, h3⟩
  · refine .inl ⟨rfl, fun j hj y hy => ?_⟩
    by_cases hjk : j = k
    · subst hjk
      have := hx.symm.trans hy
      injection this with this
      subst this
      exact hi
    · exact h j (by omega) y hy
  · exact .inr ⟨i, y, by omega, rfl, h2, h3⟩
theorem AtI.done {l : List Pt} {id : Int} {v : Value} (h : AtI l id l.length v) (hu : l.Pairwise (fun a b => a.id < b.id)) :
    (v = .int .i64 (-1) ∧ l.findIdx? (fun x => decide (x.id = id)) = none) ∨ ∃ i : Nat, i < l.length ∧ v = .int .i64 i ∧ l.findIdx? (fun x => decide (x.id = id)) = some i := by
  rcases h with ⟨rfl, h⟩ | ⟨i, y, h1, rfl, h2, h3⟩
  · refine .inl ⟨rfl, ?_⟩
    rw [List.findIdx?_eq_none_iff]
    intro x hx
    obtain ⟨j, hj, rfl⟩ := List.getElem_of_mem hx
    exact decide_eq_false (h j hj _ (List.getElem?_eq_getElem hj))
  · refine .inr ⟨i, h1, rfl, ?_⟩
    rw [List.findIdx?_eq_some_iff_getElem]
    have e := (List.getElem?_eq_some_iff.1 h2).2
    refine ⟨h1, by rw [e]; exact decide_eq_true h3, fun j hj => ?_⟩
    have := (List.pairwise_iff_getElem.1 hu) j i (by omega) h1 hj
    rw [e] at this
    simp; omega
theorem rs_new (A : Option Addr) (n c : Nat) (nx : Int) (r : Rc) (w : World) : RsW w A n c nx r (((w.alloc (.cells #[.slice A n c, .int .i64 nx] 63)).alloc (.cells (rcL r).toArray 47)).alloc (.cells #[.slice none 0 0, .int .i64 0] 63)) := by
  refine ⟨below_alloc (below_alloc (below_alloc (Below.refl _ _) _) _) _, by simp, ?_, ?_, ?_, ?_, ?_, ?_, ?_, ?_⟩ <;> first | (go_simp; done) | (simp; done) | (simp [go_sem, *]; done)
/-- What the answer's step hands back. -/
def StepRet (w : World) (A : Option Addr) (c : Nat) (s : St) (r : Rc) (e : Ending) (w' : World) : Prop :=
  ∃ (A9 : Option Addr) (c9 : Nat), e = .returned (.tuple #[.agg #[.slice A9 (stepP s r).1.parts.length c9, .int .i64 (stepP s r).1.next], .bool (stepP s r).2]) ∧ Kd.C kPt w' A9 (stepP s r).1.parts.length (stepP s r).1.parts ∧ (stepP s r).1.parts.length ≤ c9 ∧ Below w.heap.size w w' ∧ ((A9 = A ∧ c9 = c ∧ (stepP s r).1.parts = s.parts) ∨ Kd.R kPt 78 w' w.heap.size (fun _ => True) (.slice A9 (stepP s r).1.parts.length c9) (stepP s r).1.parts)
/-- A state handed back as it came, or with another number. -/
theorem ret_as {w W : World} {A : Option Addr} {l : List Pt} {c : Nat} {nx nz : Int} {r : Rc} {b : Bool} {o1 o2 : Value} (h : RsW w A l.length c nx r W) (hC : Kd.C kPt w A l.length l) (hc : l.length ≤ c) (hP : stepP ⟨l, nx⟩ r = (⟨l, nz⟩, b)) :
    StepRet w A c ⟨l, nx⟩ r (.returned (.tuple #[.agg #[.slice A l.length c, .int .i64 nz], .bool b])) ((W.setCell ⟨w.heap.size + 1 + 1, 0, none⟩ o1).setCell ⟨w.heap.size + 1 + 1, 1, none⟩ o2) := by
  have hb := below_setCell (below_setCell h.b (g := w.heap.size + 1 + 1) (o := 0) (by omega) o1) (g := w.heap.size + 1 + 1) (o := 1) (by omega) o2
  unfold StepRet
  rw [hP]
  exact ⟨A, c, rfl, Kd.C_below hC hb, hc, hb, .inl ⟨rfl, rfl, rfl⟩⟩
/-- What a region that builds a part reads. -/
theorem RsW.five {w : World} {A : Option Addr} {n c : Nat} {nx : Int} {r : Rc} {W W' : World} (h : RsW w A n c nx r W) (hb : Below (w.heap.size + 1 + 1) W W') :
    W'.cell? ⟨w.heap.size, 0, none⟩ = some (.slice A n c) ∧ W'.cell? ⟨w.heap.size + 1, 1, none⟩ = some (.int .i64 r.id) ∧ W'.cell? ⟨w.heap.size + 1, 2, none⟩ = some (.string r.path) ∧ W'.cell? ⟨w.heap.size + 1, 35, none⟩ = some (.int .i64 r.size) ∧ W'.rangeAt (w.heap.size + 1) 3 (hsL r.sum) := by
  obtain ⟨k0, k1, k2, k35, k36⟩ := h.cells
  exact ⟨(hb.cell (p := ⟨w.heap.size, 0, none⟩) (by simp; omega)).trans h.s0, (hb.cell (p := ⟨w.heap.size + 1, 1, none⟩) (by simp)).trans k1, (hb.cell (p := ⟨w.heap.size + 1, 2, none⟩) (by simp)).trans k2, (hb.cell (p := ⟨w.heap.size + 1, 35, none⟩) (by simp)).trans k35, fun j v hv => (hb.cell (p := ⟨w.heap.size + 1, 3 + j, none⟩) (by simp)).trans (by have h_ := (rowAt_some h.rs).2 j v hv; rw [Addr.add_mid] at h_; exact h_)⟩
theorem ret_as2 {w W : World} {A : Option Addr} {l : List Pt} {c : Nat} {nx nz : Int} {r : Rc} {b : Bool} {o1 o2 : Value} {o : Obj} (h : RsW w A l.length c nx r W) (hC : Kd.C kPt w A l.length l) (hc : l.length ≤ c) (hP : stepP ⟨l, nx⟩ r = (⟨l, nz⟩, b)) :
    StepRet w A c ⟨l, nx⟩ r (.returned (.tuple #[.agg #[.slice A l.length c, .int .i64 nz], .bool b])) (((W.setCell ⟨w.heap.size + 1 + 1, 0, none⟩ o1).setCell ⟨w.heap.size + 1 + 1, 1, none⟩ o2).alloc o) := by
  have hz := h.z
  have hb := Below.alloc (below_setCell (below_setCell h.b (g := w.heap.size + 1 + 1) (o := 0) (by omega) o1) (g := w.heap.size + 1 + 1) (o := 1) (by omega) o2) (by simp [World.setCell]; omega) o
  unfold StepRet
  rw [hP]
  exact ⟨A, c, rfl, Kd.C_below hC hb, hc, hb, .inl ⟨rfl, rfl, rfl⟩⟩
/-- One part laid as a row. -/
theorem C_one {W : World} {g : Nat} {p : Pt} (h : rowAt W ⟨g, 0, none⟩ 36 = some (ptL p)) : Kd.C kPt W (some ⟨g, 0, none⟩) 1 [p] := by
  refine ⟨rfl, by decide, fun _ => ⟨_, rfl, fun j x hx => ⟨ptL x, ptL_len x, rfl, fun i u hu => ?_⟩⟩⟩
  match j, hx with
  | 0, hx =>
    obtain rfl : p = x := by simpa using hx
    have hz : kPt.sz = 36 := rfl
    rw [hz, Nat.zero_mul, Nat.zero_add]
    exact (rowAt_some h).2 i u hu
theorem row_grown {W w1 : World} {row : Option Nat} {g o n : Nat} (hg : W.grownBy w1 row) (hne : row ≠ some g) (hl : g < W.heap.size) : rowAt w1 ⟨g, o, none⟩ n = rowAt W ⟨g, o, none⟩ n := by
  refine rowAt_congr fun j _ => ?_
  rw [Addr.add_mid]
  exact World.cell?_of_block (hg.block g hl (fun e => hne e.symm))
theorem row_lit (W : World) (p : Pt) (t : TypeId) : rowAt (W.alloc (.cells (ptL p).toArray t)) ⟨W.heap.size, 0, none⟩ 36 = some (ptL p) := by
  rw [rowAt_alloc _ _ _ _ _ _ _ (by decide), if_pos rfl, cut_pt]
theorem lit_grown {W w5 : World} {p : Pt} {t : TypeId} (hg : (W.alloc (.cells (ptL p).toArray t)).grownBy w5 (Value.slice none 0 0).ownBlock) : rowAt w5 ⟨W.heap.size, 0, none⟩ 36 = some (ptL p) :=
  (row_grown hg (by intro h; cases h) (by simp)).trans (row_lit W p t)
theorem RsW.two {w : World} {A : Option Addr} {n c : Nat} {nx : Int} {r : Rc} {W W' : World} (h : RsW w A n c nx r W) (hb : Below (w.heap.size + 1 + 1) W W') :
    W'.cell? ⟨w.heap.size, 0, none⟩ = some (.slice A n c) ∧ W'.cell? ⟨w.heap.size, 1, none⟩ = some (.int .i64 nx) :=
  ⟨(hb.cell (p := ⟨w.heap.size, 0, none⟩) (by simp; omega)).trans h.s0, (hb.cell (p := ⟨w.heap.size, 1, none⟩) (by simp; omega)).trans h.s1⟩
theorem R_blockR {e : Nat} {W : World} {B g n c : Nat} {ok : Nat → Prop} {l : List Pt} (h : Kd.R kPt e W B ok (.slice (some ⟨g, 0, none⟩) n c) l) : ∃ cur : List Value, W.heap[g]? = some (.cells cur.toArray e (0, 0)) := by
  obtain ⟨h0, inner, h1, h2⟩ := h
  rcases h1.2 with ⟨hv, _⟩ | ⟨g', cap', cur', hv, hb, hh, hnc, hcm, hcs, ht⟩
  · cases hv
  injection hv with ha hn hc
  injection ha with ha
  injection ha with ha
  subst ha hc
  exact ⟨cur'.toList, by simpa using hh⟩
theorem part_frozenR {e : Nat} {W : World} {B c g n : Nat} {ok : Nat → Prop} {l : List Pt} (h : Kd.R kPt e W B ok (.slice (some ⟨g, 0, none⟩) n c) l) (j : Nat) : W.frozen? ⟨g, j, none⟩ = false := by
  obtain ⟨cur, hc⟩ := R_blockR h
  exact blk_frozen hc _
theorem off_cell {e : Nat} {W : World} {B c g n i : Nat} {ok : Nat → Prop} {l : List Pt} {p : Pt} (h : Kd.R kPt e W B ok (.slice (some ⟨g, 0, none⟩) n c) l) (hx : l[i]? = some p) : W.cell? ⟨g, i * 36 + 35, none⟩ = some (.int .i64 p.off) := by
  have hi := List.getElem?_eq_some_iff.1 hx
  obtain rfl := (Kd.R_reads' h).1
  obtain ⟨b, o, hA, _, hr⟩ := flat_at (Kd.R_reads' h).2.2 (by decide) (Nat.lt_of_le_of_lt (Nat.zero_le _) hi.1)
  injection hA with hA
  injection hA with hb ho
  subst hb ho
  have h2 := (hr i hi.1).2 35 _ (by rw [hi.2]; exact get_pt_off p)
  rwa [Nat.zero_add] at h2
theorem infoPtR_size : ∃ i, Tryd.prog.info? 78 = some i ∧ i.size = 36 := by
  have h := infoPtR
  obtain ⟨i, hi, he⟩ := Option.map_eq_some_iff.1 h
  simp only [Prod.mk.injEq] at he
  exact ⟨i, hi, he.2.1⟩
/-- A list of parts, cut in front of place i, and behind it. -/
theorem cut_hi (A : Option Addr) (c n i : Nat) (hi : i ≤ n) (hc : n ≤ c) (W : World) : (Instr.slice 61 (.slice A n c) none (some (.int .i64 (i : Int))) none).run Tryd.prog W = .ok (.slice A i c) W := by
  obtain ⟨I, hI, hs⟩ := infoPtR_size
  have hel : Tryd.prog.elem 61 = 78 := by simp [Program.elem, Tryd.underlying61]
  have hu : Tryd.prog.underlying 61 = some (.slice (Tryd.prog.elem 61)) := by rw [hel]; exact Tryd.underlying61
  have ha : (A.map fun x => x.add 0) = A := by cases A <;> simp [Addr.add]
  rw [run_slice_h W _ A n c hu .i64 (i : Int) (by omega) (by omega), hel]
  simp [sizeOf, typeInfo, hI, hs, sliced, Result.andThen, ha]
theorem cut_lo (A : Option Addr) (c n m : Nat) (hm : m ≤ n) (hc : n ≤ c) : ∃ A' : Option Addr, (∀ W : World, (Instr.slice 61 (.slice A n c) (some (.int .i64 (m : Int))) none none).run Tryd.prog W = .ok (.slice A' (n - m) (c - m)) W) ∧ ∀ (W : World) (l : List Pt), Kd.C kPt W A n l → Kd.C kPt W A' (n - m) (l.drop m) := by
  obtain ⟨I, hI, hs⟩ := infoPtR_size
  have hel : Tryd.prog.elem 61 = 78 := by simp [Program.elem, Tryd.underlying61]
  have hu : Tryd.prog.underlying 61 = some (.slice (Tryd.prog.elem 61)) := by rw [hel]; exact Tryd.underlying61
  refine ⟨if c = m then A else A.map (·.add (m * 36)), fun W => ?_, fun W l h => ?_⟩
  · rw [run_slice_l W _ A n c hu .i64 (m : Int) (by omega) (by omega), hel]
    by_cases hcm : c = m
    · subst hcm
      have ha : (A.map fun x => x.add 0) = A := by cases A <;> simp [Addr.add]
      simp [sizeOf, typeInfo, hI, hs, sliced, Result.andThen, ha]
    · simp [sizeOf, typeInfo, hI, hs, sliced, Result.andThen, hcm]
      try omega
  · refine ⟨by rw [List.length_drop, h.1], by have := h.2.1; omega, fun h0 => ?_⟩
    obtain ⟨ad, rfl, hr⟩ := h.2.2 (by omega)
    rw [if_neg (by omega)]
    refine ⟨ad.add (m * 36), rfl, fun j x hx => ?_⟩
    rw [List.getElem?_drop] at hx
    obtain ⟨cs, h1, h2, h3⟩ := hr _ x hx
    refine ⟨cs, h1, h2, fun q u hq => ?_⟩
    have hz : kPt.sz = 36 := rfl
    rw [adds, hz, show m * 36 + (j * 36 + q) = (m + j) * 36 + q by omega]
    exact h3 q u hq
theorem C_take {W : World} {A : Option Addr} {n i : Nat} {l : List Pt} (h : Kd.C kPt W A n l) (hi : i ≤ n) : Kd.C kPt W A i (l.take i) := by
  refine ⟨by rw [List.length_take, h.1]; omega, by have := h.2.1; omega, fun h0 => ?_⟩
  obtain ⟨ad, rfl, hr⟩ := h.2.2 (by omega)
  refine ⟨ad, rfl, fun j x hx => ?_⟩
  rw [List.getElem?_take] at hx
  split at hx
  · exact hr j x hx
  · cases hx
/-- A state of a row of the call's own is handed back. -/
theorem ret_row {w W w6 : World} {A A6 : Option Addr} {l ys : List Pt} {n c c6 n6 : Nat} {nx nz : Int} {r : Rc} {b : Bool} {o1 o2 : Value} (h : RsW w A n c nx r W) (hb : Below (w.heap.size + 1 + 1 + 1) W w6) (hn : n6 = ys.length) (ho : Kd.R kPt 78 w6 (w.heap.size + 1 + 1 + 1) (fun _ => True) (.slice A6 n6 c6) ys) (hP : stepP ⟨l, nx⟩ r = (⟨ys, nz⟩, b)) :
    StepRet w A c ⟨l, nx⟩ r (.returned (.tuple #[.agg #[.slice A6 n6 c6, .int .i64 nz], .bool b])) ((w6.setCell ⟨w.heap.size + 1 + 1, 0, none⟩ o1).setCell ⟨w.heap.size + 1 + 1, 1, none⟩ o2) := by
  subst hn
  have hz := h.z
  unfold StepRet
  rw [hP]
  exact ⟨A6, c6, rfl, (Kd.R_reads' (flat_put (flat_put ho (by omega)) (by omega))).2.2, (Kd.R_reads' ho).2.1, below_setCell (below_setCell (Below.trans h.b (hb.mono (by omega))) (by omega) _) (by omega) _, .inr (Kd.R_lower (flat_put (flat_put ho (by omega)) (by omega)) (by omega))⟩
/-- Rows that lie from block B on stay where a cell of an elder block is set. -/
theorem R_hi {e : Nat} {W : World} {B n c : Nat} {ok : Nat → Prop} {A : Option Addr} {l : List Pt} (h : Kd.R kPt e W B ok (.slice A n c) l) : ∀ ad, A = some ad → B ≤ ad.block := fun ad e => by subst e; exact Kd.R_base h _ rfl
theorem C_put {W : World} {A : Option Addr} {n B g o : Nat} {u : Value} {l : List Pt} (h : Kd.C kPt W A n l) (hB : ∀ ad, A = some ad → B ≤ ad.block) (hg : g < B) : Kd.C kPt (W.setCell ⟨g, o, none⟩ u) A n l := by
  refine ⟨h.1, h.2.1, fun h0 => ?_⟩
  obtain ⟨ad, rfl, hr⟩ := h.2.2 h0
  refine ⟨ad, rfl, fun j x hx => ?_⟩
  obtain ⟨cs, h1, h2, h3⟩ := hr j x hx
  refine ⟨cs, h1, h2, fun q v hq => ?_⟩
  have hb := hB ad rfl
  exact (World.cell?_of_block (by rw [add_block]; exact Below.heap_setCell _ _ _ _ (by show ad.block ≠ g; omega))).trans (h3 q v hq)
end Go.Proofs.YtiohgpcbdefokaaDoor.B
/- The document's answer for a record's step: its walk. No condition. -/
namespace Go.Proofs.YtiohgpcbdefokaaDoor.B
open Go.RowKit Go.Proofs.YtiohgpcbdefokaaDoorW.PrintWords Go.Proofs.YtiohgpcbdefokaaDoor.RowLaws
attribute [local go_sem ↓ high] lvO_hs ldO_hs stO_hs lvO_pt ldO_pt stO_pt zero_pt eqA_pt lvO_ptR ldO_ptR stO_ptR zero_ptR eqA_ptR lvO_rc ldO_rc stO_rc zero_rc eqA_rc lvO_rcR ldO_rcR stO_rcR zero_rcR eqA_rcR lvO_tk ldO_tk stO_tk zero_tk eqA_tk lvO_tkR ldO_tkR stO_tkR zero_tkR eqA_tkR lvO_it ldO_it stO_it zero_it eqA_it blO_pt blO_ptR blO_rc blO_rcR blO_tk blO_tkR blO_it bsO_pt bsO_ptR bsO_rc bsO_rcR bsO_it
attribute [local go_sem high] rowAt_setCell rowAt_setRow cell_setRow_ne isRow_setRow_ne rowAt_alloc rowAt_drew isRow_alloc isRow_drew isRow_setCell rowRun_some okL_hs ldV_hs ldA_hs stA_hs setRow_alloc get_pt_id get_pt_path cut_pt_sum get_pt_size get_pt_off cut_pt okL_pt size_pt lenb_pt eta_pt ldV_pt ldA_pt stA_pt ldV_ptR ldA_ptR stA_ptR get_rc_kind get_rc_id get_rc_path cut_rc_sum get_rc_size get_rc_off cut_rc okL_rc size_rc lenb_rc eta_rc ldV_rc ldA_rc stA_rc ldV_rcR ldA_rcR stA_rcR get_tk_path cut_tk_sum get_tk_size get_tk_off cut_tk_old cut_tk okL_tk size_tk lenb_tk eta_tk ldV_tk ldA_tk stA_tk ldV_tkR ldA_tkR stA_tkR get_it_path get_it_dir get_it_size cut_it_sum cut_it okL_it size_it lenb_it eta_it ldV_it ldA_it stA_it bld_pt_01234 bld_pt_0123 bld_pt_z bld_ptR_01234 bld_ptR_0123 bld_ptR_z bld_rc_012345 bld_rc_015 bld_rc_01 bld_rc_z bld_rc_01234 bld_rc_24 bld_rc_05 bld_rc_0 bld_rcR_012345 bld_rcR_015 bld_rcR_01 bld_rcR_z bld_rcR_01234 bld_rcR_24 bld_rcR_05 bld_rcR_0 bld_tk_01234 bld_tk_0 bld_tk_z bld_tkR_01234 bld_tkR_0 bld_tkR_z bld_it_0123 bld_it_023 bld_it_01 bld_it_0 bld_it_z bs0_pt bs1_pt bs0_ptR bs1_ptR bs0_rc bs1_rc bs0_rcR bs1_rcR bs0_it bs1_it
attribute [local irreducible] wpStill
set_option linter.unusedVariables false in
set_option maxHeartbeats 16000000 in
set_option maxRecDepth 100000 in
theorem StepR_calls (A : Option Addr) (c : Nat) (l : List Pt) (nx : Int) (r : Rc) (w : World) (hC : Kd.C kPt w A l.length l) (hc : l.length ≤ c) (hlen : l.length ≤ 64) (hid : r.id ≤ 2199023255552) (hid0 : -9223372036854775808 ≤ r.id) (hk0 : 0 ≤ r.kind) (hu : l.Pairwise (fun a b => a.id < b.id)) :
    Calls Tryd.prog 28 #[.agg #[.slice A l.length c, .int .i64 nx], .agg (rcL r).toArray] w (StepRet w A c ⟨l, nx⟩ r) := by
  have HC := Aside0.mk hC
  have HU := Aside0.mk hu
  have HCC := Aside0.mk hc
  have hw1 : IntKind.i64.wrap (r.id + 1) = r.id + 1 := IntWalk.i64_in _ (by omega)
  have HNEW := Aside0.mk (rs_new A l.length c nx r w)
  clear hC hu hc
  go_enter Tryd.func28, Tryd.ntmps28
  go_wp2
  go_loopw [7, 8] (fun av iv wr => ∃ k : Nat, k ≤ l.length ∧ iv = .int .i64 k ∧ Aside0 (RsW w A l.length c nx r wr) ∧ Aside0 (AtI l r.id k av)) (fun _ iv _ => l.length - (intOf iv).toNat)
  case atStart => exact ⟨0, Nat.zero_le _, rfl, HNEW, ⟨.inl ⟨rfl, fun j hj => by omega⟩⟩⟩
  case round =>
    obtain ⟨k, hk, rfl, HW, HAT⟩ := hrel
    have s0 := HW.out.s0
    obtain ⟨k0, k1, k2, k35, k36⟩ := HW.out.cells
    by_cases hlt : k < l.length
    · obtain ⟨b, o, hA, hb, hr⟩ := flat_at HC.out (by decide) (by omega)
      subst hA
      obtain ⟨hrow, hcells⟩ := hr k hlt
      have q0 := hcells 0 _ (get_pt_id l[k])
      rw [← HW.out.b.cell (p := ⟨b, o + k * 36 + 0, none⟩) hb, Nat.add_zero] at q0
      have HX := Aside0.mk (show l[k]? = some l[k] from List.getElem?_eq_getElem hlt)
      obtain ⟨x, hx⟩ : ∃ x, x = l[k] := ⟨_, rfl⟩
      rw [← hx] at HX q0
      clear hr hx hcells hrow
      have hlt2 : (k : Int) < (l.length : Int) := by omega
      by_cases hp : x.id = r.id
      · have HAN := Aside0.mk (AtI.hit HX.out hp)
        have hd1 : decide (x.id = r.id) = true := decide_eq_true hp
        have hd2 : (x.id == r.id) = true := by simp [hp]
        clear hp
        go_wp2
        refine still_tail_at 8 (by kernel_rfl) (by kernel_rfl) ?_
        intro W hW
        have hbW : Below (w.heap.size + 1 + 1 + 1) wr W := by rw [hW]; exact below_drew (Below.refl _ _)
        have HWW := Aside0.mk (HW.out.below hbW)
        have e0 : W.cell? ⟨b, o + k * 36, none⟩ = some (.int .i64 x.id) := by rw [hW]; exact q0
        have e1 := HWW.out.s0
        have e2 := HWW.out.cells.2.1
        clear hW hbW q0 s0 k0 k1 k2 k35 k36
        simp only [List.take_succ_cons, List.take_zero, List.drop_succ_cons, List.drop_zero]
        repeat (first | ((with_reducible refine wpStill_plain ?hg (fun K hK => ?_)); (case hg => with_reducible rfl); go_simp; refine still_back hK ?_; clear hK K) | ((with_reducible refine wpStill_skip ?hg (fun K hK => ?_)); (case hg => exact rfl); go_simp; refine still_back hK ?_; clear hK K) | ((with_reducible refine wpStill_held ?hg (fun K hK => ?_)); (case hg => exact rfl); go_simp; refine still_back hK ?_; clear hK K))
        refine wpStill_nil ?_
        go_wp2
        go_roundw
        case rel => exact ⟨k + 1, by omega, by simp, HWW, HAN⟩
        case measure => simp [intOf]; omega
      · have HAN := Aside0.mk (AtI.miss HAT.out HX.out hp)
        have hd1 : decide (x.id = r.id) = false := decide_eq_false hp
        have hd2 : (x.id == r.id) = false := by simp [hp]
        clear hp
        go_wp2
        refine still_tail_at 8 (by kernel_rfl) (by kernel_rfl) ?_
        intro W hW
        have hbW : Below (w.heap.size + 1 + 1 + 1) wr W := by rw [hW]; exact below_drew (Below.refl _ _)
        have HWW := Aside0.mk (HW.out.below hbW)
        have e0 : W.cell? ⟨b, o + k * 36, none⟩ = some (.int .i64 x.id) := by rw [hW]; exact q0
        have e1 := HWW.out.s0
        have e2 := HWW.out.cells.2.1
        clear hW hbW q0 s0 k0 k1 k2 k35 k36
        simp only [List.take_succ_cons, List.take_zero, List.drop_succ_cons, List.drop_zero]
        repeat (first | ((with_reducible refine wpStill_plain ?hg (fun K hK => ?_)); (case hg => with_reducible rfl); go_simp; refine still_back hK ?_; clear hK K) | ((with_reducible refine wpStill_skip ?hg (fun K hK => ?_)); (case hg => exact rfl); go_simp; refine still_back hK ?_; clear hK K) | ((with_reducible refine wpStill_held ?hg (fun K hK => ?_)); (case hg => exact rfl); go_simp; refine still_back hK ?_; clear hK K))
        refine wpStill_nil ?_
        go_wp2
        go_roundw
        case rel => exact ⟨k + 1, by omega, by simp, HWW, HAN⟩
        case measure => simp [intOf]; omega
    · have hk2 : k = l.length := by omega
      subst hk2
      have HAT := Aside0.mk (HAT.out.done HU.out)
      have s1 := HW.out.s1
      have t0 := HW.out.t0
      have t1 := HW.out.t1
      have f0 := HW.out.f0
      have f1 := HW.out.f1
      clear hlt hk
      by_cases h0 : r.kind = 0
      · have hz0 : decide (r.kind = 0) = true := decide_eq_true h0
        have hy0 : (r.kind == 0) = true := by simp [h0]
        obtain ⟨⟨q, is⟩, hq⟩ : ∃ z, findP l r.path = z := ⟨_, rfl⟩
        have HF := Aside0.mk hq
        have H1 := True.intro
        by_cases h1 : r.id < nx
        · have hd : decide (r.id < nx) = true := decide_eq_true h1
          have HP := Aside0.mk (show stepP ⟨l, nx⟩ r = (⟨l, nx⟩, false) by unfold stepP beginP; rw [if_pos h0, hq, if_pos (.inr (.inl h1))])
          clear h0 hq H1
          go_wp2_with (go_at_call 34; refine (FindR_calls A c l nx r.path _ (Kd.C_below HC.out HW.out.b) (Nat.le_trans hlen (by decide))).mono ?_; rw [HF.out]; rintro e w3 ⟨rfl, hb3⟩; have HW3 := Aside0.mk (HW.out.below (hb3.mono HW.out.z)); have s03 := HW3.out.s0; have s13 := HW3.out.s1; have t03 := HW3.out.t0; have t13 := HW3.out.t1; have f03 := HW3.out.f0; have f13 := HW3.out.f1; have rs3 := HW3.out.rs; obtain ⟨k03, k13, k23, k353, k363⟩ := HW3.out.cells; have y0 : w.heap.size < w3.heap.size := (by have := HW3.out.z; omega); have y1 : w.heap.size + 1 < w3.heap.size := (by have := HW3.out.z; omega); have y2 : w.heap.size + 1 + 1 < w3.heap.size := (by have := HW3.out.z; omega); have n0 : ¬ (w.heap.size = w3.heap.size) := (by have := HW3.out.z; omega); have n1 : ¬ (w.heap.size + 1 = w3.heap.size) := (by have := HW3.out.z; omega); have n2 : ¬ (w.heap.size + 1 + 1 = w3.heap.size) := (by have := HW3.out.z; omega); clear hb3)
          refine bodyPost_ret (v := .tuple #[.agg #[.slice A l.length c, .int .i64 nx], .bool false]) (by simp [results, Tryd.results28, go_sem, *]) rfl (ret_as2 HW3.out HC.out HCC.out HP.out)
        have hd : decide (r.id < nx) = false := decide_eq_false h1
        by_cases h2 : 64 ≤ l.length
        · have hd2 : decide ((64 : Int) ≤ (l.length : Int)) = true := decide_eq_true (by omega)
          have HP := Aside0.mk (show stepP ⟨l, nx⟩ r = (⟨l, nx⟩, false) by unfold stepP beginP; rw [if_pos h0, hq, if_pos (.inr (.inr h2))])
          clear h0 hq H1
          go_wp2_with (go_at_call 34; refine (FindR_calls A c l nx r.path _ (Kd.C_below HC.out HW.out.b) (Nat.le_trans hlen (by decide))).mono ?_; rw [HF.out]; rintro e w3 ⟨rfl, hb3⟩; have HW3 := Aside0.mk (HW.out.below (hb3.mono HW.out.z)); have s03 := HW3.out.s0; have s13 := HW3.out.s1; have t03 := HW3.out.t0; have t13 := HW3.out.t1; have f03 := HW3.out.f0; have f13 := HW3.out.f1; have rs3 := HW3.out.rs; obtain ⟨k03, k13, k23, k353, k363⟩ := HW3.out.cells; have y0 : w.heap.size < w3.heap.size := (by have := HW3.out.z; omega); have y1 : w.heap.size + 1 < w3.heap.size := (by have := HW3.out.z; omega); have y2 : w.heap.size + 1 + 1 < w3.heap.size := (by have := HW3.out.z; omega); have n0 : ¬ (w.heap.size = w3.heap.size) := (by have := HW3.out.z; omega); have n1 : ¬ (w.heap.size + 1 = w3.heap.size) := (by have := HW3.out.z; omega); have n2 : ¬ (w.heap.size + 1 + 1 = w3.heap.size) := (by have := HW3.out.z; omega); clear hb3)
          refine bodyPost_ret (v := .tuple #[.agg #[.slice A l.length c, .int .i64 nx], .bool false]) (by simp [results, Tryd.results28, go_sem, *]) rfl (ret_as2 HW3.out HC.out HCC.out HP.out)
        have hd2 : decide ((64 : Int) ≤ (l.length : Int)) = false := decide_eq_false (by omega)
        cases is with
        | true =>
          have HP := Aside0.mk (show stepP ⟨l, nx⟩ r = (⟨l, nx⟩, false) by unfold stepP beginP; rw [if_pos h0, hq, if_pos (.inl rfl)])
          clear h0 hq H1
          go_wp2_with (go_at_call 34; refine (FindR_calls A c l nx r.path _ (Kd.C_below HC.out HW.out.b) (Nat.le_trans hlen (by decide))).mono ?_; rw [HF.out]; rintro e w3 ⟨rfl, hb3⟩; have HW3 := Aside0.mk (HW.out.below (hb3.mono HW.out.z)); have s03 := HW3.out.s0; have s13 := HW3.out.s1; have t03 := HW3.out.t0; have t13 := HW3.out.t1; have f03 := HW3.out.f0; have f13 := HW3.out.f1; have rs3 := HW3.out.rs; obtain ⟨k03, k13, k23, k353, k363⟩ := HW3.out.cells; have y0 : w.heap.size < w3.heap.size := (by have := HW3.out.z; omega); have y1 : w.heap.size + 1 < w3.heap.size := (by have := HW3.out.z; omega); have y2 : w.heap.size + 1 + 1 < w3.heap.size := (by have := HW3.out.z; omega); have n0 : ¬ (w.heap.size = w3.heap.size) := (by have := HW3.out.z; omega); have n1 : ¬ (w.heap.size + 1 = w3.heap.size) := (by have := HW3.out.z; omega); have n2 : ¬ (w.heap.size + 1 + 1 = w3.heap.size) := (by have := HW3.out.z; omega); clear hb3)
          refine bodyPost_ret (v := .tuple #[.agg #[.slice A l.length c, .int .i64 nx], .bool false]) (by simp [results, Tryd.results28, go_sem, *]) rfl (ret_as2 HW3.out HC.out HCC.out HP.out)
        | false =>
          have HP := Aside0.mk (show stepP ⟨l, nx⟩ r = (⟨l ++ [⟨r.id, r.path, r.sum, r.size, 0⟩], r.id + 1⟩, true) by unfold stepP beginP; rw [if_pos h0, hq, if_neg (fun h => h.elim (fun h => by cases h) (fun h => h.elim h1 h2))])
          obtain ⟨p, hp⟩ : ∃ p : Pt, (⟨r.id, r.path, r.sum, r.size, 0⟩ : Pt) = p := ⟨_, rfl⟩
          rw [hp] at HP
          obtain ⟨ys, hys⟩ : ∃ ys, l ++ [p] = ys := ⟨_, rfl⟩
          rw [hys] at HP
          have HPP := Aside0.mk hp
          have HYS := Aside0.mk hys
          clear h0 hq H1 h1 h2 hp hys
          go_upto_region 12 with (go_at_call 34; refine (FindR_calls A c l nx r.path _ (Kd.C_below HC.out HW.out.b) (Nat.le_trans hlen (by decide))).mono ?_; rw [HF.out]; rintro e w3 ⟨rfl, hb3⟩; have HW3 := Aside0.mk (HW.out.below (hb3.mono HW.out.z)); have s03 := HW3.out.s0; have s13 := HW3.out.s1; have t03 := HW3.out.t0; have t13 := HW3.out.t1; have f03 := HW3.out.f0; have f13 := HW3.out.f1; have rs3 := HW3.out.rs; obtain ⟨k03, k13, k23, k353, k363⟩ := HW3.out.cells; have y0 : w.heap.size < w3.heap.size := (by have := HW3.out.z; omega); have y1 : w.heap.size + 1 < w3.heap.size := (by have := HW3.out.z; omega); have y2 : w.heap.size + 1 + 1 < w3.heap.size := (by have := HW3.out.z; omega); have n0 : ¬ (w.heap.size = w3.heap.size) := (by have := HW3.out.z; omega); have n1 : ¬ (w.heap.size + 1 = w3.heap.size) := (by have := HW3.out.z; omega); have n2 : ¬ (w.heap.size + 1 + 1 = w3.heap.size) := (by have := HW3.out.z; omega); clear hb3)
          have HW4 := Aside0.mk (HW3.out.below (Below.alloc (Below.refl _ w3) HW3.out.z (.cells (ptL q).toArray 78)))
          obtain ⟨w4, hw4⟩ : ∃ w4, w4 = w3.alloc (.cells (ptL q).toArray 78) := ⟨_, rfl⟩
          rw [← hw4] at HW4
          rw [← hw4]
          clear hw4 s03 s13 t03 t13 f03 f13 rs3 k03 k13 k23 k353 k363 n0 n1 n2 y0 y1 y2 HW3 s0 s1 t0 t1 f0 f1 k0 k1 k2 k35 k36 HW
          have hz4 := HW4.out.z
          have hu24 := Tryd.underlying24
          have hi24 : (Tryd.prog.info? 24).map (·.size) = some (hsL r.sum).length := by rw [hsL_len]; kernel_rfl
          go_region_held3 (fun w' => w'.cell? ⟨w.heap.size, 0, none⟩ = some (.slice A l.length c) ∧ w'.cell? ⟨w.heap.size + 1, 1, none⟩ = some (.int .i64 r.id) ∧ w'.cell? ⟨w.heap.size + 1, 2, none⟩ = some (.string r.path) ∧ w'.cell? ⟨w.heap.size + 1, 35, none⟩ = some (.int .i64 r.size) ∧ w'.rangeAt (w.heap.size + 1) 3 (hsL r.sum)) (first | (refine RsW.five HW4.out ?_; (repeat' (first | exact HB6.out | exact HB5.out | exact HB6.out.mono (by omega) | exact HB5.out.mono (by omega) | (with_reducible exact Below.refl _ _) | (with_reducible refine below_drew ?_) | (with_reducible refine Below.alloc ?_ ?_ _) | (with_reducible refine below_setCell ?_ ?_ _) | omega | (simp; done) | (simp; omega))); done))
            (first
              | ((with_reducible refine gate_stepb (b := .append) (xs := #[.tmp 54, .tmp 56]) rfl ?_);
                  refine Kd.R_append_rows_step kPt (w0 := w4) (w.heap.size + 1 + 1 + 1) rfl (.tmp 54) (.tmp 56) 61 78 _ 72 rfl Tryd.underlying61 infoPtR zcPt (by decide) (by decide) (.slice none 0 0) [] l A l.length c (fun _ => True) (fun _ => False) rfl rfl (Kd.R_nil _ _ _ _ _) ?aR5 (fun _ _ h => h) (fun _ h => h.elim) (fun _ _ => trivial) ?aB5 ?aS5 ?aL5 ?_;
                  (case aR5 => exact Kd.C_below HC.out (Below.trans HW4.out.b (by (repeat' (first | exact HB6.out | exact HB5.out | exact HB6.out.mono (by omega) | exact HB5.out.mono (by omega) | (with_reducible exact Below.refl _ _) | (with_reducible refine below_drew ?_) | (with_reducible refine Below.alloc ?_ ?_ _) | (with_reducible refine below_setCell ?_ ?_ _) | omega | (simp; done) | (simp; omega))))));
                  (case aB5 => (repeat' (first | exact HB6.out | exact HB5.out | exact HB6.out.mono (by omega) | exact HB5.out.mono (by omega) | (with_reducible exact Below.refl _ _) | (with_reducible refine below_drew ?_) | (with_reducible refine Below.alloc ?_ ?_ _) | (with_reducible refine below_setCell ?_ ?_ _) | omega | (simp; done) | (simp; omega))));
                  (case aS5 => first | omega | (simp; omega));
                  (case aL5 => simp; omega);
                  intro v5 w5 ho5 hb5 hg5 hat5;
                  rw [List.nil_append] at ho5;
                  obtain ⟨A5, c5, rfl⟩ := Kd.R_slice ho5;
                  (first | (have hlt_ := lit_grown (W := w4.drew) hg5; rw [HPP.out] at hlt_; have HLIT := Aside0.mk (show rowAt w5 ⟨w4.heap.size, 0, none⟩ 36 = some (ptL p) from hlt_); clear hlt_) | skip);
                  have HO5 := Aside0.mk ho5;
                  have HB5 := Aside0.mk hb5;
                  have hs5 := hb5.size;
                  clear ho5 hb5 hg5 hat5)
              | ((with_reducible refine gate_stepb (b := .append) (xs := #[.tmp 57, .tmp 67]) rfl ?_);
                  (first
                    | (have hl_ := C_one HLIT.out; refine Kd.R_append_rows_step kPt (w0 := w4) (w.heap.size + 1 + 1 + 1) rfl (.tmp 57) (.tmp 67) 61 78 _ 72 rfl Tryd.underlying61 infoPtR zcPt (by decide) (by decide) (.slice A5 l.length c5) l [p] (some ⟨w4.heap.size, 0, none⟩) 1 1 (fun _ => True) (fun _ => False) rfl rfl HO5.out hl_ (fun _ _ h => h) (fun _ h => h.elim) (fun _ _ => trivial) HB5.out (by omega) (by omega) ?_)
                    | (refine Kd.R_append_rows_step kPt (w0 := w4) (w.heap.size + 1 + 1 + 1) rfl (.tmp 57) (.tmp 67) 61 78 _ 72 rfl Tryd.underlying61 infoPtR zcPt (by decide) (by decide) (.slice A5 l.length c5) l [p] (some ⟨w5.heap.size, 0, none⟩) 1 1 (fun _ => True) (fun _ => False) rfl rfl (Kd.R_alloc HO5.out _) (C_one (by rw [← HPP.out]; exact row_lit w5 _ _)) (fun _ _ h => h) (fun _ h => h.elim) (fun _ _ => trivial) (Below.alloc HB5.out (by omega) _) (by simp; omega) (by omega) ?_));
                  (try clear hl_);
                  intro v6 w6 ho6 hb6 hg6 hat6;
                  rw [HYS.out] at ho6;
                  obtain ⟨A6, c6, rfl⟩ := Kd.R_slice ho6;
                  have HW6 := Aside0.mk (HW4.out.below hb6);
                  have t06 := HW6.out.t0; have t16 := HW6.out.t1; have f06 := HW6.out.f0; have f16 := HW6.out.f1;
                  have HO6 := Aside0.mk ho6;
                  have HB6 := Aside0.mk hb6;
                  clear ho6 hb6 hg6 hat6))
          all_goals
            go_wp2
            refine bodyPost_ret (v := .tuple #[.agg #[.slice A6 ys.length c6, .int .i64 (r.id + 1)], .bool true]) (by simp [results, Tryd.results28, go_sem, *]) rfl (ret_row HW4.out HB6.out (Eq.refl ys.length) HO6.out HP.out)
      have hz0 : decide (r.kind = 0) = false := decide_eq_false h0
      have hy0 : (r.kind == 0) = false := by simp [h0]
      by_cases h4 : r.kind = 4
      · have hz4 : decide (r.kind = 4) = true := decide_eq_true h4
        have hy4 : (r.kind == 4) = true := by simp [h4]
        by_cases h1 : r.id < nx
        · have HP := Aside0.mk (show stepP ⟨l, nx⟩ r = (⟨l, nx⟩, false) by simp [stepP, h4, h1])
          have hd : decide (r.id < nx) = true := decide_eq_true h1
          clear h0 h4 h1
          go_wp2
          refine bodyPost_ret (v := .tuple #[.agg #[.slice A l.length c, .int .i64 nx], .bool false]) (by simp [results, Tryd.results28, go_sem, *]) rfl (ret_as HW.out HC.out HCC.out HP.out)
        · have HP := Aside0.mk (show stepP ⟨l, nx⟩ r = (⟨l, r.id + 1⟩, true) by simp [stepP, h4, h1])
          have hd : decide (r.id < nx) = false := decide_eq_false h1
          clear h0 h4 h1
          go_wp2
          refine bodyPost_ret (v := .tuple #[.agg #[.slice A l.length c, .int .i64 (r.id + 1)], .bool true]) (by simp [results, Tryd.results28, go_sem, *]) rfl (ret_as HW.out HC.out HCC.out HP.out)
      have hz4 : decide (r.kind = 4) = false := decide_eq_false h4
      have hy4 : (r.kind == 4) = false := by simp [h4]
      rcases HAT.out with ⟨rfl, hn⟩ | ⟨i, hi, rfl, hn⟩
      · have HP := Aside0.mk (show stepP ⟨l, nx⟩ r = (⟨l, nx⟩, false) by simp [stepP, h0, h4, hn])
        clear h0 h4 hn HAT
        go_wp2
        refine bodyPost_ret (v := .tuple #[.agg #[.slice A l.length c, .int .i64 nx], .bool false]) (by simp [results, Tryd.results28, go_sem, *]) rfl (ret_as HW.out HC.out HCC.out HP.out)
      by_cases h5 : 4 < r.kind
      · have HP := Aside0.mk (show stepP ⟨l, nx⟩ r = (⟨l, nx⟩, false) by unfold stepP; rw [if_neg h0, if_neg h4, if_neg (by omega), if_neg (by omega)])
        have hd1 : decide ((i : Int) < 0) = false := by simp
        have hd2 : decide (4 < r.kind) = true := decide_eq_true h5
        clear h0 h4 hn HAT h5
        go_wp2
        refine bodyPost_ret (v := .tuple #[.agg #[.slice A l.length c, .int .i64 nx], .bool false]) (by simp [results, Tryd.results28, go_sem, *]) rfl (ret_as HW.out HC.out HCC.out HP.out)
      have hd0 : decide ((i : Int) < 0) = false := by simp
      have hd5 : decide (4 < r.kind) = false := decide_eq_false h5
      have hi2 : (i : Int) < (l.length : Int) := by omega
      by_cases h1 : r.kind = 1
      · have hz1 : decide (r.kind = 1) = true := decide_eq_true h1
        have hy1 : (r.kind == 1) = true := by simp [h1]
        obtain ⟨b, o, hA, hb, hr⟩ := flat_at HC.out (by decide) (by omega)
        subst hA
        have hcells := (hr i hi).2
        have q34 := hcells 34 _ (get_pt_size l[i])
        have q35 := hcells 35 _ (get_pt_off l[i])
        rw [← HW.out.b.cell (p := ⟨b, o + i * 36 + 34, none⟩) hb] at q34
        rw [← HW.out.b.cell (p := ⟨b, o + i * 36 + 35, none⟩) hb] at q35
        have HX := Aside0.mk (show l[i]? = some l[i] from List.getElem?_eq_getElem hi)
        obtain ⟨p, hp⟩ : ∃ p, p = l[i] := ⟨_, rfl⟩
        rw [← hp] at HX q34 q35
        clear hr hcells hp
        by_cases m1 : r.off < p.off
        · have HP := Aside0.mk (show stepP ⟨l, nx⟩ r = (⟨l, nx⟩, false) by unfold stepP; rw [if_neg h0, if_neg h4, if_pos h1]; simp only [hn, HX.out]; rw [if_pos (.inl m1)])
          have hb1 : decide (r.off < p.off) = true := decide_eq_true m1
          clear h0 h4 hn HAT h5 h1 m1
          go_wp2
          refine still_tail_at 19 (by kernel_rfl) (by kernel_rfl) ?_
          intro W hW
          have hbW : Below (w.heap.size + 1 + 1 + 1) wr W := by rw [hW]; exact below_drew (Below.refl _ _)
          have HWW := Aside0.mk (HW.out.below hbW)
          have e34 : W.cell? ⟨b, o + i * 36 + 34, none⟩ = some (.int .i64 p.size) := by rw [hW]; exact q34
          have e35 : W.cell? ⟨b, o + i * 36 + 35, none⟩ = some (.int .i64 p.off) := by rw [hW]; exact q35
          clear hW hbW q34 q35 s0 s1 t0 t1 f0 f1 k0 k1 k2 k35 k36 HW
          have s0 := HWW.out.s0
          have s1 := HWW.out.s1
          have t0 := HWW.out.t0
          have t1 := HWW.out.t1
          have f0 := HWW.out.f0
          have f1 := HWW.out.f1
          obtain ⟨k0, k1, k2, k35, k36⟩ := HWW.out.cells
          simp only [List.take_succ_cons, List.take_zero, List.drop_succ_cons, List.drop_zero]
          repeat (first | ((with_reducible refine wpStill_plain ?hg (fun K hK => ?_)); (case hg => with_reducible rfl); go_simp; refine still_back hK ?_; clear hK K) | ((with_reducible refine wpStill_skip ?hg (fun K hK => ?_)); (case hg => exact rfl); go_simp; refine still_back hK ?_; clear hK K) | ((with_reducible refine wpStill_held ?hg (fun K hK => ?_)); (case hg => exact rfl); go_simp; refine still_back hK ?_; clear hK K))
          refine wpStill_nil ?_
          go_wp2
          refine bodyPost_ret (v := .tuple #[.agg #[.slice (some ⟨b, o, none⟩) l.length c, .int .i64 nx], .bool false]) (by simp [results, Tryd.results28, go_sem, *]) rfl (ret_as HWW.out HC.out HCC.out HP.out)
        have hb1 : decide (r.off < p.off) = false := decide_eq_false m1
        by_cases m2 : p.size < r.off
        · have HP := Aside0.mk (show stepP ⟨l, nx⟩ r = (⟨l, nx⟩, false) by unfold stepP; rw [if_neg h0, if_neg h4, if_pos h1]; simp only [hn, HX.out]; rw [if_pos (.inr m2)])
          have hb2 : decide (p.size < r.off) = true := decide_eq_true m2
          clear h0 h4 hn HAT h5 h1 m1 m2
          go_wp2
          refine still_tail_at 19 (by kernel_rfl) (by kernel_rfl) ?_
          intro W hW
          have hbW : Below (w.heap.size + 1 + 1 + 1) wr W := by rw [hW]; exact below_drew (Below.refl _ _)
          have HWW := Aside0.mk (HW.out.below hbW)
          have e34 : W.cell? ⟨b, o + i * 36 + 34, none⟩ = some (.int .i64 p.size) := by rw [hW]; exact q34
          have e35 : W.cell? ⟨b, o + i * 36 + 35, none⟩ = some (.int .i64 p.off) := by rw [hW]; exact q35
          clear hW hbW q34 q35 s0 s1 t0 t1 f0 f1 k0 k1 k2 k35 k36 HW
          have s0 := HWW.out.s0
          have s1 := HWW.out.s1
          have t0 := HWW.out.t0
          have t1 := HWW.out.t1
          have f0 := HWW.out.f0
          have f1 := HWW.out.f1
          obtain ⟨k0, k1, k2, k35, k36⟩ := HWW.out.cells
          simp only [List.take_succ_cons, List.take_zero, List.drop_succ_cons, List.drop_zero]
          repeat (first | ((with_reducible refine wpStill_plain ?hg (fun K hK => ?_)); (case hg => with_reducible rfl); go_simp; refine still_back hK ?_; clear hK K) | ((with_reducible refine wpStill_skip ?hg (fun K hK => ?_)); (case hg => exact rfl); go_simp; refine still_back hK ?_; clear hK K) | ((with_reducible refine wpStill_held ?hg (fun K hK => ?_)); (case hg => exact rfl); go_simp; refine still_back hK ?_; clear hK K))
          refine wpStill_nil ?_
          go_wp2
          refine bodyPost_ret (v := .tuple #[.agg #[.slice (some ⟨b, o, none⟩) l.length c, .int .i64 nx], .bool false]) (by simp [results, Tryd.results28, go_sem, *]) rfl (ret_as HWW.out HC.out HCC.out HP.out)
        · have HP := Aside0.mk (show stepP ⟨l, nx⟩ r = (⟨l.set i { p with off := r.off }, nx⟩, true) by unfold stepP; rw [if_neg h0, if_neg h4, if_pos h1]; simp only [hn, HX.out]; rw [if_neg (fun h => h.elim m1 m2)])
          have hb2 : decide (p.size < r.off) = false := decide_eq_false m2
          clear h0 h4 hn HAT h5 h1 m1 m2
          go_wp2
          refine still_tail_at 19 (by kernel_rfl) (by kernel_rfl) ?_
          intro W hW
          have hbW : Below (w.heap.size + 1 + 1 + 1) wr W := by rw [hW]; exact below_drew (Below.refl _ _)
          have HWW := Aside0.mk (HW.out.below hbW)
          have e34 : W.cell? ⟨b, o + i * 36 + 34, none⟩ = some (.int .i64 p.size) := by rw [hW]; exact q34
          have e35 : W.cell? ⟨b, o + i * 36 + 35, none⟩ = some (.int .i64 p.off) := by rw [hW]; exact q35
          clear hW hbW q34 q35 s0 s1 t0 t1 f0 f1 k0 k1 k2 k35 k36 HW
          have s0 := HWW.out.s0
          have s1 := HWW.out.s1
          have t0 := HWW.out.t0
          have t1 := HWW.out.t1
          have f0 := HWW.out.f0
          have f1 := HWW.out.f1
          obtain ⟨k0, k1, k2, k35, k36⟩ := HWW.out.cells
          simp only [List.take_succ_cons, List.take_zero, List.drop_succ_cons, List.drop_zero]
          repeat (first | ((with_reducible refine wpStill_plain ?hg (fun K hK => ?_)); (case hg => with_reducible rfl); go_simp; refine still_back hK ?_; clear hK K) | ((with_reducible refine wpStill_skip ?hg (fun K hK => ?_)); (case hg => exact rfl); go_simp; refine still_back hK ?_; clear hK K) | ((with_reducible refine wpStill_held ?hg (fun K hK => ?_)); (case hg => exact rfl); go_simp; refine still_back hK ?_; clear hK K))
          refine wpStill_nil ?_
          go_wp2_with ((with_reducible refine gate_builtin (b := .append) (xs := #[.tmp 123, .tmp 125]) rfl ?_); at_builtin; refine Kd.R_append_rows kPt (w0 := W) (w.heap.size + 1 + 1 + 1) rfl (.tmp 123) (.tmp 125) 61 78 _ 72 rfl Tryd.underlying61 infoPtR zcPt (by decide) (by decide) (.slice none 0 0) [] l (some ⟨b, o, none⟩) l.length c (fun _ => True) (fun _ => False) rfl rfl (Kd.R_nil _ _ _ _ _) ?aR7 (fun _ _ h => h) (fun _ h => h.elim) (fun _ _ => trivial) ?aB7 ?aS7 ?aL7 ?_; (case aR7 => exact Kd.C_below HC.out HWW.out.b); (case aB7 => exact Below.refl _ _); (case aS7 => exact HWW.out.z); (case aL7 => simp; omega); intro v5 w5 ho5 hb5 hg5 hat5; rw [List.nil_append] at ho5; obtain ⟨A5, c5, rfl⟩ := Kd.R_slice ho5; obtain ⟨g, rfl, hg1, hg2⟩ := R_some ho5 (by omega); have HW5 := Aside0.mk (HWW.out.below hb5); have s15 := HW5.out.s1; have t05 := HW5.out.t0; have t15 := HW5.out.t1; have f05 := HW5.out.f0; have f15 := HW5.out.f1; have k365 := HW5.out.cells.2.2.2.2; have y35 := part_frozenR ho5 (i * 36 + 35); have x35 := off_cell ho5 HX.out; have HO5 := Aside0.mk ho5; have HB5 := Aside0.mk (And.intro hb5 hg1); have z1 : ¬ (w.heap.size = g) := (by omega); have z2 : ¬ (w.heap.size + 1 = g) := (by omega); have z3 : ¬ (w.heap.size + 1 + 1 = g) := (by omega); have z4 : ¬ (g = w.heap.size) := (by omega); have z5 : ¬ (g = w.heap.size + 1) := (by omega); have z6 : ¬ (g = w.heap.size + 1 + 1) := (by omega); clear ho5 hb5 hg5 hat5)
          refine bodyPost_ret (v := .tuple #[.agg #[.slice (some ⟨g, 0, none⟩) l.length c5, .int .i64 nx], .bool true]) (by simp [results, Tryd.results28, go_sem, *]) rfl (ret_row HWW.out (below_setCell HB5.out.1 HB5.out.2 _) (by rw [List.length_set]) (part_off HO5.out HX.out r.off) HP.out)
      have hz1 : decide (r.kind = 1) = false := decide_eq_false h1
      have hy1 : (r.kind == 1) = false := by simp [h1]
      have HP := Aside0.mk (show stepP ⟨l, nx⟩ r = (⟨l.eraseIdx i, nx⟩, true) by unfold stepP; rw [if_neg h0, if_neg h4, if_neg h1, if_pos (by omega)]; simp only [hn])
      have HER := Aside0.mk (show l.take i ++ l.drop (i + 1) = l.eraseIdx i from (List.eraseIdx_eq_take_drop_succ _ _).symm)
      have HTL := Aside0.mk (show (l.take i).length = i by rw [List.length_take]; omega)
      have hhi := cut_hi A c l.length i (by omega) HCC.out
      obtain ⟨A', hlo, hlc⟩ := cut_lo A c l.length (i + 1) hi HCC.out
      rw [show ((i + 1 : Nat) : Int) = (i : Int) + 1 from by omega] at hlo
      have HLC := Aside0.mk hlc
      have hw2 : IntKind.i64.wrap ((i : Int) + 1) = (i : Int) + 1 := IntWalk.i64_in _ (by omega)
      have hz := HW.out.z
      clear h0 h4 hn HAT h5 h1 hlc
      go_wp2
      go_region_held3 (fun w' => w'.cell? ⟨w.heap.size, 0, none⟩ = some (.slice A l.length c) ∧ w'.cell? ⟨w.heap.size, 1, none⟩ = some (.int .i64 nx)) (first | (refine RsW.two HW.out ?_; (repeat' (first | exact HB6.out | exact HB5.out | exact HB6.out.mono (by omega) | exact HB5.out.mono (by omega) | (with_reducible exact Below.refl _ _) | (with_reducible refine below_drew ?_) | (with_reducible refine Below.alloc ?_ ?_ _) | (with_reducible refine below_setCell ?_ ?_ _) | omega | (simp; done) | (simp; omega))); done))
        (first
          | ((with_reducible refine gate_stepb (b := .append) (xs := #[.tmp 137, .tmp 141]) rfl ?_);
              refine Kd.R_append_rows_step kPt (w0 := wr) (w.heap.size + 1 + 1 + 1) rfl (.tmp 137) (.tmp 141) 61 78 _ 72 rfl Tryd.underlying61 infoPtR zcPt (by decide) (by decide) (.slice none 0 0) [] (l.take i) A i c (fun _ => True) (fun _ => False) rfl rfl (Kd.R_nil _ _ _ _ _) ?aR8 (fun _ _ h => h) (fun _ h => h.elim) (fun _ _ => trivial) ?aB8 ?aS8 ?aL8 ?_;
              (case aR8 => exact C_take (Kd.C_below HC.out (Below.trans HW.out.b (by (repeat' (first | exact HB6.out | exact HB5.out | exact HB6.out.mono (by omega) | exact HB5.out.mono (by omega) | (with_reducible exact Below.refl _ _) | (with_reducible refine below_drew ?_) | (with_reducible refine Below.alloc ?_ ?_ _) | (with_reducible refine below_setCell ?_ ?_ _) | omega | (simp; done) | (simp; omega)))))) (by omega));
              (case aB8 => (repeat' (first | exact HB6.out | exact HB5.out | exact HB6.out.mono (by omega) | exact HB5.out.mono (by omega) | (with_reducible exact Below.refl _ _) | (with_reducible refine below_drew ?_) | (with_reducible refine Below.alloc ?_ ?_ _) | (with_reducible refine below_setCell ?_ ?_ _) | omega | (simp; done) | (simp; omega))));
              (case aS8 => first | omega | (simp; omega));
              (case aL8 => simp; omega);
              intro v5 w5 ho5 hb5 hg5 hat5;
              rw [List.nil_append] at ho5;
              obtain ⟨A5, c5, hv5⟩ := Kd.R_slice ho5;
              rw [HTL.out] at hv5;
              subst hv5;
              have HO5 := Aside0.mk ho5;
              have HB5 := Aside0.mk hb5;
              have hs5 := hb5.size;
              clear ho5 hb5 hg5 hat5)
          | ((with_reducible refine gate_stepb (b := .append) (xs := #[.tmp 142, .tmp 147]) rfl ?_);
              refine Kd.R_append_rows_step kPt (w0 := wr) (w.heap.size + 1 + 1 + 1) rfl (.tmp 142) (.tmp 147) 61 78 _ 72 rfl Tryd.underlying61 infoPtR zcPt (by decide) (by decide) (.slice A5 i c5) (l.take i) (l.drop (i + 1)) A' (l.length - (i + 1)) (c - (i + 1)) (fun _ => True) (fun _ => False) rfl rfl HO5.out ?aR9 (fun _ _ h => h) (fun _ h => h.elim) (fun _ _ => trivial) HB5.out ?aS9 ?aL9 ?_;
              (case aR9 => exact HLC.out _ _ (Kd.C_below HC.out (Below.trans HW.out.b (HB5.out.mono (by omega)))));
              (case aS9 => omega);
              (case aL9 => rw [HTL.out]; omega);
              intro v6 w6 ho6 hb6 hg6 hat6;
              rw [HER.out] at ho6;
              obtain ⟨A6, c6, rfl⟩ := Kd.R_slice ho6;
              have HW6 := Aside0.mk (HW.out.below hb6);
              have t06 := HW6.out.t0; have t16 := HW6.out.t1; have f06 := HW6.out.f0; have f16 := HW6.out.f1;
              have HO6 := Aside0.mk ho6;
              have HB6 := Aside0.mk hb6;
              clear ho6 hb6 hg6 hat6))
      all_goals
        go_wp2
        refine bodyPost_ret (v := .tuple #[.agg #[.slice A6 (l.eraseIdx i).length c6, .int .i64 nx], .bool true]) (by simp [results, Tryd.results28, go_sem, *]) rfl (ret_row HW.out HB6.out (Eq.refl (l.eraseIdx i).length) HO6.out HP.out)
end Go.Proofs.YtiohgpcbdefokaaDoor.B
/- What RecordRises asks, in plain words: what a record that may be makes of a state keeps its order. No condition. -/
namespace Go.Proofs.YtiohgpcbdefokaaDoor.B
/-- Parts with rising IDs below the next one, unlike paths, offsets up to their sizes. -/
structure Good (s : St) : Prop where
  few : s.parts.length ≤ 64
  at_ : ∀ x ∈ s.parts, x.id < s.next ∧ 0 ≤ x.off ∧ x.off ≤ x.size
  ids : s.parts.Pairwise (fun a b => a.id < b.id)
  paths : s.parts.Pairwise (fun a b => a.path ≠ b.path)
end Go.Proofs.YtiohgpcbdefokaaDoor.B
/- What RecordImaged asks, in plain words: the image of a good state plays just that. No condition. -/
namespace Go.Proofs.YtiohgpcbdefokaaDoor.B
/-- What records make of a state, and how many were taken. -/
def playAt (s : St) : List Rc → St × Nat
  | [] => (s, 0)
  | r :: l => if (stepP s r).2 = true then (let q := playAt (stepP s r).1 l; (q.1, q.2 + 1)) else (s, 0)
def playP (l : List Rc) : St × Nat := playAt St.zero l
theorem playAt_one {s : St} {r : Rc} {l : List Rc} (h : (stepP s r).2 = true) : playAt s (r :: l) = ((playAt (stepP s r).1 l).1, (playAt (stepP s r).1 l).2 + 1) := by
  show (if (stepP s r).2 = true then _ else _) = _
  rw [if_pos h]
theorem playAt_nil (s : St) : playAt s [] = (s, 0) := rfl
end Go.Proofs.YtiohgpcbdefokaaDoor.B
/- record.Play: what records make. No condition. -/
namespace Go.Proofs.YtiohgpcbdefokaaDoor.B
open Go.RowKit Go.Proofs.YtiohgpcbdefokaaDoorW.PrintWords Go.Proofs.YtiohgpcbdefokaaDoor.RowLaws
attribute [local go_sem ↓ high] lvO_hs ldO_hs stO_hs lvO_pt ldO_pt stO_pt zero_pt eqA_pt lvO_ptR ldO_ptR stO_ptR zero_ptR eqA_ptR lvO_rc ldO_rc stO_rc zero_rc eqA_rc lvO_rcR ldO_rcR stO_rcR zero_rcR eqA_rcR lvO_tk ldO_tk stO_tk zero_tk eqA_tk lvO_tkR ldO_tkR stO_tkR zero_tkR eqA_tkR lvO_it ldO_it stO_it zero_it eqA_it blO_pt blO_ptR blO_rc blO_rcR blO_tk blO_tkR blO_it bsO_pt bsO_ptR bsO_rc bsO_rcR bsO_it
attribute [local go_sem high] rowAt_setCell rowAt_setRow cell_setRow_ne isRow_setRow_ne rowAt_alloc rowAt_drew isRow_alloc isRow_drew isRow_setCell rowRun_some okL_hs ldV_hs ldA_hs stA_hs setRow_alloc get_pt_id get_pt_path cut_pt_sum get_pt_size get_pt_off cut_pt okL_pt size_pt lenb_pt eta_pt ldV_pt ldA_pt stA_pt ldV_ptR ldA_ptR stA_ptR get_rc_kind get_rc_id get_rc_path cut_rc_sum get_rc_size get_rc_off cut_rc okL_rc size_rc lenb_rc eta_rc ldV_rc ldA_rc stA_rc ldV_rcR ldA_rcR stA_rcR get_tk_path cut_tk_sum get_tk_size get_tk_off cut_tk_old cut_tk okL_tk size_tk lenb_tk eta_tk ldV_tk ldA_tk stA_tk ldV_tkR ldA_tkR stA_tkR get_it_path get_it_dir get_it_size cut_it_sum cut_it okL_it size_it lenb_it eta_it ldV_it ldA_it stA_it bld_pt_01234 bld_pt_0123 bld_pt_z bld_ptR_01234 bld_ptR_0123 bld_ptR_z bld_rc_012345 bld_rc_015 bld_rc_01 bld_rc_z bld_rc_01234 bld_rc_24 bld_rc_05 bld_rc_0 bld_rcR_012345 bld_rcR_015 bld_rcR_01 bld_rcR_z bld_rcR_01234 bld_rcR_24 bld_rcR_05 bld_rcR_0 bld_tk_01234 bld_tk_0 bld_tk_z bld_tkR_01234 bld_tkR_0 bld_tkR_z bld_it_0123 bld_it_023 bld_it_01 bld_it_0 bld_it_z bs0_pt bs1_pt bs0_ptR bs1_ptR bs0_rc bs1_rc bs0_rcR bs1_rcR bs0_it bs1_it
theorem beginP_len (s : St) (r : Rc) (h : s.parts.length ≤ 64) : (beginP s r).1.parts.length ≤ 64 := by
  unfold beginP
  split
  · exact h
  · rename_i hn
    show (s.parts ++ [_]).length ≤ 64
    rw [List.length_append, List.length_singleton]
    have : ¬ 64 ≤ s.parts.length := fun e => hn (.inr (.inr e))
    omega
theorem stepP_len (s : St) (r : Rc) (h : s.parts.length ≤ 64) : (stepP s r).1.parts.length ≤ 64 := by
  unfold stepP
  split
  · exact beginP_len s r h
  split
  · split <;> exact h
  split
  · split
    · exact h
    · split
      · exact h
      · split
        · exact h
        · show (s.parts.set _ _).length ≤ 64
          rw [List.length_set]; exact h
  split
  · split
    · exact h
    · exact Nat.le_trans (List.length_eraseIdx_le _ _) h
  · exact h
/-- IDs that Step can take. -/
def okId (r : Rc) : Prop := r.id ≤ 2199023255552 ∧ -9223372036854775808 ≤ r.id
/-- The boxes of Play, at the loop's head. -/
structure PlayW (w : World) (ps : List Pt) (nx : Int) (wr : World) : Prop where
  b : Below w.heap.size w wr
  z : w.heap.size + 1 + 1 ≤ wr.heap.size
  len : ps.length ≤ 64
  at_ : ∃ A2 c2, wr.cell? ⟨w.heap.size, 0, none⟩ = some (.slice none 0 0) ∧ wr.cell? ⟨w.heap.size, 1, none⟩ = some (.int .i64 0) ∧ wr.cell? ⟨w.heap.size + 1, 0, none⟩ = some (.slice A2 ps.length c2) ∧ wr.cell? ⟨w.heap.size + 1, 1, none⟩ = some (.int .i64 nx) ∧
    wr.frozen? ⟨w.heap.size, 0, none⟩ = false ∧ wr.frozen? ⟨w.heap.size, 1, none⟩ = false ∧ wr.frozen? ⟨w.heap.size + 1, 0, none⟩ = false ∧ wr.frozen? ⟨w.heap.size + 1, 1, none⟩ = false ∧ Kd.R kPt 75 wr (w.heap.size + 1 + 1) (fun _ => True) (.slice A2 ps.length c2) ps
set_option maxHeartbeats 4000000 in
theorem playW_next {w w4 : World} {ql : List Pt} {qn : Int} {A4 : Option Addr} {c4 : Nat} {x y : Value} {o : Obj} (hb : Below w.heap.size w w4) (hz : w.heap.size + 1 + 1 ≤ w4.heap.size) (hl : ql.length ≤ 64)
    (h0 : w4.cell? ⟨w.heap.size, 0, none⟩ = some (.slice none 0 0)) (h1 : w4.cell? ⟨w.heap.size, 1, none⟩ = some (.int .i64 0)) (h2 : w4.cell? ⟨w.heap.size + 1, 0, none⟩ = some x) (h3 : w4.cell? ⟨w.heap.size + 1, 1, none⟩ = some y)
    (f0 : w4.frozen? ⟨w.heap.size, 0, none⟩ = false) (f1 : w4.frozen? ⟨w.heap.size, 1, none⟩ = false) (f2 : w4.frozen? ⟨w.heap.size + 1, 0, none⟩ = false) (f3 : w4.frozen? ⟨w.heap.size + 1, 1, none⟩ = false)
    (hO : Kd.R kPt 75 w4 (w.heap.size + 1 + 1) (fun _ => True) (.slice A4 ql.length c4) ql) :
    PlayW w ql qn (((w4.setCell ⟨w.heap.size + 1, 0, none⟩ (.slice A4 ql.length c4)).setCell ⟨w.heap.size + 1, 1, none⟩ (.int .i64 qn)).alloc o) := by
  have n0 : ¬ (w.heap.size = w4.heap.size) := by omega
  have n1 : ¬ (w.heap.size + 1 = w4.heap.size) := by omega
  have n2 : w.heap.size < w4.heap.size := by omega
  have n3 : w.heap.size + 1 < w4.heap.size := by omega
  refine ⟨below_alloc (below_setCell (below_setCell hb (by omega) _) (by omega) _) _, by simp; omega, hl, A4, c4, ?_, ?_, ?_, ?_, ?_, ?_, ?_, ?_, Kd.R_below (flat_put (flat_put hO (by omega)) (by omega)) (below_alloc (Below.refl _ _) _)⟩ <;> clear hO hb <;> first | (go_simp; done) | (simp [*]; done) | (simp [go_sem, *]; done)
theorem play_step {s t : St} {l : List Rc} {k : Nat} {x : Rc} (hx : l[k]? = some x) (h : stepP s x = (t, true)) : playAt s (l.drop k) = ((playAt t (l.drop (k + 1))).1, (playAt t (l.drop (k + 1))).2 + 1) := by
  obtain ⟨hk, hx⟩ := List.getElem?_eq_some_iff.1 hx
  rw [List.drop_eq_getElem_cons hk, hx, playAt_one (by rw [h]), h]
theorem play_stop {s t : St} {l : List Rc} {k : Nat} {x : Rc} (hx : l[k]? = some x) (h : stepP s x = (t, false)) : playAt s (l.drop k) = (s, 0) := by
  obtain ⟨hk, hx⟩ := List.getElem?_eq_some_iff.1 hx
  rw [List.drop_eq_getElem_cons hk, hx]
  show (if (stepP s x).2 = true then _ else _) = _
  rw [if_neg (by rw [h]; exact Bool.false_ne_true)]
set_option linter.unusedVariables false in
set_option maxHeartbeats 8000000 in
set_option maxRecDepth 100000 in
theorem Play_calls (A : Option Addr) (c : Nat) (l : List Rc) (w : World) (hC : Kd.C kRc w A l.length l) (hlen : l.length ≤ 1000) (hid : ∀ r ∈ l, okId r) :
    Calls Tryd.prog 31 #[.slice A l.length c] w fun e w' => ∃ v : Value, e = .returned (.tuple #[.agg #[v, .int .i64 (playP l).1.next], .int .i64 ((playP l).2 : Nat)]) ∧ Kd.R kPt 75 w' w.heap.size (fun _ => True) v (playP l).1.parts ∧ Below w.heap.size w w' := by
  have HC := Aside0.mk hC
  have HID := Aside0.mk hid
  clear hC hid
  go_enter Tryd.func31, Tryd.ntmps31
  go_wp2
  go_loopw [11] (fun iv wr => ∃ (k : Nat) (ps : List Pt) (nx : Int), k ≤ l.length ∧ iv = .int .i64 k ∧ Aside0 (PlayW w ps nx wr) ∧ Aside0 (playP l = ((playAt ⟨ps, nx⟩ (l.drop k)).1, (playAt ⟨ps, nx⟩ (l.drop k)).2 + k))) (fun iv _ => l.length - (intOf iv).toNat)
  case atStart =>
    refine ⟨0, [], 0, Nat.zero_le _, rfl, ⟨?_⟩, ⟨by rw [List.drop_zero]; rfl⟩⟩
    refine ⟨below_alloc (below_alloc (Below.refl _ _) _) _, by simp, by decide, none, 0, ?_, ?_, ?_, ?_, ?_, ?_, ?_, ?_, Kd.R_nil _ _ _ _ _⟩ <;> first | (go_simp; done) | (simp; done)
  case round =>
    obtain ⟨k, ps, nx, hk, rfl, HW, HP⟩ := hrel
    obtain ⟨A2, c2, m0, m1, m2, m3, m4, m5, m6, m7, hO⟩ := HW.out.at_
    have HB := Aside0.mk HW.out.b
    have hz := HW.out.z
    have HO := Aside0.mk hO
    have HCR := Aside0.mk (Kd.R_reads' hO).2.2
    have HL := Aside0.mk (And.intro HW.out.len (Kd.R_reads' hO).2.1)
    clear hO
    have n2 : w.heap.size < wr.heap.size := by omega
    have n3 : w.heap.size + 1 < wr.heap.size := by omega
    have n0 : ¬ (w.heap.size = wr.heap.size) := by omega
    have n1 : ¬ (w.heap.size + 1 = wr.heap.size) := by omega
    by_cases hlt : k < l.length
    · obtain ⟨b, o, hA, hb, hr⟩ := flat_at HC.out (by decide) (by omega)
      subst hA
      obtain ⟨hrow, _⟩ := hr k hlt
      rw [← rowAt_below HB.out hb] at hrow
      have HX := Aside0.mk (show l[k]? = some l[k] from List.getElem?_eq_getElem hlt)
      have HX1 := Aside0.mk (HID.out l[k] (List.getElem_mem hlt))
      obtain ⟨x, hx⟩ : ∃ x, x = l[k] := ⟨_, rfl⟩
      rw [← hx] at hrow HX HX1
      clear hr hx
      have hlt2 : (k : Int) < (l.length : Int) := by omega
      have HBB := Aside0.mk (show b < wr.heap.size from by have := HB.out.size; omega)
      obtain ⟨q, hq⟩ : ∃ q, stepP ⟨ps, nx⟩ x = q := ⟨_, rfl⟩
      have HLQ := Aside0.mk (stepP_len ⟨ps, nx⟩ x HL.out.1)
      rw [hq] at HLQ
      have HQ := Aside0.mk hq
      clear hq
      obtain ⟨⟨ql, qn⟩, qb⟩ := q
      cases qb with
      | true =>
        go_wp2_with (go_at_call 27; refine (Step_calls A2 c2 ps nx x _ ?hc1 HL.out.2 HL.out.1 HX1.out.1 HX1.out.2).mono ?_; (case hc1 => exact Kd.C_below HCR.out (below_alloc (Below.refl _ _) _)); rintro e w4 ⟨v4, he4, ho4, hb4⟩; rw [HQ.out] at he4 ho4; subst he4; obtain ⟨A4, c4, rfl⟩ := Kd.R_slice ho4; obtain ⟨hcl, hfz⟩ := bcell hb4; have zd0 : ¬ (w.heap.size = w4.heap.size) := (by have h_ := hb4.size; simp at h_; omega); have yd0 : w.heap.size < w4.heap.size := (by have h_ := hb4.size; simp at h_; omega); have cd0_0 : w4.cell? ⟨w.heap.size, 0, none⟩ = some (.slice none 0 0) := (by rw [hcl _ _ (by first | omega | (simp; done) | (simp; omega))]; first | (go_simp; done) | (simp [*]; done) | (simp [go_sem, *]; done)); have fd0_0 : w4.frozen? ⟨w.heap.size, 0, none⟩ = false := (by rw [hfz _ _ (by first | omega | (simp; done) | (simp; omega))]; first | (go_simp; done) | (simp [*]; done) | (simp [go_sem, *]; done)); have cd0_1 : w4.cell? ⟨w.heap.size, 1, none⟩ = some (.int .i64 0) := (by rw [hcl _ _ (by first | omega | (simp; done) | (simp; omega))]; first | (go_simp; done) | (simp [*]; done) | (simp [go_sem, *]; done)); have fd0_1 : w4.frozen? ⟨w.heap.size, 1, none⟩ = false := (by rw [hfz _ _ (by first | omega | (simp; done) | (simp; omega))]; first | (go_simp; done) | (simp [*]; done) | (simp [go_sem, *]; done)); have zd1 : ¬ (w.heap.size + 1 = w4.heap.size) := (by have h_ := hb4.size; simp at h_; omega); have yd1 : w.heap.size + 1 < w4.heap.size := (by have h_ := hb4.size; simp at h_; omega); have cd1_0 : w4.cell? ⟨w.heap.size + 1, 0, none⟩ = some (.slice A2 ps.length c2) := (by rw [hcl _ _ (by first | omega | (simp; done) | (simp; omega))]; first | (go_simp; done) | (simp [*]; done) | (simp [go_sem, *]; done)); have fd1_0 : w4.frozen? ⟨w.heap.size + 1, 0, none⟩ = false := (by rw [hfz _ _ (by first | omega | (simp; done) | (simp; omega))]; first | (go_simp; done) | (simp [*]; done) | (simp [go_sem, *]; done)); have cd1_1 : w4.cell? ⟨w.heap.size + 1, 1, none⟩ = some (.int .i64 nx) := (by rw [hcl _ _ (by first | omega | (simp; done) | (simp; omega))]; first | (go_simp; done) | (simp [*]; done) | (simp [go_sem, *]; done)); have fd1_1 : w4.frozen? ⟨w.heap.size + 1, 1, none⟩ = false := (by rw [hfz _ _ (by first | omega | (simp; done) | (simp; omega))]; first | (go_simp; done) | (simp [*]; done) | (simp [go_sem, *]; done)); have HO4 := Aside0.mk (Kd.R_lower (base' := w.heap.size + 1 + 1) ho4 (by simp; omega)); have HB4 := Aside0.mk (Below.trans (below_alloc HB.out _) (hb4.mono (by simp; omega))); have HS4 := Aside0.mk (show wr.heap.size + 1 ≤ w4.heap.size from by have h_ := hb4.size; simpa using h_); have HBS := Aside0.mk hb4; clear ho4 hb4 hcl hfz)
        go_roundw
        case rel =>
          refine ⟨k + 1, ql, qn, by omega, by simp, ⟨?_⟩, ⟨by rw [HP.out, play_step HX.out HQ.out]; simp only; congr 1; omega⟩⟩
          exact playW_next HB4.out (by have := HS4.out; omega) HLQ.out cd0_0 cd0_1 cd1_0 cd1_1 fd0_0 fd0_1 fd1_0 fd1_1 HO4.out
        case measure => simp [intOf]; omega
      | false =>
        go_wp2_with (go_at_call 27; refine (Step_calls A2 c2 ps nx x _ ?hc1 HL.out.2 HL.out.1 HX1.out.1 HX1.out.2).mono ?_; (case hc1 => exact Kd.C_below HCR.out (below_alloc (Below.refl _ _) _)); rintro e w4 ⟨v4, he4, ho4, hb4⟩; rw [HQ.out] at he4 ho4; subst he4; obtain ⟨A4, c4, rfl⟩ := Kd.R_slice ho4; obtain ⟨hcl, hfz⟩ := bcell hb4; have zd0 : ¬ (w.heap.size = w4.heap.size) := (by have h_ := hb4.size; simp at h_; omega); have yd0 : w.heap.size < w4.heap.size := (by have h_ := hb4.size; simp at h_; omega); have cd0_0 : w4.cell? ⟨w.heap.size, 0, none⟩ = some (.slice none 0 0) := (by rw [hcl _ _ (by first | omega | (simp; done) | (simp; omega))]; first | (go_simp; done) | (simp [*]; done) | (simp [go_sem, *]; done)); have fd0_0 : w4.frozen? ⟨w.heap.size, 0, none⟩ = false := (by rw [hfz _ _ (by first | omega | (simp; done) | (simp; omega))]; first | (go_simp; done) | (simp [*]; done) | (simp [go_sem, *]; done)); have cd0_1 : w4.cell? ⟨w.heap.size, 1, none⟩ = some (.int .i64 0) := (by rw [hcl _ _ (by first | omega | (simp; done) | (simp; omega))]; first | (go_simp; done) | (simp [*]; done) | (simp [go_sem, *]; done)); have fd0_1 : w4.frozen? ⟨w.heap.size, 1, none⟩ = false := (by rw [hfz _ _ (by first | omega | (simp; done) | (simp; omega))]; first | (go_simp; done) | (simp [*]; done) | (simp [go_sem, *]; done)); have zd1 : ¬ (w.heap.size + 1 = w4.heap.size) := (by have h_ := hb4.size; simp at h_; omega); have yd1 : w.heap.size + 1 < w4.heap.size := (by have h_ := hb4.size; simp at h_; omega); have cd1_0 : w4.cell? ⟨w.heap.size + 1, 0, none⟩ = some (.slice A2 ps.length c2) := (by rw [hcl _ _ (by first | omega | (simp; done) | (simp; omega))]; first | (go_simp; done) | (simp [*]; done) | (simp [go_sem, *]; done)); have fd1_0 : w4.frozen? ⟨w.heap.size + 1, 0, none⟩ = false := (by rw [hfz _ _ (by first | omega | (simp; done) | (simp; omega))]; first | (go_simp; done) | (simp [*]; done) | (simp [go_sem, *]; done)); have cd1_1 : w4.cell? ⟨w.heap.size + 1, 1, none⟩ = some (.int .i64 nx) := (by rw [hcl _ _ (by first | omega | (simp; done) | (simp; omega))]; first | (go_simp; done) | (simp [*]; done) | (simp [go_sem, *]; done)); have fd1_1 : w4.frozen? ⟨w.heap.size + 1, 1, none⟩ = false := (by rw [hfz _ _ (by first | omega | (simp; done) | (simp; omega))]; first | (go_simp; done) | (simp [*]; done) | (simp [go_sem, *]; done)); have HO4 := Aside0.mk (Kd.R_lower (base' := w.heap.size + 1 + 1) ho4 (by simp; omega)); have HB4 := Aside0.mk (Below.trans (below_alloc HB.out _) (hb4.mono (by simp; omega))); have HS4 := Aside0.mk (show wr.heap.size + 1 ≤ w4.heap.size from by have h_ := hb4.size; simpa using h_); have HBS := Aside0.mk hb4; clear ho4 hb4 hcl hfz)
        refine bodyPost_ret (v := .tuple #[.agg #[.slice A2 ps.length c2, .int .i64 nx], .int .i64 k]) (by simp [results, Tryd.results31, go_sem, *]) rfl ⟨.slice A2 ps.length c2, ?_, ?_, ?_⟩
        · rw [HP.out, play_stop HX.out HQ.out]; simp
        · rw [HP.out, play_stop HX.out HQ.out]
          exact Kd.R_lower (Kd.R_below (flat_put (flat_put (Kd.R_below (Kd.R_below HO.out (below_alloc (Below.refl _ _) _)) HBS.out) (by omega)) (by omega)) (below_alloc (Below.refl _ _) _)) (by omega)
        · have hs4 := HS4.out; (repeat' (first | exact HB4.out | (with_reducible refine below_setCell ?_ ?_ _) | (with_reducible refine below_setRow ?_ ?_ _) | (with_reducible refine Below.alloc ?_ ?_ _) | (with_reducible refine below_drew ?_) | (with_reducible refine pw_below_drewN ?_ _) | (with_reducible exact Below.refl _ _) | omega | (simp; done) | (simp; omega)))
    · have hk2 : k = l.length := by omega
      subst hk2
      go_wp2
      refine bodyPost_ret (v := .tuple #[.agg #[.slice A2 ps.length c2, .int .i64 nx], .int .i64 l.length]) (by simp [results, Tryd.results31, go_sem, *]) rfl ⟨.slice A2 ps.length c2, ?_, ?_, ?_⟩
      · rw [HP.out, List.drop_length, playAt_nil]; simp
      · rw [HP.out, List.drop_length, playAt_nil]
        exact Kd.R_lower (flat_put (flat_put HO.out (by omega)) (by omega)) (by omega)
      · exact below_setCell (below_setCell HB.out (by omega) _) (by omega) _
end Go.Proofs.YtiohgpcbdefokaaDoor.B
/- The document's answer for records played: its walk. No condition. -/
namespace Go.Proofs.YtiohgpcbdefokaaDoor.B
open Go.RowKit Go.Proofs.YtiohgpcbdefokaaDoorW.PrintWords Go.Proofs.YtiohgpcbdefokaaDoor.RowLaws
attribute [local go_sem ↓ high] lvO_hs ldO_hs stO_hs lvO_pt ldO_pt stO_pt zero_pt eqA_pt lvO_ptR ldO_ptR stO_ptR zero_ptR eqA_ptR lvO_rc ldO_rc stO_rc zero_rc eqA_rc lvO_rcR ldO_rcR stO_rcR zero_rcR eqA_rcR lvO_tk ldO_tk stO_tk zero_tk eqA_tk lvO_tkR ldO_tkR stO_tkR zero_tkR eqA_tkR lvO_it ldO_it stO_it zero_it eqA_it blO_pt blO_ptR blO_rc blO_rcR blO_tk blO_tkR blO_it bsO_pt bsO_ptR bsO_rc bsO_rcR bsO_it
attribute [local go_sem high] rowAt_setCell rowAt_setRow cell_setRow_ne isRow_setRow_ne rowAt_alloc rowAt_drew isRow_alloc isRow_drew isRow_setCell rowRun_some okL_hs ldV_hs ldA_hs stA_hs setRow_alloc get_pt_id get_pt_path cut_pt_sum get_pt_size get_pt_off cut_pt okL_pt size_pt lenb_pt eta_pt ldV_pt ldA_pt stA_pt ldV_ptR ldA_ptR stA_ptR get_rc_kind get_rc_id get_rc_path cut_rc_sum get_rc_size get_rc_off cut_rc okL_rc size_rc lenb_rc eta_rc ldV_rc ldA_rc stA_rc ldV_rcR ldA_rcR stA_rcR get_tk_path cut_tk_sum get_tk_size get_tk_off cut_tk_old cut_tk okL_tk size_tk lenb_tk eta_tk ldV_tk ldA_tk stA_tk ldV_tkR ldA_tkR stA_tkR get_it_path get_it_dir get_it_size cut_it_sum cut_it okL_it size_it lenb_it eta_it ldV_it ldA_it stA_it bld_pt_01234 bld_pt_0123 bld_pt_z bld_ptR_01234 bld_ptR_0123 bld_ptR_z bld_rc_012345 bld_rc_015 bld_rc_01 bld_rc_z bld_rc_01234 bld_rc_24 bld_rc_05 bld_rc_0 bld_rcR_012345 bld_rcR_015 bld_rcR_01 bld_rcR_z bld_rcR_01234 bld_rcR_24 bld_rcR_05 bld_rcR_0 bld_tk_01234 bld_tk_0 bld_tk_z bld_tkR_01234 bld_tkR_0 bld_tkR_z bld_it_0123 bld_it_023 bld_it_01 bld_it_0 bld_it_z bs0_pt bs1_pt bs0_ptR bs1_ptR bs0_rc bs1_rc bs0_rcR bs1_rcR bs0_it bs1_it
attribute [local irreducible] wpStill
/-- IDs rise below the next one. -/
structure Ord (s : St) : Prop where
  few : s.parts.length ≤ 64
  lt : ∀ x ∈ s.parts, x.id < s.next
  ids : s.parts.Pairwise (fun a b => a.id < b.id)
theorem ord_zero : Ord St.zero := ⟨by decide, (by intro x hx; cases hx), .nil⟩
theorem ord_set {s : St} {i : Nat} {p : Pt} {o : Int} (h : Ord s) (hi : s.parts[i]? = some p) : Ord ⟨s.parts.set i { p with off := o }, s.next⟩ := by
  have hil := (List.getElem?_eq_some_iff.1 hi)
  have key : ∀ j (hj : j < (s.parts.set i { p with off := o }).length), ((s.parts.set i { p with off := o })[j]).id = (s.parts[j]'(by simpa using hj)).id := by
    intro j hj
    rw [List.getElem_set]
    split
    · rename_i he
      subst he
      rw [hil.2]
    · rfl
  refine ⟨by simpa using h.few, fun x hx => ?_, ?_⟩
  · rcases List.mem_or_eq_of_mem_set hx with hx | rfl
    · exact h.lt x hx
    · exact h.lt p (List.mem_of_getElem? hi)
  · rw [List.pairwise_iff_getElem]
    intro a b ha hb hab
    have := (List.pairwise_iff_getElem.1 h.ids) a b (by simpa using ha) (by simpa using hb) hab
    rw [key a ha, key b hb]; exact this
theorem ord_step {s : St} {r : Rc} (h : Ord s) : Ord (stepP s r).1 := by
  unfold stepP
  split
  · unfold beginP
    split
    · exact h
    · rename_i hn
      have h2 : ¬ r.id < s.next := fun e => hn (.inr (.inl e))
      have h3 : ¬ 64 ≤ s.parts.length := fun e => hn (.inr (.inr e))
      refine ⟨?_, fun x hx => ?_, ?_⟩
      · show (s.parts ++ [_]).length ≤ 64
        rw [List.length_append]; simp only [List.length_singleton]; omega
      · rcases List.mem_append.1 hx with hx | hx
        · have := h.lt x hx
          show x.id < r.id + 1; omega
        · obtain rfl := List.mem_singleton.1 hx
          show r.id < r.id + 1; omega
      · refine List.pairwise_append.2 ⟨h.ids, List.pairwise_singleton _ _, fun a ha b hb => ?_⟩
        obtain rfl := List.mem_singleton.1 hb
        have := h.lt a ha
        show a.id < r.id
        omega
  split
  · split
    · exact h
    · exact ⟨h.few, fun x hx => by have := h.lt x hx; show x.id < r.id + 1; omega, h.ids⟩
  split
  · split
    · exact h
    · split
      · exact h
      · rename_i p hp
        split
        · exact h
        · exact ord_set h hp
  split
  · split
    · exact h
    · rename_i i _
      have hs : (s.parts.eraseIdx i).Sublist s.parts := List.eraseIdx_sublist _ _
      exact ⟨Nat.le_trans hs.length_le h.few, fun x hx => h.lt x (hs.subset hx), h.ids.sublist hs⟩
  · exact h
/-- What Step can take. -/
def okK (r : Rc) : Prop := 0 ≤ r.kind ∧ r.id ≤ 2199023255552 ∧ -9223372036854775808 ≤ r.id
/-- The boxes of the answer's Play, at the loop's head. -/
structure PlR (w : World) (ps : List Pt) (nx : Int) (A2 : Option Addr) (c2 : Nat) (W : World) : Prop where
  b : Below w.heap.size w W
  z : w.heap.size + 1 + 1 ≤ W.heap.size
  t0 : W.cell? ⟨w.heap.size, 0, none⟩ = some (.slice none 0 0)
  t1 : W.cell? ⟨w.heap.size, 1, none⟩ = some (.int .i64 0)
  f0 : W.frozen? ⟨w.heap.size, 0, none⟩ = false
  f1 : W.frozen? ⟨w.heap.size, 1, none⟩ = false
  s0 : W.cell? ⟨w.heap.size + 1, 0, none⟩ = some (.slice A2 ps.length c2)
  s1 : W.cell? ⟨w.heap.size + 1, 1, none⟩ = some (.int .i64 nx)
  g0 : W.frozen? ⟨w.heap.size + 1, 0, none⟩ = false
  g1 : W.frozen? ⟨w.heap.size + 1, 1, none⟩ = false
  c : Kd.C kPt W A2 ps.length ps
  cc : ps.length ≤ c2
  hi : ∀ ad, A2 = some ad → w.heap.size + 1 + 1 ≤ ad.block
theorem PlR.below {w : World} {ps : List Pt} {nx : Int} {A2 : Option Addr} {c2 : Nat} {W W' : World} (h : PlR w ps nx A2 c2 W) (hb : Below W.heap.size W W') : PlR w ps nx A2 c2 W' := by
  have hs := hb.size
  have hz := h.z
  exact ⟨below_step h.b hb, by omega, (hb.cell (p := ⟨w.heap.size, 0, none⟩) (by simp; omega)).trans h.t0, (hb.cell (p := ⟨w.heap.size, 1, none⟩) (by simp; omega)).trans h.t1, (hb.frozen (p := ⟨w.heap.size, 0, none⟩) (by simp; omega)).trans h.f0, (hb.frozen (p := ⟨w.heap.size, 1, none⟩) (by simp; omega)).trans h.f1,
    (hb.cell (p := ⟨w.heap.size + 1, 0, none⟩) (by simp; omega)).trans h.s0, (hb.cell (p := ⟨w.heap.size + 1, 1, none⟩) (by simp; omega)).trans h.s1, (hb.frozen (p := ⟨w.heap.size + 1, 0, none⟩) (by simp; omega)).trans h.g0, (hb.frozen (p := ⟨w.heap.size + 1, 1, none⟩) (by simp; omega)).trans h.g1, Kd.C_below h.c hb, h.cc, h.hi⟩
/-- Behind a step: the box tb of the new state. -/
structure PlT (w : World) (ps : List Pt) (nx : Int) (A2 : Option Addr) (c2 : Nat) (ql : List Pt) (qn : Int) (A4 : Option Addr) (c4 tb : Nat) (W : World) : Prop where
  p : PlR w ps nx A2 c2 W
  lo : w.heap.size + 1 < tb
  t0 : W.cell? ⟨tb, 0, none⟩ = some (.slice A4 ql.length c4)
  t1 : W.cell? ⟨tb, 1, none⟩ = some (.int .i64 qn)
  c : Kd.C kPt W A4 ql.length ql
  cc : ql.length ≤ c4
  hi : ∀ ad, A4 = some ad → w.heap.size + 1 + 1 ≤ ad.block
theorem step_ret' {w : World} {A2 : Option Addr} {c2 : Nat} {ps ql : List Pt} {nx qn : Int} {qb : Bool} {x : Rc} {e : Ending} {W : World} (hq : stepP ⟨ps, nx⟩ x = (⟨ql, qn⟩, qb)) (h : StepRet w A2 c2 ⟨ps, nx⟩ x e W) :
    ∃ (A4 : Option Addr) (c4 : Nat), e = .returned (.tuple #[.agg #[.slice A4 ql.length c4, .int .i64 qn], .bool qb]) ∧ Kd.C kPt W A4 ql.length ql ∧ ql.length ≤ c4 ∧ Below w.heap.size w W ∧ ((A4 = A2 ∧ c4 = c2 ∧ ql = ps) ∨ Kd.R kPt 78 W w.heap.size (fun _ => True) (.slice A4 ql.length c4) ql) := by
  unfold StepRet at h
  rw [hq] at h
  exact h
theorem step_ret {w : World} {A2 : Option Addr} {c2 : Nat} {ps ql : List Pt} {nx qn : Int} {qb : Bool} {x : Rc} {e : Ending} {W : World} (hq : stepP ⟨ps, nx⟩ x = (⟨ql, qn⟩, qb)) (h : StepRet w A2 c2 ⟨ps, nx⟩ x e W) :
    ∃ (A4 : Option Addr) (c4 : Nat), e = .returned (.tuple #[.agg #[.slice A4 ql.length c4, .int .i64 qn], .bool qb]) ∧ Kd.C kPt W A4 ql.length ql ∧ ql.length ≤ c4 ∧ Below w.heap.size w W ∧ ((A4 = A2 ∧ ql = ps) ∨ ∀ ad, A4 = some ad → w.heap.size ≤ ad.block) := by
  obtain ⟨A4, c4, h1, h2, h3, h4, h5⟩ := step_ret' hq h
  exact ⟨A4, c4, h1, h2, h3, h4, h5.elim (fun h => .inl ⟨h.1, h.2.2⟩) (fun h => .inr (R_hi h))⟩
theorem plt_alloc {w wr w4 W0 : World} {ps : List Pt} {nx : Int} {A2 : Option Addr} {c2 : Nat} {ql : List Pt} {qn : Int} {A4 : Option Addr} {c4 : Nat} {t : TypeId} (h : PlR w ps nx A2 c2 wr) (hb : Below wr.heap.size wr w4) (h0 : wr.heap.size ≤ W0.heap.size)
    (hc : Kd.C kPt w4 A4 ql.length ql) (hcc : ql.length ≤ c4) (ho : (A4 = A2 ∧ ql = ps) ∨ ∀ ad, A4 = some ad → W0.heap.size ≤ ad.block) : PlT w ps nx A2 c2 ql qn A4 c4 w4.heap.size (w4.alloc (.cells #[.slice A4 ql.length c4, .int .i64 qn] t)) := by
  have hn : Below w4.heap.size w4 (w4.alloc (.cells #[.slice A4 ql.length c4, .int .i64 qn] t)) := below_alloc (Below.refl _ _) _
  have hs := hb.size
  have hz := h.z
  refine ⟨h.below (below_step hb hn), by omega, cell_of_row _ _ _ _ _ _ (heap_alloc_new _ _), cell_of_row _ _ _ _ _ _ (heap_alloc_new _ _), Kd.C_below hc hn, hcc, fun ad e => ?_⟩
  rcases ho with ⟨rfl, _⟩ | ho
  · exact h.hi ad e
  · have := ho ad e; omega
theorem plt_set {w wr w4 W0 : World} {ps : List Pt} {nx : Int} {A2 : Option Addr} {c2 : Nat} {ql : List Pt} {qn : Int} {A4 : Option Addr} {c4 X : Nat} {p q : Value} (h : PlR w ps nx A2 c2 wr) (hb : Below wr.heap.size wr w4) (hX : wr.heap.size ≤ X) (hX0 : X < W0.heap.size)
    (hc : Kd.C kPt w4 A4 ql.length ql) (hcc : ql.length ≤ c4) (ho : (A4 = A2 ∧ ql = ps) ∨ ∀ ad, A4 = some ad → W0.heap.size ≤ ad.block) (t0 : w4.cell? ⟨X, 0, none⟩ = some p) (t1 : w4.cell? ⟨X, 1, none⟩ = some q) :
    PlT w ps nx A2 c2 ql qn A4 c4 X ((w4.setCell ⟨X, 0, none⟩ (.slice A4 ql.length c4)).setCell ⟨X, 1, none⟩ (.int .i64 qn)) := by
  have hn : Below wr.heap.size wr ((w4.setCell ⟨X, 0, none⟩ (.slice A4 ql.length c4)).setCell ⟨X, 1, none⟩ (.int .i64 qn)) := below_setCell (below_setCell hb hX _) hX _
  have hz := h.z
  have e0 : ((w4.setCell ⟨X, 0, none⟩ (.slice A4 ql.length c4)).setCell ⟨X, 1, none⟩ (.int .i64 qn)).cell? ⟨X, 0, none⟩ = some (.slice A4 ql.length c4) := by simp [go_sem, *]
  have e1 : ((w4.setCell ⟨X, 0, none⟩ (.slice A4 ql.length c4)).setCell ⟨X, 1, none⟩ (.int .i64 qn)).cell? ⟨X, 1, none⟩ = some (.int .i64 qn) := by simp [go_sem, *]
  have hp := h.below hn
  rcases ho with ⟨rfl, rfl⟩ | ho
  · exact ⟨hp, by omega, e0, e1, hp.c, hcc, fun ad e => h.hi ad e⟩
  · exact ⟨hp, by omega, e0, e1, C_put (C_put hc ho hX0) ho hX0, hcc, fun ad e => by have := ho ad e; omega⟩
theorem plr_next {w : World} {ps : List Pt} {nx : Int} {A2 : Option Addr} {c2 : Nat} {ql : List Pt} {qn : Int} {A4 : Option Addr} {c4 tb : Nat} {W : World} (h : PlT w ps nx A2 c2 ql qn A4 c4 tb W) : PlR w ql qn A4 c4 ((W.setCell ⟨w.heap.size + 1, 0, none⟩ (.slice A4 ql.length c4)).setCell ⟨w.heap.size + 1, 1, none⟩ (.int .i64 qn)) := by
  obtain ⟨⟨h1, h2, h3, h4, h5, h6, h7, h8, h9, h10, h11, h12, h13⟩, k1, k2, k3, k4, k5, k6⟩ := h
  refine ⟨below_setCell (below_setCell h1 (by omega) _) (by omega) _, by simp [World.setCell]; omega, ?_, ?_, ?_, ?_, ?_, ?_, ?_, ?_, C_put (C_put k4 k6 (by omega)) k6 (by omega), k5, k6⟩ <;> clear h11 k4 h1 k6 h13 <;> simp [go_sem, *]
end Go.Proofs.YtiohgpcbdefokaaDoor.B
/- field.Reader: what it has left, and its methods. No condition. -/
namespace Go.Proofs.YtiohgpcbdefokaaDoor.B
open Go.RowKit Go.Proofs.YtiohgpcbdefokaaDoorW.PrintWords Go.Proofs.YtiohgpcbdefokaaDoor.RowLaws
/-- A reader at block g: what is left, and its error. -/
def RdAt (w : World) (g : Nat) (l : List Int) (e : Int) : Prop := ∃ A c, w.heap[g]? = some (.cells #[.slice A l.length c, .int .i64 e] 162 (0, 0)) ∧ l.length ≤ c ∧ ∀ W, Only g w W → Kd.C (Kd.int .u8) W A l.length l
theorem RdAt.lt {w : World} {g : Nat} {l : List Int} {e : Int} (h : RdAt w g l e) : g < w.heap.size := by
  obtain ⟨A, c, h0, _⟩ := h
  exact (Array.getElem?_eq_some_iff.1 h0).1
theorem RdAt.below {w W : World} {g : Nat} {l : List Int} {e : Int} (h : RdAt w g l e) (hb : Below w.heap.size w W) : RdAt W g l e := by
  have hg := h.lt
  obtain ⟨A, c, h0, h1, h2⟩ := h
  exact ⟨A, c, (hb.block g hg).trans h0, h1, fun W' ho => h2 W' ((Only.of_below hb).trans ho)⟩
theorem rd_new {w : World} {A : Option Addr} {c : Nat} {l : List Int} (h : Kd.C (Kd.int .u8) w A l.length l) (hc : l.length ≤ c) : RdAt (w.alloc (.cells #[.slice A l.length c, .int .i64 0] 162)) w.heap.size l 0 :=
  ⟨A, c, heap_alloc_new _ _, hc, fun W ho => Kd.C_below h ((Below.alloc (Below.refl w.heap.size w) (Nat.le_refl _) _).trans (ho.below (Nat.le_refl _) (by simp)))⟩
theorem RdAt.err {w : World} {g : Nat} {l : List Int} {e : Int} (h : RdAt w g l e) (x : Int) : RdAt (w.setCell ⟨g, 1, none⟩ (.int .i64 x)) g l x := by
  obtain ⟨A, c, h0, h1, h2⟩ := h
  exact ⟨A, c, by rw [blk_set h0]; rfl, h1, fun W ho => h2 W (((Only.refl g w).setCell rfl _).trans ho)⟩
theorem RdAt.to {w : World} {g : Nat} {l l' : List Int} {e : Int} {A' : Option Addr} {c' : Nat} (h : RdAt w g l e) (hc : l'.length ≤ c') (h2 : ∀ W, Only g w W → Kd.C (Kd.int .u8) W A' l'.length l') : RdAt (w.setCell ⟨g, 0, none⟩ (.slice A' l'.length c')) g l' e := by
  obtain ⟨A, c, h0, h1, _⟩ := h
  exact ⟨A', c', by rw [blk_set h0]; rfl, hc, fun W ho => h2 W (((Only.refl g w).setCell rfl _).trans ho)⟩
/-- The reader's cells. -/
theorem RdAt.open {w : World} {g : Nat} {l : List Int} {e : Int} (h : RdAt w g l e) : ∃ A c, w.cell? ⟨g, 0, none⟩ = some (.slice A l.length c) ∧ w.cell? ⟨g, 1, none⟩ = some (.int .i64 e) ∧ w.frozen? ⟨g, 0, none⟩ = false ∧ w.frozen? ⟨g, 1, none⟩ = false ∧ l.length ≤ c ∧ ∀ W, Only g w W → Kd.C (Kd.int .u8) W A l.length l := by
  obtain ⟨A, c, h0, h1, h2⟩ := h
  exact ⟨A, c, cell_of_row _ _ _ _ _ _ h0, cell_of_row _ _ _ _ _ _ h0, blk_frozen h0 _, blk_frozen h0 _, h1, h2⟩
/-- Taking bytes off, in plain words. -/
def rawF (l : List Int) (e n : Int) : List Int × List Int × Int := if e = 0 then (if n < 0 then ([], l, 2) else if (l.length : Int) < n then ([], l, 3) else (l.take n.toNat, l.drop n.toNat, 0)) else ([], l, e)
set_option linter.unusedVariables false in
set_option maxHeartbeats 4000000 in
set_option maxRecDepth 100000 in
theorem fail_calls (g : Nat) (l : List Int) (x : Int) (w : World) (h : RdAt w g l 0) :
    Calls Tryd.prog 113 #[.pointer (some ⟨g, 0, none⟩), .int .i64 x] w fun e w' => e = .returned (.bool (!decide (x = 0))) ∧ RdAt w' g l x ∧ Only g w w' := by
  have HR := Aside0.mk h
  obtain ⟨A, c, k0, k1, f0, f1, _, _⟩ := h.open
  clear h
  by_cases hx : x = 0
  · subst hx
    go_enter Tryd.func113, Tryd.ntmps113
    go_wp2
    go_ret
    exact ⟨by simp, HR.out, Only.refl _ _⟩
  · have hd : decide (x = 0) = false := decide_eq_false hx
    have hn : (x != 0) = true := bne_iff_ne.2 hx
    clear hx
    go_enter Tryd.func113, Tryd.ntmps113
    go_wp2
    go_ret
    exact ⟨by rw [hd]; rfl, HR.out.err x, (Only.refl _ _).setCell rfl _⟩
set_option linter.unusedVariables false in
set_option maxHeartbeats 4000000 in
set_option maxRecDepth 100000 in
theorem Raw_calls (g : Nat) (l : List Int) (e n : Int) (w : World) (h : RdAt w g l e) :
    Calls Tryd.prog 90 #[.pointer (some ⟨g, 0, none⟩), .int .i64 n] w fun x w' => x = .returned (.string (strOfNums (rawF l e n).1)) ∧ RdAt w' g (rawF l e n).2.1 (rawF l e n).2.2 ∧ Only g w w' := by
  have HR := Aside0.mk h
  obtain ⟨A, c, k0, k1, f0, f1, hc, hC⟩ := h.open
  clear h
  by_cases he : e = 0
  · subst he
    by_cases hn : n < 0
    · have HF := Aside0.mk (show rawF l 0 n = ([], l, 2) by unfold rawF; rw [if_pos rfl, if_pos hn])
      have hd : decide (n < 0) = true := decide_eq_true hn
      clear hn hC
      go_enter Tryd.func90, Tryd.ntmps90
      go_wp2_with (go_at_call 113; refine (fail_calls g l 2 _ HR.out).mono ?_; rintro x2 w2 ⟨rfl, hr2, ho2⟩; have HR2 := Aside0.mk hr2; have HO2 := Aside0.mk ho2; clear hr2 ho2)
      go_ret
      exact ⟨by rw [HF.out]; rfl, by rw [HF.out]; exact HR2.out, HO2.out⟩
    · by_cases hl : (l.length : Int) < n
      · have HF := Aside0.mk (show rawF l 0 n = ([], l, 3) by unfold rawF; rw [if_pos rfl, if_neg hn, if_pos hl])
        have hd : decide (n < 0) = false := decide_eq_false hn
        have hd2 : decide ((l.length : Int) < n) = true := decide_eq_true hl
        clear hn hC hl
        go_enter Tryd.func90, Tryd.ntmps90
        go_wp2_with (go_at_call 113; refine (fail_calls g l 3 _ HR.out).mono ?_; rintro x2 w2 ⟨rfl, hr2, ho2⟩; have HR2 := Aside0.mk hr2; have HO2 := Aside0.mk ho2; clear hr2 ho2)
        go_ret
        exact ⟨by rw [HF.out]; rfl, by rw [HF.out]; exact HR2.out, HO2.out⟩
      · have HF := Aside0.mk (show rawF l 0 n = (l.take n.toNat, l.drop n.toNat, 0) by unfold rawF; rw [if_pos rfl, if_neg hn, if_neg hl])
        obtain ⟨i010, hi010, _, hsz10, _⟩ := info_parts info5
        obtain ⟨ht1, ht2, ht3⟩ := print_take_of (P := Tryd.prog) (Value.int .u8) 0 22 5 .i64 Tryd.underlying22 hi010 hsz10 A c l n (by omega) (by omega) hc
        obtain ⟨A2, hd1, hd2, hd3⟩ := print_drop_of (P := Tryd.prog) (Value.int .u8) 0 22 5 .i64 Tryd.underlying22 hi010 hsz10 A c l n (by omega) (by omega) hc
        obtain ⟨y1, hy1⟩ : ∃ y, l.take n.toNat = y := ⟨_, rfl⟩
        obtain ⟨y2, hy2⟩ : ∃ y, l.drop n.toNat = y := ⟨_, rfl⟩
        rw [hy1] at ht1 ht2 ht3 HF
        rw [hy2] at hd1 hd2 hd3 HF
        clear hy1 hy2
        have hcv := Kd.C_string (P := Tryd.prog) (src := 22) (dst := 9) (c := c) Tryd.underlying22 Tryd.underlying5 Tryd.underlying9 (Kd.C_of_reads (h1 := fun _ => rfl) (ht2 w (Kd.reads_of_C (hC w (Only.refl _ _)))))
        have HC2 := Aside0.mk (show ∀ W, Only g w W → Kd.C (Kd.int .u8) W A2 y2.length y2 from fun W ho => Kd.C_of_reads (h1 := fun _ => rfl) (hd2 W (Kd.reads_of_C (hC W ho))))
        have HC3 := Aside0.mk hd3
        have hcut1 := ht1 w
        have hcut2 := hd1 w
        have hd4 : decide (n < 0) = false := decide_eq_false hn
        have hd5 : decide ((l.length : Int) < n) = false := decide_eq_false hl
        clear hn hC hl ht1 ht2 ht3 hd1 hd2 hd3 hi010 hsz10 hc
        go_enter Tryd.func90, Tryd.ntmps90
        go_wp2
        go_ret
        exact ⟨by rw [HF.out]; rfl, by rw [HF.out]; exact HR.out.to HC3.out HC2.out, (Only.refl _ _).setCell rfl _⟩
  · have HF := Aside0.mk (show rawF l e n = ([], l, e) by unfold rawF; rw [if_neg he])
    have hd : decide (e = 0) = false := decide_eq_false he
    have hn : (e != 0) = true := bne_iff_ne.2 he
    clear he hC
    go_enter Tryd.func90, Tryd.ntmps90
    go_wp2
    go_ret
    exact ⟨by rw [HF.out]; rfl, by rw [HF.out]; exact HR.out, Only.refl _ _⟩
end Go.Proofs.YtiohgpcbdefokaaDoor.B
/- field.Reader: Byte, Num, Done. No condition. -/
namespace Go.Proofs.YtiohgpcbdefokaaDoor.B
open Go.RowKit Go.Proofs.YtiohgpcbdefokaaDoorW.PrintWords Go.Proofs.YtiohgpcbdefokaaDoor.RowLaws
/-- What comes behind a look at a number. -/
def lookF (n u e most : Int) : Int × Int × Int := if e = 0 ∧ most < n then (0, 0, 5) else (n, u, e)
set_option linter.unusedVariables false in
set_option maxHeartbeats 4000000 in
set_option maxRecDepth 100000 in
theorem look_calls (k g : Nat) (l : List Int) (e0 most n u e1 : Int) (w : World) (h : RdAt w g l e0) (hs : varint_Shortest.f k l = some (n, u, e1)) :
    Calls Tryd.prog 112 #[.pointer (some ⟨g, 0, none⟩), .int .i64 most] w fun x w' => x = .returned (.tuple #[.int .i64 (lookF n u e1 most).1, .int .i64 (lookF n u e1 most).2.1, .int .i64 (lookF n u e1 most).2.2]) ∧ Below w.heap.size w w' := by
  obtain ⟨A, c, k0, k1, f0, f1, hc, hC⟩ := h.open
  have HCC := Aside0.mk (hC w (Only.refl _ _))
  have HC0 := Aside0.mk hc
  have HS := Aside0.mk hs
  clear h hc hC hs
  by_cases h1 : e1 = 0
  · subst h1
    by_cases h2 : most < n
    · have HF := Aside0.mk (show lookF n u 0 most = (0, 0, 5) by unfold lookF; rw [if_pos ⟨rfl, h2⟩])
      have hd : decide (most < n) = true := decide_eq_true h2
      clear h2
      go_enter Tryd.func112, Tryd.ntmps112
      go_wp2_with (go_at_call 125; refine (varint_Shortest.calls k A c l n u 0 _ HCC.out HC0.out HS.out).mono ?_; rintro x w2 ⟨rfl, hb2⟩; have HB2 := Aside0.mk hb2; clear hb2)
      go_ret3
      exact ⟨by rw [HF.out]; rfl, HB2.out⟩
    · have HF := Aside0.mk (show lookF n u 0 most = (n, u, 0) by unfold lookF; rw [if_neg (fun h => h2 h.2)])
      have hd : decide (most < n) = false := decide_eq_false h2
      clear h2
      go_enter Tryd.func112, Tryd.ntmps112
      go_wp2_with (go_at_call 125; refine (varint_Shortest.calls k A c l n u 0 _ HCC.out HC0.out HS.out).mono ?_; rintro x w2 ⟨rfl, hb2⟩; have HB2 := Aside0.mk hb2; clear hb2)
      go_ret3
      exact ⟨by rw [HF.out]; rfl, HB2.out⟩
  · have HF := Aside0.mk (show lookF n u e1 most = (n, u, e1) by unfold lookF; rw [if_neg (fun h => h1 h.1)])
    have hd : decide (e1 = 0) = false := decide_eq_false h1
    have hn : (e1 != 0) = true := bne_iff_ne.2 h1
    have hn2 : (e1 == 0) = false := by simp [h1]
    clear h1
    go_enter Tryd.func112, Tryd.ntmps112
    go_wp2_with (go_at_call 125; refine (varint_Shortest.calls k A c l n u e1 _ HCC.out HC0.out HS.out).mono ?_; rintro x w2 ⟨rfl, hb2⟩; have HB2 := Aside0.mk hb2; clear hb2)
    go_ret3
    exact ⟨by rw [HF.out]; rfl, HB2.out⟩
def numP (n u e1 : Int) (l : List Int) (most : Int) : Int × List Int × Int := if (lookF n u e1 most).2.2 = 0 then ((lookF n u e1 most).1, l.drop (lookF n u e1 most).2.1.toNat, 0) else (0, l, (lookF n u e1 most).2.2)
set_option linter.unusedVariables false in
set_option maxHeartbeats 4000000 in
set_option maxRecDepth 100000 in
theorem Num_calls (k g : Nat) (l : List Int) (most n u e1 : Int) (w : World) (h : RdAt w g l 0) (hs : varint_Shortest.f k l = some (n, u, e1)) (hu : e1 = 0 → 0 ≤ u ∧ u ≤ l.length) :
    Calls Tryd.prog 65 #[.pointer (some ⟨g, 0, none⟩), .int .i64 most] w fun x w' => x = .returned (.int .i64 (numP n u e1 l most).1) ∧ RdAt w' g (numP n u e1 l most).2.1 (numP n u e1 l most).2.2 ∧ Only g w w' := by
  have HR := Aside0.mk h
  obtain ⟨A, c, k0, k1, f0, f1, hc, hC⟩ := h.open
  obtain ⟨⟨q1, q2, q3⟩, hq⟩ : ∃ q, lookF n u e1 most = q := ⟨_, rfl⟩
  have HL := Aside0.mk (look_calls k g l 0 most n u e1 w h hs)
  rw [hq] at HL
  simp only at HL
  have hlt := h.lt
  by_cases h3 : q3 = 0
  · subst h3
    have HF := Aside0.mk (show numP n u e1 l most = (q1, l.drop q2.toNat, 0) by unfold numP; rw [hq]; rfl)
    have hu2 : 0 ≤ q2 ∧ q2 ≤ l.length := by
      unfold lookF at hq
      split at hq
      · cases hq
      · injection hq with _ hq
        injection hq with hq1 hq2
        rw [← hq1]; exact hu hq2
    have HU := Aside0.mk hu2
    obtain ⟨y2, hy2⟩ : ∃ y, l.drop q2.toNat = y := ⟨_, rfl⟩
    rw [hy2] at HF
    have HY := Aside0.mk hy2
    clear h hs hu hq hu2 hy2 hc hC
    go_enter Tryd.func65, Tryd.ntmps65
    go_wp2_with (first
      | (go_at_call 112; refine HL.out.mono ?_; rintro x w2 ⟨rfl, hb2⟩; have HB2 := Aside0.mk hb2; have HR2 := Aside0.mk (HR.out.below hb2); clear hb2)
      | (go_at_call 113; refine (fail_calls g l 0 _ HR2.out).mono ?_; rintro x w3 ⟨rfl, hr3, ho3⟩; have HO3 := Aside0.mk ((Only.of_below HB2.out).trans ho3); have HR3 := Aside0.mk hr3; obtain ⟨A', c', m0, m1, g0, g1, hc', hC'⟩ := hr3.open;
          obtain ⟨A2, hd1, hd2, hd3⟩ := print_drop_of (P := Tryd.prog) (Value.int .u8) 0 22 5 .i64 Tryd.underlying22 (info_parts info5).choose_spec.1 (info_parts info5).choose_spec.2.2.1 A' c' l q2 HU.out.1 HU.out.2 hc';
          rw [HY.out] at hd1 hd2 hd3;
          have HC2 := Aside0.mk (show ∀ W, Only g w3 W → Kd.C (Kd.int .u8) W A2 y2.length y2 from fun W ho => Kd.C_of_reads (h1 := fun _ => rfl) (hd2 W (Kd.reads_of_C (hC' W ho))));
          have HC3 := Aside0.mk hd3;
          have hcut := hd1 w3;
          clear hr3 ho3 hc' hC' hd1 hd2 hd3))
    go_ret
    exact ⟨by rw [HF.out]; rfl, by rw [HF.out]; exact HR3.out.to HC3.out HC2.out, HO3.out.setCell rfl _⟩
  · have HF := Aside0.mk (show numP n u e1 l most = (0, l, q3) by unfold numP; rw [hq]; simp only; rw [if_neg h3])
    have hd : decide (q3 = 0) = false := decide_eq_false h3
    clear h hs hu hq hc hC h3
    go_enter Tryd.func65, Tryd.ntmps65
    go_wp2_with (first
      | (go_at_call 112; refine HL.out.mono ?_; rintro x w2 ⟨rfl, hb2⟩; have HB2 := Aside0.mk hb2; have HR2 := Aside0.mk (HR.out.below hb2); clear hb2)
      | (go_at_call 113; refine (fail_calls g l q3 _ HR2.out).mono ?_; rintro x w3 ⟨rfl, hr3, ho3⟩; have HO3 := Aside0.mk ((Only.of_below HB2.out).trans ho3); have HR3 := Aside0.mk hr3; clear hr3 ho3))
    go_ret
    exact ⟨by rw [HF.out]; rfl, by rw [HF.out]; exact HR3.out, HO3.out⟩
end Go.Proofs.YtiohgpcbdefokaaDoor.B
/- field.New; field.Reader: Byte, Err, Done. No condition. -/
namespace Go.Proofs.YtiohgpcbdefokaaDoor.B
open Go.RowKit Go.Proofs.YtiohgpcbdefokaaDoorW.PrintWords Go.Proofs.YtiohgpcbdefokaaDoor.RowLaws
set_option linter.unusedVariables false in
set_option maxHeartbeats 4000000 in
set_option maxRecDepth 100000 in
theorem New_calls (A : Option Addr) (c : Nat) (l : List Int) (w : World) (hC : Kd.C (Kd.int .u8) w A l.length l) (hc : l.length ≤ c) :
    Calls Tryd.prog 62 #[.slice A l.length c] w fun x w' => x = .returned (.pointer (some ⟨w.heap.size, 0, none⟩)) ∧ RdAt w' w.heap.size l 0 ∧ Below w.heap.size w w' := by
  have HC := Aside0.mk (rd_new hC hc)
  clear hC hc
  go_enter Tryd.func62, Tryd.ntmps62
  go_wp2
  go_ret
  exact ⟨rfl, HC.out, below_alloc (Below.refl _ _) _⟩
set_option linter.unusedVariables false in
set_option maxHeartbeats 4000000 in
set_option maxRecDepth 100000 in
theorem Byte_calls (g : Nat) (x : Int) (l : List Int) (w : World) (h : RdAt w g (x :: l) 0) (h0 : 0 ≤ x) (h1 : x < 256) :
    Calls Tryd.prog 89 #[.pointer (some ⟨g, 0, none⟩)] w fun e w' => e = .returned (.int .u8 x) ∧ RdAt w' g l 0 ∧ Only g w w' := by
  have HF := Aside0.mk (show rawF (x :: l) 0 1 = ([x], l, 0) by unfold rawF; rw [if_pos rfl, if_neg (by decide), if_neg (by simp only [List.length_cons]; omega)]; rfl)
  have HRW := Aside0.mk (Raw_calls g (x :: l) 0 1 w h)
  rw [HF.out] at HRW
  have hs : strOfNums [x] = ⟨#[x.toNat.toUInt8]⟩ := rfl
  have hx : ((x.toNat.toUInt8).toNat : Int) = x := by
    rw [UInt8.toNat_ofNat']
    omega
  have HX := Aside0.mk hx
  rw [hs] at HRW
  clear h h0 h1 HF hs hx
  go_enter Tryd.func89, Tryd.ntmps89
  go_wp2_with (go_at_call 90; refine HRW.out.mono ?_; rintro e w2 ⟨rfl, hr2, ho2⟩; have HR2 := Aside0.mk hr2; have HO2 := Aside0.mk ho2; clear hr2 ho2)
  go_ret
  exact ⟨show Ending.returned (Value.int .u8 ((x.toNat.toUInt8).toNat : Int)) = _ by rw [HX.out], HR2.out, HO2.out⟩
set_option linter.unusedVariables false in
set_option maxHeartbeats 4000000 in
set_option maxRecDepth 100000 in
theorem Err_calls (g : Nat) (l : List Int) (e : Int) (w : World) (h : RdAt w g l e) :
    Calls Tryd.prog 114 #[.pointer (some ⟨g, 0, none⟩)] w fun x w' => x = .returned (.int .i64 e) ∧ Below w.heap.size w w' := by
  obtain ⟨A, c, k0, k1, f0, f1, hc, hC⟩ := h.open
  clear h hc hC
  go_enter Tryd.func114, Tryd.ntmps114
  go_wp2
  go_ret
  exact ⟨rfl, Below.refl _ _⟩
def doneF (l : List Int) (e : Int) : Int := if e = 0 then (if l = [] then 0 else 4) else e
set_option linter.unusedVariables false in
set_option maxHeartbeats 4000000 in
set_option maxRecDepth 100000 in
theorem Done_calls (g : Nat) (l : List Int) (e : Int) (w : World) (h : RdAt w g l e) :
    Calls Tryd.prog 66 #[.pointer (some ⟨g, 0, none⟩)] w fun x w' => x = .returned (.int .i64 (doneF l e)) ∧ Below w.heap.size w w' := by
  have HR := Aside0.mk h
  have HE := Aside0.mk (Err_calls g l e w h)
  clear h
  by_cases he : e = 0
  · subst he
    cases l with
    | nil =>
      go_enter Tryd.func66, Tryd.ntmps66
      go_wp2_with (go_at_call 114; refine HE.out.mono ?_; rintro x w2 ⟨rfl, hb2⟩; have HB2 := Aside0.mk hb2; obtain ⟨A, c, k0, k1, f0, f1, _, _⟩ := (HR.out.below hb2).open; clear hb2)
      go_ret
      exact ⟨rfl, HB2.out⟩
    | cons y l =>
      have HF := Aside0.mk (show doneF (y :: l) 0 = 4 by unfold doneF; rw [if_pos rfl, if_neg (by simp)])
      have hl : (0 : Int) < ((y :: l).length : Int) := by simp only [List.length_cons]; omega
      obtain ⟨n, hn⟩ : ∃ n, (y :: l).length = n := ⟨_, rfl⟩
      rw [hn] at hl
      have HN := Aside0.mk hn
      clear hn
      go_enter Tryd.func66, Tryd.ntmps66
      go_wp2_with (go_at_call 114; refine HE.out.mono ?_; rintro x w2 ⟨rfl, hb2⟩; have HB2 := Aside0.mk hb2; obtain ⟨A, c, k0, k1, f0, f1, _, _⟩ := (HR.out.below hb2).open; rw [HN.out] at k0; clear hb2)
      go_ret
      exact ⟨by rw [HF.out]; rfl, HB2.out⟩
  · have HF := Aside0.mk (show doneF l e = e by unfold doneF; rw [if_neg he])
    have hd : decide (e = 0) = false := decide_eq_false he
    have hn : (e != 0) = true := bne_iff_ne.2 he
    clear he
    go_enter Tryd.func66, Tryd.ntmps66
    go_wp2_with (go_at_call 114; refine HE.out.mono ?_; rintro x w2 ⟨rfl, hb2⟩; have HB2 := Aside0.mk hb2; clear hb2)
    go_ret
    exact ⟨by rw [HF.out]; rfl, HB2.out⟩
end Go.Proofs.YtiohgpcbdefokaaDoor.B
/- record.Check: whether a record may be. No condition. -/
namespace Go.Proofs.YtiohgpcbdefokaaDoor.B
open Go.RowKit Go.Proofs.YtiohgpcbdefokaaDoorW.PrintWords
attribute [local go_sem ↓ high] lvO_hs ldO_hs stO_hs lvO_pt ldO_pt stO_pt zero_pt eqA_pt lvO_ptR ldO_ptR stO_ptR zero_ptR eqA_ptR lvO_rc ldO_rc stO_rc zero_rc eqA_rc lvO_rcR ldO_rcR stO_rcR zero_rcR eqA_rcR lvO_tk ldO_tk stO_tk zero_tk eqA_tk lvO_tkR ldO_tkR stO_tkR zero_tkR eqA_tkR lvO_it ldO_it stO_it zero_it eqA_it blO_pt blO_ptR blO_rc blO_rcR blO_tk blO_tkR blO_it bsO_pt bsO_ptR bsO_rc bsO_rcR bsO_it
attribute [local go_sem high] rowAt_setCell rowAt_setRow cell_setRow_ne isRow_setRow_ne rowAt_alloc rowAt_drew isRow_alloc isRow_drew isRow_setCell rowRun_some okL_hs ldV_hs ldA_hs stA_hs setRow_alloc get_pt_id get_pt_path cut_pt_sum get_pt_size get_pt_off cut_pt okL_pt size_pt lenb_pt eta_pt ldV_pt ldA_pt stA_pt ldV_ptR ldA_ptR stA_ptR get_rc_kind get_rc_id get_rc_path cut_rc_sum get_rc_size get_rc_off cut_rc okL_rc size_rc lenb_rc eta_rc ldV_rc ldA_rc stA_rc ldV_rcR ldA_rcR stA_rcR get_tk_path cut_tk_sum get_tk_size get_tk_off cut_tk_old cut_tk okL_tk size_tk lenb_tk eta_tk ldV_tk ldA_tk stA_tk ldV_tkR ldA_tkR stA_tkR get_it_path get_it_dir get_it_size cut_it_sum cut_it okL_it size_it lenb_it eta_it ldV_it ldA_it stA_it bld_pt_01234 bld_pt_0123 bld_pt_z bld_ptR_01234 bld_ptR_0123 bld_ptR_z bld_rc_012345 bld_rc_015 bld_rc_01 bld_rc_z bld_rc_01234 bld_rc_24 bld_rc_05 bld_rc_0 bld_rcR_012345 bld_rcR_015 bld_rcR_01 bld_rcR_z bld_rcR_01234 bld_rcR_24 bld_rcR_05 bld_rcR_0 bld_tk_01234 bld_tk_0 bld_tk_z bld_tkR_01234 bld_tkR_0 bld_tkR_z bld_it_0123 bld_it_023 bld_it_01 bld_it_0 bld_it_z bs0_pt bs1_pt bs0_ptR bs1_ptR bs0_rc bs1_rc bs0_rcR bs1_rcR bs0_it bs1_it
theorem split_total (s : ByteArray) (hs : s.size < 4294967281) : ∃ l : List ByteArray, path_Split.f s = some l := by
  unfold path_Split.f
  by_cases h : s.toList = []
  · rw [if_pos h]; exact ⟨_, rfl⟩
  · rw [if_neg h]
    unfold strings_Split.f
    rw [if_pos hs, if_pos (by decide), Option.bind_some]
    exact ⟨_, rfl⟩
theorem check_total (p : ByteArray) : ∃ e, path_Check.f p = some e := by
  unfold path_Check.f
  by_cases h : (p.size : Int) > 128
  · rw [if_pos h]; exact ⟨_, rfl⟩
  · rw [if_neg h]
    obtain ⟨l, hl⟩ := split_total p (by omega)
    rw [hl, Option.bind_some]
    split
    · exact ⟨_, rfl⟩
    · split
      · exact ⟨_, rfl⟩
      · split <;> exact ⟨_, rfl⟩
theorem resv_total (p : ByteArray) : ∃ b, path_Reserved.f p = some b := by
  unfold path_Reserved.f strings_HasPrefix.f stringslite_HasPrefix.f
  have h0 : (⟨#[46, 115, 117, 109, 112, 116, 101, 114]⟩ : ByteArray).size = 8 := rfl
  by_cases h : (p.size : Int) ≥ ((⟨#[46, 115, 117, 109, 112, 116, 101, 114]⟩ : ByteArray).size : Int)
  · rw [if_pos h, if_pos (by omega), if_pos (by omega), Option.bind_some]
    exact ⟨_, rfl⟩
  · rw [if_neg h, Option.bind_some]
    exact ⟨_, rfl⟩
/-- What path.Check, path.Reserved tell of a path. -/
def pathE (p : ByteArray) : Int := (path_Check.f p).getD 0
def resv (p : ByteArray) : Bool := (path_Reserved.f p).getD false
theorem pathE_eq (p : ByteArray) : path_Check.f p = some (pathE p) := by
  obtain ⟨e, he⟩ := check_total p
  unfold pathE; rw [he]; rfl
theorem resv_eq (p : ByteArray) : path_Reserved.f p = some (resv p) := by
  obtain ⟨e, he⟩ := resv_total p
  unfold resv; rw [he]; rfl
def sizeB (n : Int) : Bool := decide (0 ≤ n ∧ n ≤ 65536)
theorem sizeB_eq (n : Int) : record_size.f n = some (sizeB n) := by
  unfold record_size.f sizeB
  by_cases h : n ≥ 0
  · rw [if_pos h]; simp [h]
  · rw [if_neg h]; simp; omega
def beginE (r : Rc) : Int := if pathE r.path = 0 then (if resv r.path = true then 6 else if sizeB r.size = true then 0 else 13) else pathE r.path
def offE (r : Rc) : Int := if sizeB r.off = true then (if r.off = 0 ∨ r.kind = 1 then 0 else 4) else 13
def bareRc (r : Rc) : Rc := ⟨r.kind, r.id, ByteArray.empty, Hs.zero, 0, r.off⟩
def chkE (r : Rc) : Int := if 4 < r.kind ∨ r.id < 0 ∨ 1099511627776 < r.id then 2 else if r.kind = 0 then (if beginE r = 0 then offE r else beginE r) else if r = bareRc r then offE r else 4
theorem bcell0 {W w1 : World} (hb : Below W.heap.size W w1) : (∀ b o, b < W.heap.size → w1.cell? ⟨b, o, none⟩ = W.cell? ⟨b, o, none⟩) ∧ (∀ b o, b < W.heap.size → w1.frozen? ⟨b, o, none⟩ = W.frozen? ⟨b, o, none⟩) :=
  ⟨fun b o h => hb.cell (p := ⟨b, o, none⟩) h, fun b o h => hb.frozen (p := ⟨b, o, none⟩) h⟩
set_option linter.unusedVariables false in
set_option maxHeartbeats 4000000 in
set_option maxRecDepth 100000 in
theorem begin_calls (r : Rc) (w : World) (hT : TabOK w) :
    Calls Tryd.prog 77 #[.agg (rcL r).toArray] w fun e w' => e = .returned (.int .i64 (beginE r)) ∧ Below w.heap.size w w' := by
  have HT := Aside0.mk hT
  clear hT
  have hp := pathE_eq r.path
  by_cases h0 : pathE r.path = 0
  · rw [h0] at hp
    have HP := Aside0.mk hp
    clear hp
    have hr := resv_eq r.path
    cases h1 : resv r.path with
    | true =>
      rw [h1] at hr
      have HR := Aside0.mk hr
      have HE := Aside0.mk (show beginE r = 6 by unfold beginE; rw [if_pos h0, if_pos h1])
      clear hr h0 h1
      go_enter Tryd.func77, Tryd.ntmps77
      go_wp2_with (first | (go_at_call 59; refine (path_Check.calls r.path 0 _ (HT.out.below ?_) HP.out).mono ?_; (exact below_alloc (Below.refl _ _) _); rintro e w2 ⟨rfl, hb2⟩; obtain ⟨hcl, hfz⟩ := bcell0 hb2; have c2_2 : w2.cell? ⟨w.heap.size, 2, none⟩ = some (.string r.path) := (by rw [hcl _ _ (by simp)]; first | (go_simp; done) | (simp [*]; done)); have c2_4 : w2.cell? ⟨w.heap.size, 35, none⟩ = some (.int .i64 r.size) := (by rw [hcl _ _ (by simp)]; first | (go_simp; done) | (simp [*]; done)); have HB2 := Aside0.mk (Below.trans (below_alloc (Below.refl w.heap.size w) _) (hb2.mono (by simp))); clear hb2 hcl hfz) | (go_at_call 60; refine (path_Reserved.calls r.path true _ HR.out).mono ?_; rintro e w3 ⟨rfl, ⟨n3, rfl⟩⟩))
      go_ret
      exact ⟨by rw [HE.out]; rfl, by (repeat' (first | exact HB2.out | (with_reducible refine below_setCell ?_ ?_ _) | (with_reducible refine below_setRow ?_ ?_ _) | (with_reducible refine Below.alloc ?_ ?_ _) | (with_reducible refine below_drew ?_) | (with_reducible refine pw_below_drewN ?_ _) | (with_reducible exact Below.refl _ _) | omega | (simp; done) | (simp; omega)))⟩
    | false =>
      rw [h1] at hr
      have HR := Aside0.mk hr
      have hs := sizeB_eq r.size
      cases h2 : sizeB r.size with
      | true =>
        rw [h2] at hs
        have HS := Aside0.mk hs
        have HE := Aside0.mk (show beginE r = 0 by unfold beginE; rw [if_pos h0, if_neg (by rw [h1]; decide), if_pos h2])
        clear hr h0 h1 h2 hs
        go_enter Tryd.func77, Tryd.ntmps77
        go_wp2_with (first | (go_at_call 59; refine (path_Check.calls r.path 0 _ (HT.out.below ?_) HP.out).mono ?_; (exact below_alloc (Below.refl _ _) _); rintro e w2 ⟨rfl, hb2⟩; obtain ⟨hcl, hfz⟩ := bcell0 hb2; have c2_2 : w2.cell? ⟨w.heap.size, 2, none⟩ = some (.string r.path) := (by rw [hcl _ _ (by simp)]; first | (go_simp; done) | (simp [*]; done)); have c2_4 : w2.cell? ⟨w.heap.size, 35, none⟩ = some (.int .i64 r.size) := (by rw [hcl _ _ (by simp)]; first | (go_simp; done) | (simp [*]; done)); have HB2 := Aside0.mk (Below.trans (below_alloc (Below.refl w.heap.size w) _) (hb2.mono (by simp))); clear hb2 hcl hfz) | (go_at_call 60; refine (path_Reserved.calls r.path false _ HR.out).mono ?_; rintro e w3 ⟨rfl, ⟨n3, rfl⟩⟩) | (go_at_call 78; refine (record_size.calls r.size true _ HS.out).mono ?_; rintro e w4 ⟨rfl, ⟨n4, rfl⟩⟩))
        go_ret
        exact ⟨by rw [HE.out]; rfl, by (repeat' (first | exact HB2.out | (with_reducible refine below_setCell ?_ ?_ _) | (with_reducible refine below_setRow ?_ ?_ _) | (with_reducible refine Below.alloc ?_ ?_ _) | (with_reducible refine below_drew ?_) | (with_reducible refine pw_below_drewN ?_ _) | (with_reducible exact Below.refl _ _) | omega | (simp; done) | (simp; omega)))⟩
      | false =>
        rw [h2] at hs
        have HS := Aside0.mk hs
        have HE := Aside0.mk (show beginE r = 13 by unfold beginE; rw [if_pos h0, if_neg (by rw [h1]; decide), if_neg (by rw [h2]; decide)])
        clear hr h0 h1 h2 hs
        go_enter Tryd.func77, Tryd.ntmps77
        go_wp2_with (first | (go_at_call 59; refine (path_Check.calls r.path 0 _ (HT.out.below ?_) HP.out).mono ?_; (exact below_alloc (Below.refl _ _) _); rintro e w2 ⟨rfl, hb2⟩; obtain ⟨hcl, hfz⟩ := bcell0 hb2; have c2_2 : w2.cell? ⟨w.heap.size, 2, none⟩ = some (.string r.path) := (by rw [hcl _ _ (by simp)]; first | (go_simp; done) | (simp [*]; done)); have c2_4 : w2.cell? ⟨w.heap.size, 35, none⟩ = some (.int .i64 r.size) := (by rw [hcl _ _ (by simp)]; first | (go_simp; done) | (simp [*]; done)); have HB2 := Aside0.mk (Below.trans (below_alloc (Below.refl w.heap.size w) _) (hb2.mono (by simp))); clear hb2 hcl hfz) | (go_at_call 60; refine (path_Reserved.calls r.path false _ HR.out).mono ?_; rintro e w3 ⟨rfl, ⟨n3, rfl⟩⟩) | (go_at_call 78; refine (record_size.calls r.size false _ HS.out).mono ?_; rintro e w4 ⟨rfl, ⟨n4, rfl⟩⟩))
        go_ret
        exact ⟨by rw [HE.out]; rfl, by (repeat' (first | exact HB2.out | (with_reducible refine below_setCell ?_ ?_ _) | (with_reducible refine below_setRow ?_ ?_ _) | (with_reducible refine Below.alloc ?_ ?_ _) | (with_reducible refine below_drew ?_) | (with_reducible refine pw_below_drewN ?_ _) | (with_reducible exact Below.refl _ _) | omega | (simp; done) | (simp; omega)))⟩
  · have HP := Aside0.mk hp
    have hd : decide (pathE r.path = 0) = false := decide_eq_false h0
    have hdn : (pathE r.path != 0) = true := bne_iff_ne.2 h0
    have HE := Aside0.mk (show beginE r = pathE r.path by unfold beginE; rw [if_neg h0])
    clear hp h0
    go_enter Tryd.func77, Tryd.ntmps77
    go_wp2_with (first | (go_at_call 59; refine (path_Check.calls r.path (pathE r.path) _ (HT.out.below ?_) HP.out).mono ?_; (exact below_alloc (Below.refl _ _) _); rintro e w2 ⟨rfl, hb2⟩; obtain ⟨hcl, hfz⟩ := bcell0 hb2; have c2_2 : w2.cell? ⟨w.heap.size, 2, none⟩ = some (.string r.path) := (by rw [hcl _ _ (by simp)]; first | (go_simp; done) | (simp [*]; done)); have c2_4 : w2.cell? ⟨w.heap.size, 35, none⟩ = some (.int .i64 r.size) := (by rw [hcl _ _ (by simp)]; first | (go_simp; done) | (simp [*]; done)); have HB2 := Aside0.mk (Below.trans (below_alloc (Below.refl w.heap.size w) _) (hb2.mono (by simp))); clear hb2 hcl hfz))
    go_ret
    exact ⟨by rw [HE.out]; rfl, by (repeat' (first | exact HB2.out | (with_reducible refine below_setCell ?_ ?_ _) | (with_reducible refine below_setRow ?_ ?_ _) | (with_reducible refine Below.alloc ?_ ?_ _) | (with_reducible refine below_drew ?_) | (with_reducible refine pw_below_drewN ?_ _) | (with_reducible exact Below.refl _ _) | omega | (simp; done) | (simp; omega)))⟩
set_option linter.unusedVariables false in
set_option maxHeartbeats 4000000 in
set_option maxRecDepth 100000 in
theorem Check_kind (r : Rc) (w : World) (h : 4 < r.kind) :
    Calls Tryd.prog 26 #[.agg (rcL r).toArray] w fun e w' => e = .returned (.int .i64 (chkE r)) ∧ Below w.heap.size w w' := by
  have HE := Aside0.mk (show chkE r = 2 by unfold chkE; rw [if_pos (.inl h)])
  have hd : decide (4 < r.kind) = true := decide_eq_true h
  clear h
  go_enter Tryd.func26, Tryd.ntmps26
  go_wp2
  go_ret
  exact ⟨by rw [HE.out]; rfl, by (repeat' (first | exact Below.refl _ _ | (with_reducible refine below_setCell ?_ ?_ _) | (with_reducible refine below_setRow ?_ ?_ _) | (with_reducible refine Below.alloc ?_ ?_ _) | (with_reducible refine below_drew ?_) | (with_reducible refine pw_below_drewN ?_ _) | (with_reducible exact Below.refl _ _) | omega | (simp; done) | (simp; omega)))⟩
set_option linter.unusedVariables false in
set_option maxHeartbeats 4000000 in
set_option maxRecDepth 100000 in
theorem Check_low (r : Rc) (w : World) (h0 : ¬ 4 < r.kind) (h : r.id < 0) :
    Calls Tryd.prog 26 #[.agg (rcL r).toArray] w fun e w' => e = .returned (.int .i64 (chkE r)) ∧ Below w.heap.size w w' := by
  have HE := Aside0.mk (show chkE r = 2 by unfold chkE; rw [if_pos (.inr (.inl h))])
  have hd : decide (4 < r.kind) = false := decide_eq_false h0
  have hd2 : decide (r.id < 0) = true := decide_eq_true h
  clear h h0
  go_enter Tryd.func26, Tryd.ntmps26
  go_wp2
  go_ret
  exact ⟨by rw [HE.out]; rfl, by (repeat' (first | exact Below.refl _ _ | (with_reducible refine below_setCell ?_ ?_ _) | (with_reducible refine below_setRow ?_ ?_ _) | (with_reducible refine Below.alloc ?_ ?_ _) | (with_reducible refine below_drew ?_) | (with_reducible refine pw_below_drewN ?_ _) | (with_reducible exact Below.refl _ _) | omega | (simp; done) | (simp; omega)))⟩
set_option linter.unusedVariables false in
set_option maxHeartbeats 4000000 in
set_option maxRecDepth 100000 in
theorem Check_high (r : Rc) (w : World) (h0 : ¬ 4 < r.kind) (h1 : ¬ r.id < 0) (h : 1099511627776 < r.id) :
    Calls Tryd.prog 26 #[.agg (rcL r).toArray] w fun e w' => e = .returned (.int .i64 (chkE r)) ∧ Below w.heap.size w w' := by
  have HE := Aside0.mk (show chkE r = 2 by unfold chkE; rw [if_pos (.inr (.inr h))])
  have hd : decide (4 < r.kind) = false := decide_eq_false h0
  have hd2 : decide (r.id < 0) = false := decide_eq_false h1
  have hd3 : decide (1099511627776 < r.id) = true := decide_eq_true h
  clear h h0 h1
  go_enter Tryd.func26, Tryd.ntmps26
  go_wp2
  go_ret
  exact ⟨by rw [HE.out]; rfl, by (repeat' (first | exact Below.refl _ _ | (with_reducible refine below_setCell ?_ ?_ _) | (with_reducible refine below_setRow ?_ ?_ _) | (with_reducible refine Below.alloc ?_ ?_ _) | (with_reducible refine below_drew ?_) | (with_reducible refine pw_below_drewN ?_ _) | (with_reducible exact Below.refl _ _) | omega | (simp; done) | (simp; omega)))⟩
set_option linter.unusedVariables false in
set_option maxHeartbeats 4000000 in
set_option maxRecDepth 100000 in
theorem Check_b1 (r : Rc) (w : World) (hT : TabOK w) (h0 : ¬ 4 < r.kind) (h1 : ¬ r.id < 0) (h2 : ¬ 1099511627776 < r.id) (hk : r.kind = 0) (hb : ¬ beginE r = 0) :
    Calls Tryd.prog 26 #[.agg (rcL r).toArray] w fun e w' => e = .returned (.int .i64 (chkE r)) ∧ Below w.heap.size w w' := by
  have HT := Aside0.mk hT
  clear hT
  have HE := Aside0.mk (show chkE r = beginE r by unfold chkE; rw [if_neg (fun h => h.elim h0 (fun h => h.elim h1 h2))]; rw [if_pos hk, if_neg hb])
  have HBE := Aside0.mk (show beginE r = beginE r from rfl)
  have hd4 : decide (beginE r = 0) = false := decide_eq_false hb
  have hd4n : (beginE r != 0) = true := bne_iff_ne.2 hb
  clear hb
  have hd : decide (4 < r.kind) = false := decide_eq_false h0
  have hd2 : decide (r.id < 0) = false := decide_eq_false h1
  have hd3 : decide (1099511627776 < r.id) = false := decide_eq_false h2
  clear h0 h1 h2
  go_enter Tryd.func26, Tryd.ntmps26
  go_wp2_with (first | (go_at_call 77; refine (begin_calls r _ (HT.out.below ?_)).mono ?_; (exact below_alloc (below_alloc (Below.refl _ _) _) _); rintro e w2 ⟨rfl, hb2⟩; rw [HBE.out]; obtain ⟨hcl, hfz⟩ := bcell0 hb2; have c2_0 : w2.cell? ⟨w.heap.size, 0, none⟩ = some (.int .u8 r.kind) := (by rw [hcl _ _ (by simp; try omega)]; first | (go_simp; done) | (simp [*]; done)); have c2_5 : w2.cell? ⟨w.heap.size, 36, none⟩ = some (.int .i64 r.off) := (by rw [hcl _ _ (by simp; try omega)]; first | (go_simp; done) | (simp [*]; done)); have HB2 := Aside0.mk (Below.trans (below_alloc (below_alloc (Below.refl w.heap.size w) _) _) (hb2.mono (by simp; try omega))); clear hb2 hcl hfz))
  go_ret
  exact ⟨by rw [HE.out]; rfl, by (repeat' (first | exact HB2.out | (with_reducible refine below_setCell ?_ ?_ _) | (with_reducible refine below_setRow ?_ ?_ _) | (with_reducible refine Below.alloc ?_ ?_ _) | (with_reducible refine below_drew ?_) | (with_reducible refine pw_below_drewN ?_ _) | (with_reducible exact Below.refl _ _) | omega | (simp; done) | (simp; omega)))⟩
set_option linter.unusedVariables false in
set_option maxHeartbeats 4000000 in
set_option maxRecDepth 100000 in
theorem Check_b2 (r : Rc) (w : World) (hT : TabOK w) (h0 : ¬ 4 < r.kind) (h1 : ¬ r.id < 0) (h2 : ¬ 1099511627776 < r.id) (hk : r.kind = 0) (hb : beginE r = 0) (hs0 : sizeB r.off = false) :
    Calls Tryd.prog 26 #[.agg (rcL r).toArray] w fun e w' => e = .returned (.int .i64 (chkE r)) ∧ Below w.heap.size w w' := by
  have HT := Aside0.mk hT
  clear hT
  have HE := Aside0.mk (show chkE r = 13 by unfold chkE; rw [if_neg (fun h => h.elim h0 (fun h => h.elim h1 h2))]; rw [if_pos hk, if_pos hb]; unfold offE; rw [if_neg (by rw [hs0]; decide)])
  have HBE := Aside0.mk hb
  clear hb
  have hd : decide (4 < r.kind) = false := decide_eq_false h0
  have hd2 : decide (r.id < 0) = false := decide_eq_false h1
  have hd3 : decide (1099511627776 < r.id) = false := decide_eq_false h2
  clear h0 h1 h2
  have hs := sizeB_eq r.off
  rw [hs0] at hs
  have HS := Aside0.mk hs
  clear hs hs0
  go_enter Tryd.func26, Tryd.ntmps26
  go_wp2_with (first | (go_at_call 77; refine (begin_calls r _ (HT.out.below ?_)).mono ?_; (exact below_alloc (below_alloc (Below.refl _ _) _) _); rintro e w2 ⟨rfl, hb2⟩; rw [HBE.out]; obtain ⟨hcl, hfz⟩ := bcell0 hb2; have c2_0 : w2.cell? ⟨w.heap.size, 0, none⟩ = some (.int .u8 r.kind) := (by rw [hcl _ _ (by simp; try omega)]; first | (go_simp; done) | (simp [*]; done)); have c2_5 : w2.cell? ⟨w.heap.size, 36, none⟩ = some (.int .i64 r.off) := (by rw [hcl _ _ (by simp; try omega)]; first | (go_simp; done) | (simp [*]; done)); have HB2 := Aside0.mk (Below.trans (below_alloc (below_alloc (Below.refl w.heap.size w) _) _) (hb2.mono (by simp; try omega))); clear hb2 hcl hfz) | (go_at_call 78; refine (record_size.calls r.off false _ HS.out).mono ?_; rintro e w4 ⟨rfl, ⟨n4, rfl⟩⟩))
  go_ret
  exact ⟨by rw [HE.out]; rfl, by (repeat' (first | exact HB2.out | (with_reducible refine below_setCell ?_ ?_ _) | (with_reducible refine below_setRow ?_ ?_ _) | (with_reducible refine Below.alloc ?_ ?_ _) | (with_reducible refine below_drew ?_) | (with_reducible refine pw_below_drewN ?_ _) | (with_reducible exact Below.refl _ _) | omega | (simp; done) | (simp; omega)))⟩
set_option linter.unusedVariables false in
set_option maxHeartbeats 4000000 in
set_option maxRecDepth 100000 in
theorem Check_b3 (r : Rc) (w : World) (hT : TabOK w) (h0 : ¬ 4 < r.kind) (h1 : ¬ r.id < 0) (h2 : ¬ 1099511627776 < r.id) (hk : r.kind = 0) (hb : beginE r = 0) (hs0 : sizeB r.off = true) (hz : ¬ r.off = 0) :
    Calls Tryd.prog 26 #[.agg (rcL r).toArray] w fun e w' => e = .returned (.int .i64 (chkE r)) ∧ Below w.heap.size w w' := by
  have HT := Aside0.mk hT
  clear hT
  have HE := Aside0.mk (show chkE r = 4 by unfold chkE; rw [if_neg (fun h => h.elim h0 (fun h => h.elim h1 h2))]; rw [if_pos hk, if_pos hb]; unfold offE; rw [if_pos hs0, if_neg (fun h => h.elim hz (fun h => by omega))])
  have HBE := Aside0.mk hb
  have hd5 : decide (r.off = 0) = false := decide_eq_false hz
  have hd5n : (r.off != 0) = true := bne_iff_ne.2 hz
  clear hb hz
  have hd : decide (4 < r.kind) = false := decide_eq_false h0
  have hd2 : decide (r.id < 0) = false := decide_eq_false h1
  have hd3 : decide (1099511627776 < r.id) = false := decide_eq_false h2
  clear h0 h1 h2
  have hs := sizeB_eq r.off
  rw [hs0] at hs
  have HS := Aside0.mk hs
  clear hs hs0
  go_enter Tryd.func26, Tryd.ntmps26
  go_wp2_with (first | (go_at_call 77; refine (begin_calls r _ (HT.out.below ?_)).mono ?_; (exact below_alloc (below_alloc (Below.refl _ _) _) _); rintro e w2 ⟨rfl, hb2⟩; rw [HBE.out]; obtain ⟨hcl, hfz⟩ := bcell0 hb2; have c2_0 : w2.cell? ⟨w.heap.size, 0, none⟩ = some (.int .u8 r.kind) := (by rw [hcl _ _ (by simp; try omega)]; first | (go_simp; done) | (simp [*]; done)); have c2_5 : w2.cell? ⟨w.heap.size, 36, none⟩ = some (.int .i64 r.off) := (by rw [hcl _ _ (by simp; try omega)]; first | (go_simp; done) | (simp [*]; done)); have HB2 := Aside0.mk (Below.trans (below_alloc (below_alloc (Below.refl w.heap.size w) _) _) (hb2.mono (by simp; try omega))); clear hb2 hcl hfz) | (go_at_call 78; refine (record_size.calls r.off true _ HS.out).mono ?_; rintro e w4 ⟨rfl, ⟨n4, rfl⟩⟩))
  go_ret
  exact ⟨by rw [HE.out]; rfl, by (repeat' (first | exact HB2.out | (with_reducible refine below_setCell ?_ ?_ _) | (with_reducible refine below_setRow ?_ ?_ _) | (with_reducible refine Below.alloc ?_ ?_ _) | (with_reducible refine below_drew ?_) | (with_reducible refine pw_below_drewN ?_ _) | (with_reducible exact Below.refl _ _) | omega | (simp; done) | (simp; omega)))⟩
set_option linter.unusedVariables false in
set_option maxHeartbeats 4000000 in
set_option maxRecDepth 100000 in
theorem Check_b4 (r : Rc) (w : World) (hT : TabOK w) (h0 : ¬ 4 < r.kind) (h1 : ¬ r.id < 0) (h2 : ¬ 1099511627776 < r.id) (hk : r.kind = 0) (hb : beginE r = 0) (hs0 : sizeB r.off = true) (hz : r.off = 0) :
    Calls Tryd.prog 26 #[.agg (rcL r).toArray] w fun e w' => e = .returned (.int .i64 (chkE r)) ∧ Below w.heap.size w w' := by
  have HT := Aside0.mk hT
  clear hT
  have HE := Aside0.mk (show chkE r = 0 by unfold chkE; rw [if_neg (fun h => h.elim h0 (fun h => h.elim h1 h2))]; rw [if_pos hk, if_pos hb]; unfold offE; rw [if_pos hs0, if_pos (.inl hz)])
  have HBE := Aside0.mk hb
  clear hb
  have hd5 : decide (r.off = 0) = true := decide_eq_true hz
  have hd5n : (r.off != 0) = false := by simp [hz]
  clear hz
  have hd : decide (4 < r.kind) = false := decide_eq_false h0
  have hd2 : decide (r.id < 0) = false := decide_eq_false h1
  have hd3 : decide (1099511627776 < r.id) = false := decide_eq_false h2
  clear h0 h1 h2
  have hs := sizeB_eq r.off
  rw [hs0] at hs
  have HS := Aside0.mk hs
  clear hs hs0
  go_enter Tryd.func26, Tryd.ntmps26
  go_wp2_with (first | (go_at_call 77; refine (begin_calls r _ (HT.out.below ?_)).mono ?_; (exact below_alloc (below_alloc (Below.refl _ _) _) _); rintro e w2 ⟨rfl, hb2⟩; rw [HBE.out]; obtain ⟨hcl, hfz⟩ := bcell0 hb2; have c2_0 : w2.cell? ⟨w.heap.size, 0, none⟩ = some (.int .u8 r.kind) := (by rw [hcl _ _ (by simp; try omega)]; first | (go_simp; done) | (simp [*]; done)); have c2_5 : w2.cell? ⟨w.heap.size, 36, none⟩ = some (.int .i64 r.off) := (by rw [hcl _ _ (by simp; try omega)]; first | (go_simp; done) | (simp [*]; done)); have HB2 := Aside0.mk (Below.trans (below_alloc (below_alloc (Below.refl w.heap.size w) _) _) (hb2.mono (by simp; try omega))); clear hb2 hcl hfz) | (go_at_call 78; refine (record_size.calls r.off true _ HS.out).mono ?_; rintro e w4 ⟨rfl, ⟨n4, rfl⟩⟩))
  go_ret
  exact ⟨by rw [HE.out]; rfl, by (repeat' (first | exact HB2.out | (with_reducible refine below_setCell ?_ ?_ _) | (with_reducible refine below_setRow ?_ ?_ _) | (with_reducible refine Below.alloc ?_ ?_ _) | (with_reducible refine below_drew ?_) | (with_reducible refine pw_below_drewN ?_ _) | (with_reducible exact Below.refl _ _) | omega | (simp; done) | (simp; omega)))⟩
set_option linter.unusedVariables false in
set_option maxHeartbeats 4000000 in
set_option maxRecDepth 100000 in
theorem Check_n1 (r : Rc) (w : World) (h0 : ¬ 4 < r.kind) (h1 : ¬ r.id < 0) (h2 : ¬ 1099511627776 < r.id) (hk : ¬ r.kind = 0) (hb : ¬ r = bareRc r) :
    Calls Tryd.prog 26 #[.agg (rcL r).toArray] w fun e w' => e = .returned (.int .i64 (chkE r)) ∧ Below w.heap.size w w' := by
  have HE := Aside0.mk (show chkE r = 4 by unfold chkE; rw [if_neg (fun h => h.elim h0 (fun h => h.elim h1 h2))]; rw [if_neg hk, if_neg hb])
  have hd7 : decide (r = ⟨r.kind, r.id, ByteArray.empty, Hs.zero, 0, r.off⟩) = false := decide_eq_false hb
  clear hb
  have hd : decide (4 < r.kind) = false := decide_eq_false h0
  have hd2 : decide (r.id < 0) = false := decide_eq_false h1
  have hd3 : decide (1099511627776 < r.id) = false := decide_eq_false h2
  clear h0 h1 h2
  have hd6 : decide (r.kind = 0) = false := decide_eq_false hk
  have hd6n : (r.kind != 0) = true := bne_iff_ne.2 hk
  clear hk
  go_enter Tryd.func26, Tryd.ntmps26
  go_wp2
  go_ret
  exact ⟨by rw [HE.out]; rfl, by (repeat' (first | exact Below.refl _ _ | (with_reducible refine below_setCell ?_ ?_ _) | (with_reducible refine below_setRow ?_ ?_ _) | (with_reducible refine Below.alloc ?_ ?_ _) | (with_reducible refine below_drew ?_) | (with_reducible refine pw_below_drewN ?_ _) | (with_reducible exact Below.refl _ _) | omega | (simp; done) | (simp; omega)))⟩
set_option linter.unusedVariables false in
set_option maxHeartbeats 4000000 in
set_option maxRecDepth 100000 in
theorem Check_n2 (r : Rc) (w : World) (h0 : ¬ 4 < r.kind) (h1 : ¬ r.id < 0) (h2 : ¬ 1099511627776 < r.id) (hk : ¬ r.kind = 0) (hb : r = bareRc r) (hs0 : sizeB r.off = false) :
    Calls Tryd.prog 26 #[.agg (rcL r).toArray] w fun e w' => e = .returned (.int .i64 (chkE r)) ∧ Below w.heap.size w w' := by
  have HE := Aside0.mk (show chkE r = 13 by unfold chkE; rw [if_neg (fun h => h.elim h0 (fun h => h.elim h1 h2))]; rw [if_neg hk, if_pos hb]; unfold offE; rw [if_neg (by rw [hs0]; decide)])
  have hd7 : decide (r = ⟨r.kind, r.id, ByteArray.empty, Hs.zero, 0, r.off⟩) = true := decide_eq_true hb
  clear hb
  have hd : decide (4 < r.kind) = false := decide_eq_false h0
  have hd2 : decide (r.id < 0) = false := decide_eq_false h1
  have hd3 : decide (1099511627776 < r.id) = false := decide_eq_false h2
  clear h0 h1 h2
  have hd6 : decide (r.kind = 0) = false := decide_eq_false hk
  have hd6n : (r.kind != 0) = true := bne_iff_ne.2 hk
  clear hk
  have hs := sizeB_eq r.off
  rw [hs0] at hs
  have HS := Aside0.mk hs
  clear hs hs0
  go_enter Tryd.func26, Tryd.ntmps26
  go_wp2_with (first | (go_at_call 78; refine (record_size.calls r.off false _ HS.out).mono ?_; rintro e w4 ⟨rfl, ⟨n4, rfl⟩⟩))
  go_ret
  exact ⟨by rw [HE.out]; rfl, by (repeat' (first | exact Below.refl _ _ | (with_reducible refine below_setCell ?_ ?_ _) | (with_reducible refine below_setRow ?_ ?_ _) | (with_reducible refine Below.alloc ?_ ?_ _) | (with_reducible refine below_drew ?_) | (with_reducible refine pw_below_drewN ?_ _) | (with_reducible exact Below.refl _ _) | omega | (simp; done) | (simp; omega)))⟩
set_option linter.unusedVariables false in
set_option maxHeartbeats 4000000 in
set_option maxRecDepth 100000 in
theorem Check_n3 (r : Rc) (w : World) (h0 : ¬ 4 < r.kind) (h1 : ¬ r.id < 0) (h2 : ¬ 1099511627776 < r.id) (hk : ¬ r.kind = 0) (hb : r = bareRc r) (hs0 : sizeB r.off = true) (hz : ¬ r.off = 0) (h7 : ¬ r.kind = 1) :
    Calls Tryd.prog 26 #[.agg (rcL r).toArray] w fun e w' => e = .returned (.int .i64 (chkE r)) ∧ Below w.heap.size w w' := by
  have HE := Aside0.mk (show chkE r = 4 by unfold chkE; rw [if_neg (fun h => h.elim h0 (fun h => h.elim h1 h2))]; rw [if_neg hk, if_pos hb]; unfold offE; rw [if_pos hs0, if_neg (fun h => h.elim hz h7)])
  have hd5 : decide (r.off = 0) = false := decide_eq_false hz
  have hd5n : (r.off != 0) = true := bne_iff_ne.2 hz
  have hd8 : decide (r.kind = 1) = false := decide_eq_false h7
  have hd8n : (r.kind != 1) = true := bne_iff_ne.2 h7
  clear hz h7
  have hd7 : decide (r = ⟨r.kind, r.id, ByteArray.empty, Hs.zero, 0, r.off⟩) = true := decide_eq_true hb
  clear hb
  have hd : decide (4 < r.kind) = false := decide_eq_false h0
  have hd2 : decide (r.id < 0) = false := decide_eq_false h1
  have hd3 : decide (1099511627776 < r.id) = false := decide_eq_false h2
  clear h0 h1 h2
  have hd6 : decide (r.kind = 0) = false := decide_eq_false hk
  have hd6n : (r.kind != 0) = true := bne_iff_ne.2 hk
  clear hk
  have hs := sizeB_eq r.off
  rw [hs0] at hs
  have HS := Aside0.mk hs
  clear hs hs0
  go_enter Tryd.func26, Tryd.ntmps26
  go_wp2_with (first | (go_at_call 78; refine (record_size.calls r.off true _ HS.out).mono ?_; rintro e w4 ⟨rfl, ⟨n4, rfl⟩⟩))
  go_ret
  exact ⟨by rw [HE.out]; rfl, by (repeat' (first | exact Below.refl _ _ | (with_reducible refine below_setCell ?_ ?_ _) | (with_reducible refine below_setRow ?_ ?_ _) | (with_reducible refine Below.alloc ?_ ?_ _) | (with_reducible refine below_drew ?_) | (with_reducible refine pw_below_drewN ?_ _) | (with_reducible exact Below.refl _ _) | omega | (simp; done) | (simp; omega)))⟩
set_option linter.unusedVariables false in
set_option maxHeartbeats 4000000 in
set_option maxRecDepth 100000 in
theorem Check_n4 (r : Rc) (w : World) (h0 : ¬ 4 < r.kind) (h1 : ¬ r.id < 0) (h2 : ¬ 1099511627776 < r.id) (hk : ¬ r.kind = 0) (hb : r = bareRc r) (hs0 : sizeB r.off = true) (hz : ¬ r.off = 0) (h7 : r.kind = 1) :
    Calls Tryd.prog 26 #[.agg (rcL r).toArray] w fun e w' => e = .returned (.int .i64 (chkE r)) ∧ Below w.heap.size w w' := by
  have HE := Aside0.mk (show chkE r = 0 by unfold chkE; rw [if_neg (fun h => h.elim h0 (fun h => h.elim h1 h2))]; rw [if_neg hk, if_pos hb]; unfold offE; rw [if_pos hs0, if_pos (.inr h7)])
  have hd5 : decide (r.off = 0) = false := decide_eq_false hz
  have hd5n : (r.off != 0) = true := bne_iff_ne.2 hz
  have hd8 : decide (r.kind = 1) = true := decide_eq_true h7
  have hd8n : (r.kind != 1) = false := by simp [h7]
  clear hz h7
  have hd7 : decide (r = ⟨r.kind, r.id, ByteArray.empty, Hs.zero, 0, r.off⟩) = true := decide_eq_true hb
  clear hb
  have hd : decide (4 < r.kind) = false := decide_eq_false h0
  have hd2 : decide (r.id < 0) = false := decide_eq_false h1
  have hd3 : decide (1099511627776 < r.id) = false := decide_eq_false h2
  clear h0 h1 h2
  have hd6 : decide (r.kind = 0) = false := decide_eq_false hk
  have hd6n : (r.kind != 0) = true := bne_iff_ne.2 hk
  clear hk
  have hs := sizeB_eq r.off
  rw [hs0] at hs
  have HS := Aside0.mk hs
  clear hs hs0
  go_enter Tryd.func26, Tryd.ntmps26
  go_wp2_with (first | (go_at_call 78; refine (record_size.calls r.off true _ HS.out).mono ?_; rintro e w4 ⟨rfl, ⟨n4, rfl⟩⟩))
  go_ret
  exact ⟨by rw [HE.out]; rfl, by (repeat' (first | exact Below.refl _ _ | (with_reducible refine below_setCell ?_ ?_ _) | (with_reducible refine below_setRow ?_ ?_ _) | (with_reducible refine Below.alloc ?_ ?_ _) | (with_reducible refine below_drew ?_) | (with_reducible refine pw_below_drewN ?_ _) | (with_reducible exact Below.refl _ _) | omega | (simp; done) | (simp; omega)))⟩
set_option linter.unusedVariables false in
set_option maxHeartbeats 4000000 in
set_option maxRecDepth 100000 in
theorem Check_n5 (r : Rc) (w : World) (h0 : ¬ 4 < r.kind) (h1 : ¬ r.id < 0) (h2 : ¬ 1099511627776 < r.id) (hk : ¬ r.kind = 0) (hb : r = bareRc r) (hs0 : sizeB r.off = true) (hz : r.off = 0) :
    Calls Tryd.prog 26 #[.agg (rcL r).toArray] w fun e w' => e = .returned (.int .i64 (chkE r)) ∧ Below w.heap.size w w' := by
  have HE := Aside0.mk (show chkE r = 0 by unfold chkE; rw [if_neg (fun h => h.elim h0 (fun h => h.elim h1 h2))]; rw [if_neg hk, if_pos hb]; unfold offE; rw [if_pos hs0, if_pos (.inl hz)])
  have hd5 : decide (r.off = 0) = true := decide_eq_true hz
  have hd5n : (r.off != 0) = false := by simp [hz]
  clear hz
  have hd7 : decide (r = ⟨r.kind, r.id, ByteArray.empty, Hs.zero, 0, r.off⟩) = true := decide_eq_true hb
  clear hb
  have hd : decide (4 < r.kind) = false := decide_eq_false h0
  have hd2 : decide (r.id < 0) = false := decide_eq_false h1
  have hd3 : decide (1099511627776 < r.id) = false := decide_eq_false h2
  clear h0 h1 h2
  have hd6 : decide (r.kind = 0) = false := decide_eq_false hk
  have hd6n : (r.kind != 0) = true := bne_iff_ne.2 hk
  clear hk
  have hs := sizeB_eq r.off
  rw [hs0] at hs
  have HS := Aside0.mk hs
  clear hs hs0
  go_enter Tryd.func26, Tryd.ntmps26
  go_wp2_with (first | (go_at_call 78; refine (record_size.calls r.off true _ HS.out).mono ?_; rintro e w4 ⟨rfl, ⟨n4, rfl⟩⟩))
  go_ret
  exact ⟨by rw [HE.out]; rfl, by (repeat' (first | exact Below.refl _ _ | (with_reducible refine below_setCell ?_ ?_ _) | (with_reducible refine below_setRow ?_ ?_ _) | (with_reducible refine Below.alloc ?_ ?_ _) | (with_reducible refine below_drew ?_) | (with_reducible refine pw_below_drewN ?_ _) | (with_reducible exact Below.refl _ _) | omega | (simp; done) | (simp; omega)))⟩
theorem Check_calls (r : Rc) (w : World) (hT : TabOK w) :
    Calls Tryd.prog 26 #[.agg (rcL r).toArray] w fun e w' => e = .returned (.int .i64 (chkE r)) ∧ Below w.heap.size w w' := by
  by_cases h0 : 4 < r.kind
  · exact Check_kind r w h0
  by_cases h1 : r.id < 0
  · exact Check_low r w h0 h1
  by_cases h2 : 1099511627776 < r.id
  · exact Check_high r w h0 h1 h2
  by_cases hk : r.kind = 0
  · by_cases hb : beginE r = 0
    · cases hs : sizeB r.off with
      | false => exact Check_b2 r w hT h0 h1 h2 hk hb hs
      | true =>
        by_cases hz : r.off = 0
        · exact Check_b4 r w hT h0 h1 h2 hk hb hs hz
        · exact Check_b3 r w hT h0 h1 h2 hk hb hs hz
    · exact Check_b1 r w hT h0 h1 h2 hk hb
  · by_cases hb : r = bareRc r
    · cases hs : sizeB r.off with
      | false => exact Check_n2 r w h0 h1 h2 hk hb hs
      | true =>
        by_cases hz : r.off = 0
        · exact Check_n5 r w h0 h1 h2 hk hb hs hz
        · by_cases h7 : r.kind = 1
          · exact Check_n4 r w h0 h1 h2 hk hb hs hz h7
          · exact Check_n3 r w h0 h1 h2 hk hb hs hz h7
    · exact Check_n1 r w h0 h1 h2 hk hb
end Go.Proofs.YtiohgpcbdefokaaDoor.B
/- record.read of a mark's body. No condition. -/
namespace Go.Proofs.YtiohgpcbdefokaaDoor.B
open Go.RowKit Go.Proofs.YtiohgpcbdefokaaDoorW.PrintWords Go.Proofs.YtiohgpcbdefokaaDoor.RowLaws
attribute [local go_sem ↓ high] lvO_hs ldO_hs stO_hs lvO_pt ldO_pt stO_pt zero_pt eqA_pt lvO_ptR ldO_ptR stO_ptR zero_ptR eqA_ptR lvO_rc ldO_rc stO_rc zero_rc eqA_rc lvO_rcR ldO_rcR stO_rcR zero_rcR eqA_rcR lvO_tk ldO_tk stO_tk zero_tk eqA_tk lvO_tkR ldO_tkR stO_tkR zero_tkR eqA_tkR lvO_it ldO_it stO_it zero_it eqA_it blO_pt blO_ptR blO_rc blO_rcR blO_tk blO_tkR blO_it bsO_pt bsO_ptR bsO_rc bsO_rcR bsO_it
attribute [local go_sem high] rowAt_setCell rowAt_setRow cell_setRow_ne isRow_setRow_ne rowAt_alloc rowAt_drew isRow_alloc isRow_drew isRow_setCell rowRun_some okL_hs ldV_hs ldA_hs stA_hs setRow_alloc get_pt_id get_pt_path cut_pt_sum get_pt_size get_pt_off cut_pt okL_pt size_pt lenb_pt eta_pt ldV_pt ldA_pt stA_pt ldV_ptR ldA_ptR stA_ptR get_rc_kind get_rc_id get_rc_path cut_rc_sum get_rc_size get_rc_off cut_rc okL_rc size_rc lenb_rc eta_rc ldV_rc ldA_rc stA_rc ldV_rcR ldA_rcR stA_rcR get_tk_path cut_tk_sum get_tk_size get_tk_off cut_tk_old cut_tk okL_tk size_tk lenb_tk eta_tk ldV_tk ldA_tk stA_tk ldV_tkR ldA_tkR stA_tkR get_it_path get_it_dir get_it_size cut_it_sum cut_it okL_it size_it lenb_it eta_it ldV_it ldA_it stA_it bld_pt_01234 bld_pt_0123 bld_pt_z bld_ptR_01234 bld_ptR_0123 bld_ptR_z bld_rc_012345 bld_rc_015 bld_rc_01 bld_rc_z bld_rc_01234 bld_rc_24 bld_rc_05 bld_rc_0 bld_rcR_012345 bld_rcR_015 bld_rcR_01 bld_rcR_z bld_rcR_01234 bld_rcR_24 bld_rcR_05 bld_rcR_0 bld_tk_01234 bld_tk_0 bld_tk_z bld_tkR_01234 bld_tkR_0 bld_tkR_z bld_it_0123 bld_it_023 bld_it_01 bld_it_0 bld_it_z bs0_pt bs1_pt bs0_ptR bs1_ptR bs0_rc bs1_rc bs0_rcR bs1_rcR bs0_it bs1_it
theorem isRow_only {w w' : World} {g b n : Nat} (h : Only g w w') (hb : b < w.heap.size) (hne : b ≠ g) : isRow w' b n = isRow w b n := by
  unfold isRow
  rw [h.block b hb (by intro e; injection e with e; exact hne e)]
theorem rcL_off (r : Rc) (x : Int) : (rcL r).toArray.setIfInBounds 36 (.int .i64 x) = (rcL { r with off := x }).toArray := by
  obtain ⟨b0, b1, b2, b3, b4, b5, b6, b7, b8, b9, b10, b11, b12, b13, b14, b15, b16, b17, b18, b19, b20, b21, b22, b23, b24, b25, b26, b27, b28, b29, b30, b31, e0⟩ := hs_lit r.sum
  simp [rcL, e0]
/-- A row made whole, with its last cell written. -/
theorem row_off {w w5 : World} {g : Nat} {r : Rc} {x : Int} (ho : Only g (w.alloc (.cells (rcL r).toArray 51)) w5) (hg : g < w.heap.size) : rowAt (w5.setCell ⟨w.heap.size, 36, none⟩ (.int .i64 x)) ⟨w.heap.size, 0, none⟩ 37 = some (rcL { r with off := x }) ∧ w5.frozen? ⟨w.heap.size, 36, none⟩ = false ∧ w5.cell? ⟨w.heap.size, 36, none⟩ = some (.int .i64 r.off) := by
  have h0 : w5.heap[w.heap.size]? = some (.cells (rcL r).toArray 51 (0, 0)) := (ho.block _ (by simp) (by intro e; injection e; omega)).trans (heap_alloc_new _ _)
  refine ⟨?_, blk_frozen h0 _, ?_⟩
  · have h1 := blk_set h0 36 (.int .i64 x)
    rw [rcL_off] at h1
    rw [rowAt_block h1 0 37 (by simp [rcL_len])]
    rw [List.drop_zero, List.take_of_length_le (by simp [rcL_len])]
  · rw [cell_of_row _ _ _ _ _ _ h0]
    obtain ⟨b0, b1, b2, b3, b4, b5, b6, b7, b8, b9, b10, b11, b12, b13, b14, b15, b16, b17, b18, b19, b20, b21, b22, b23, b24, b25, b26, b27, b28, b29, b30, b31, e0⟩ := hs_lit r.sum
    simp [rcL, e0]
theorem isRow_lt {w : World} {g n : Nat} (h : isRow w g n = true) : g < w.heap.size := by
  obtain ⟨cs, t, hc, _⟩ := isRow_get h
  exact (Array.getElem?_eq_some_iff.1 hc).1
theorem keepRd {r : Rc} {b g h : Nat} {w W : World} (hS : rowAt w ⟨b, 0, none⟩ 37 = some (rcL r) ∧ isRow w h 37 = true ∧ RdAt w g [] 0 ∧ TabOK w) (hb : Below w.heap.size w W) : rowAt W ⟨b, 0, none⟩ 37 = some (rcL r) ∧ isRow W h 37 = true ∧ RdAt W g [] 0 ∧ TabOK W := by
  obtain ⟨h1, h2, h3, h4⟩ := hS
  have hlt : b < w.heap.size := by
    have := (rowAt_some h1).2 0 _ (List.getElem?_eq_getElem (show 0 < (rcL r).length by rw [rcL_len]; decide))
    exact World.block_lt_of_cell? _ _ this
  exact ⟨by rw [rowAt_below hb hlt]; exact h1, by rw [isRow_below hb (isRow_lt h2)]; exact h2, h3.below hb, h4.below hb⟩
theorem keepRd2 {r q : Rc} {b g h : Nat} {w : World} (hS : rowAt w ⟨b, 0, none⟩ 37 = some (rcL r) ∧ isRow w h 37 = true ∧ RdAt w g [] 0 ∧ TabOK w) (h1 : b ≠ h) (h2 : g ≠ h) (hT : TabOK (w.setRow h (rcL q).toArray)) :
    rowAt (w.setRow h (rcL q).toArray) ⟨b, 0, none⟩ 37 = some (rcL r) ∧ isRow (w.setRow h (rcL q).toArray) h 37 = true ∧ RdAt (w.setRow h (rcL q).toArray) g [] 0 ∧ TabOK (w.setRow h (rcL q).toArray) := by
  obtain ⟨a1, a2, a3, a4⟩ := hS
  refine ⟨by rw [rowAt_setRow _ _ _ _ _ _ h1]; exact a1, by rw [isRow_setRow_same a2]; simp [rcL_len], ?_, hT⟩
  obtain ⟨A, c, b0, b1, b2⟩ := a3
  have ho : Only h w (w.setRow h (rcL q).toArray) := (Only.refl _ _).setRow _
  have hg : g < w.heap.size := (Array.getElem?_eq_some_iff.1 b0).1
  refine ⟨A, c, (ho.block g hg (by intro e; injection e with e; exact h2 e)).trans b0, b1, fun W hW => ⟨rfl, Nat.zero_le _, fun h => absurd h (Nat.lt_irrefl 0)⟩⟩
theorem rd_far {w : World} {g b o : Nat} {u : Value} (h : RdAt w g [] 0) (hne : g ≠ b) : RdAt (w.setCell ⟨b, o, none⟩ u) g [] 0 := by
  obtain ⟨A, c, b0, b1, b2⟩ := h
  exact ⟨A, c, (Below.heap_setCell _ _ _ _ (by exact hne)).trans b0, b1, fun W hW => ⟨rfl, Nat.zero_le _, fun h => absurd h (Nat.lt_irrefl 0)⟩⟩
theorem rdOf {r : Rc} {b g h : Nat} {w : World} (hS : rowAt w ⟨b, 0, none⟩ 37 = some (rcL r) ∧ isRow w h 37 = true ∧ RdAt w g [] 0 ∧ TabOK w) : RdAt w g [] 0 := hS.2.2.1
theorem tabOf {r : Rc} {b g h : Nat} {w : World} (hS : rowAt w ⟨b, 0, none⟩ 37 = some (rcL r) ∧ isRow w h 37 = true ∧ RdAt w g [] 0 ∧ TabOK w) : TabOK w := hS.2.2.2
set_option linter.unusedVariables false in
set_option maxHeartbeats 4000000 in
set_option maxRecDepth 100000 in
theorem ReadMark_calls (k : Nat) (A : Option Addr) (c : Nat) (l1 : List Int) (id u1 off u2 : Int) (w : World) (hT : TabOK w) (hC : Kd.C (Kd.int .u8) w A (1 :: l1).length (1 :: l1)) (hc : (1 :: l1).length ≤ c)
    (h1 : varint_Shortest.f k l1 = some (id, u1, 0)) (hu1 : 0 ≤ u1 ∧ u1 ≤ l1.length) (hid : ¬ 1099511627776 < id) (h2 : varint_Shortest.f k (l1.drop u1.toNat) = some (off, u2, 0)) (hu2 : 0 ≤ u2 ∧ u2 ≤ (l1.drop u1.toNat).length) (hoff : ¬ 65536 < off)
    (hn : (l1.drop u1.toNat).drop u2.toNat = []) (hk : chkE ⟨1, id, ByteArray.empty, Hs.zero, 0, off⟩ = 0) :
    Calls Tryd.prog 127 #[.slice A (1 :: l1).length c] w fun e w' => e = .returned (.tuple #[.agg (rcL ⟨1, id, ByteArray.empty, Hs.zero, 0, off⟩).toArray, .bool true]) ∧ Below w.heap.size w w' := by
  have HT := Aside0.mk hT
  have HC := Aside0.mk (And.intro hC hc)
  obtain ⟨l2, hl2⟩ : ∃ l2, l1.drop u1.toNat = l2 := ⟨_, rfl⟩
  rw [hl2] at h2 hu2 hn
  have HN1 := Aside0.mk (show numP id u1 0 l1 1099511627776 = (id, l2, 0) by have e : lookF id u1 0 1099511627776 = (id, u1, 0) := if_neg (fun h => hid h.2); unfold numP; rw [e]; simp only; rw [if_true, hl2])
  have HN2 := Aside0.mk (show numP off u2 0 l2 65536 = (off, [], 0) by have e : lookF off u2 0 65536 = (off, u2, 0) := if_neg (fun h => hoff h.2); unfold numP; rw [e]; simp only; rw [if_true, hn])
  have H1 := Aside0.mk (And.intro h1 hu1)
  have H2 := Aside0.mk (And.intro h2 hu2)
  have HK := Aside0.mk hk
  obtain ⟨n, hn0⟩ : ∃ n, (1 :: l1).length = n := ⟨_, rfl⟩
  rw [hn0]
  have HN := Aside0.mk hn0
  clear hT hC hc h1 hu1 hid h2 hu2 hoff hn hk hl2 hn0
  go_enter Tryd.func127, Tryd.ntmps127
  go_wp2_with (first
    | (go_at_call 62; rw [← HN.out]; refine (New_calls A c (1 :: l1) _ (Kd.C_below HC.out.1 ?_) HC.out.2).mono ?_; (exact below_alloc (Below.refl _ _) _); rintro e w2 ⟨rfl, hr2, hb2⟩; rw [World.size_alloc] at hr2; have HR2 := Aside0.mk hr2; have HB2 := Aside0.mk (Below.trans (below_alloc (Below.refl w.heap.size w) _) (hb2.mono (by simp))); have i2 : isRow w2 w.heap.size 37 = true := (by rw [isRow_below hb2 (by simp)]; first | (go_simp; done) | (simp [*]; done)); have HLT := Aside0.mk hr2.lt; clear hr2 hb2)
    | (go_at_call 89; refine (Byte_calls (w.heap.size + 1) 1 l1 _ HR2.out (by decide) (by decide)).mono ?_; rintro e w3 ⟨rfl, hr3, ho3⟩; have HR3 := Aside0.mk hr3; have HO3 := Aside0.mk ho3; have i3 : isRow w3 w.heap.size 37 = true := (by rw [isRow_only ho3 (by have := HLT.out; omega) (by omega)]; exact i2); have HB3 := Aside0.mk (Below.trans HB2.out (ho3.below (n := w.heap.size) (by omega) (by have := HLT.out; omega))); clear hr3 ho3)
    | (go_at_call 65; with_reducible refine Calls.mono (Num_calls k (w.heap.size + 1) l1 1099511627776 id u1 0 w3 HR3.out H1.out.1 (fun _ => H1.out.2)) ?_; rw [HN1.out]; rintro e w4 ⟨rfl, hr4, ho4⟩; have HR4 := Aside0.mk hr4; have HLT4 := Aside0.mk hr4.lt; have i4 : isRow w4 w.heap.size 37 = true := (by rw [isRow_only ho4 (by have := HR3.out.lt; omega) (by omega)]; exact i3); have HB4 := Aside0.mk (Below.trans HB3.out (ho4.below (n := w.heap.size) (by omega) (by have := HR3.out.lt; omega))); clear hr4 ho4)
    | (go_at_call 65; with_reducible refine Calls.mono (Num_calls k (w.heap.size + 1) l2 65536 off u2 0 _ (HR4.out.below (below_alloc (Below.refl _ _) _)) H2.out.1 (fun _ => H2.out.2)) ?_; rw [HN2.out]; rintro e w5 ⟨rfl, hr5, ho5⟩; obtain ⟨rw5, fz5, cc5⟩ := row_off (x := off) ho5 HLT4.out; have HR5 := Aside0.mk hr5; have HO5 := Aside0.mk ho5; have i5 : isRow w5 w.heap.size 37 = true := (by rw [isRow_only ho5 (by have := HLT4.out; simp; omega) (by omega), isRow_below (below_alloc (Below.refl w4.heap.size w4) _) (by have := HLT4.out; omega)]; exact i4); have HB5 := Aside0.mk (Below.trans HB4.out (Below.trans ((below_alloc (Below.refl w4.heap.size w4) _).mono (by have := HLT4.out; omega)) (ho5.below (n := w.heap.size) (by omega) (by have := HLT4.out; simp; omega)))); have HS5 := Aside0.mk (show w4.heap.size + 1 ≤ w5.heap.size from by have := ho5.size; simpa using this); clear hr5 ho5))
  have hS : rowAt (w5.setCell ⟨w4.heap.size, 36, none⟩ (.int .i64 off)) ⟨w4.heap.size, 0, none⟩ 37 = some (rcL ⟨1, id, ByteArray.empty, Hs.zero, 0, off⟩) ∧ isRow (w5.setCell ⟨w4.heap.size, 36, none⟩ (.int .i64 off)) w.heap.size 37 = true ∧ RdAt (w5.setCell ⟨w4.heap.size, 36, none⟩ (.int .i64 off)) (w.heap.size + 1) [] 0 ∧ TabOK (w5.setCell ⟨w4.heap.size, 36, none⟩ (.int .i64 off)) := ⟨rw5, by rw [isRow_setCell]; exact i5, rd_far HR5.out (by have := HLT4.out; omega), HT.out.below (below_setCell HB5.out (by have := HLT4.out; omega) _)⟩
  have HB6 := Aside0.mk (show Below w.heap.size w (w5.setCell ⟨w4.heap.size, 36, none⟩ (.int .i64 off)) from below_setCell HB5.out (by have := HLT4.out; omega) _)
  generalize w5.setCell ⟨w4.heap.size, 36, none⟩ (.int .i64 off) = w6 at hS HB6 ⊢
  clear rw5 fz5 cc5 i2 i3 i4 i5
  go_region_held3 (fun w' => rowAt w' ⟨w4.heap.size, 0, none⟩ 37 = some (rcL ⟨1, id, ByteArray.empty, Hs.zero, 0, off⟩) ∧ isRow w' w.heap.size 37 = true ∧ RdAt w' (w.heap.size + 1) [] 0 ∧ TabOK w') (first | assumption | exact keepRd (by assumption) (below_drew (Below.refl _ _)) | exact keepRd2 (by assumption) (by have := HLT4.out; omega) (by omega) (HT.out.below (below_setRow HB8.out (Nat.le_refl _) _)))
    (first
      | (go_at_call 66; refine (Done_calls (w.heap.size + 1) [] 0 _ (rdOf (by assumption))).mono ?_; rintro e w7 ⟨rfl, hb7⟩; have hS7 := keepRd (by assumption) hb7; have HB7 := Aside0.mk (below_step (by first | exact HB6.out | exact below_drew HB6.out) hb7); clear hb7)
      | (go_at_call 26; refine (Check_calls ⟨1, id, ByteArray.empty, Hs.zero, 0, off⟩ _ (tabOf (by assumption))).mono ?_; rintro e w8 ⟨rfl, hb8⟩; rw [HK.out]; have hS8 := keepRd (by assumption) hb8; have HB8 := Aside0.mk (below_step (by first | exact HB7.out | exact below_drew HB7.out) hb8); clear hb8))
  go_wp2
  refine bodyPost_ret (v := .tuple #[.agg (rcL ⟨1, id, ByteArray.empty, Hs.zero, 0, off⟩).toArray, .bool true]) (res2 rfl rfl (lv_rc (by rw [rowAt_setRow_same hS8.2.1 _ _ _ (by decide), cut_rc])) rfl) rfl ⟨rfl, below_setRow HB8.out (Nat.le_refl _) _⟩
end Go.Proofs.YtiohgpcbdefokaaDoor.B
/- record.first, record.Scan of eight bytes that hold a mark. No condition. -/
namespace Go.Proofs.YtiohgpcbdefokaaDoor.B
open Go.RowKit Go.Proofs.YtiohgpcbdefokaaDoorW.PrintWords Go.Proofs.YtiohgpcbdefokaaDoor.RowLaws
attribute [local go_sem ↓ high] lvO_hs ldO_hs stO_hs lvO_pt ldO_pt stO_pt zero_pt eqA_pt lvO_ptR ldO_ptR stO_ptR zero_ptR eqA_ptR lvO_rc ldO_rc stO_rc zero_rc eqA_rc lvO_rcR ldO_rcR stO_rcR zero_rcR eqA_rcR lvO_tk ldO_tk stO_tk zero_tk eqA_tk lvO_tkR ldO_tkR stO_tkR zero_tkR eqA_tkR lvO_it ldO_it stO_it zero_it eqA_it blO_pt blO_ptR blO_rc blO_rcR blO_tk blO_tkR blO_it bsO_pt bsO_ptR bsO_rc bsO_rcR bsO_it
attribute [local go_sem high] rowAt_setCell rowAt_setRow cell_setRow_ne isRow_setRow_ne rowAt_alloc rowAt_drew isRow_alloc isRow_drew isRow_setCell rowRun_some okL_hs ldV_hs ldA_hs stA_hs setRow_alloc get_pt_id get_pt_path cut_pt_sum get_pt_size get_pt_off cut_pt okL_pt size_pt lenb_pt eta_pt ldV_pt ldA_pt stA_pt ldV_ptR ldA_ptR stA_ptR get_rc_kind get_rc_id get_rc_path cut_rc_sum get_rc_size get_rc_off cut_rc okL_rc size_rc lenb_rc eta_rc ldV_rc ldA_rc stA_rc ldV_rcR ldA_rcR stA_rcR get_tk_path cut_tk_sum get_tk_size get_tk_off cut_tk_old cut_tk okL_tk size_tk lenb_tk eta_tk ldV_tk ldA_tk stA_tk ldV_tkR ldA_tkR stA_tkR get_it_path get_it_dir get_it_size cut_it_sum cut_it okL_it size_it lenb_it eta_it ldV_it ldA_it stA_it bld_pt_01234 bld_pt_0123 bld_pt_z bld_ptR_01234 bld_ptR_0123 bld_ptR_z bld_rc_012345 bld_rc_015 bld_rc_01 bld_rc_z bld_rc_01234 bld_rc_24 bld_rc_05 bld_rc_0 bld_rcR_012345 bld_rcR_015 bld_rcR_01 bld_rcR_z bld_rcR_01234 bld_rcR_24 bld_rcR_05 bld_rcR_0 bld_tk_01234 bld_tk_0 bld_tk_z bld_tkR_01234 bld_tkR_0 bld_tkR_z bld_it_0123 bld_it_023 bld_it_01 bld_it_0 bld_it_z bs0_pt bs1_pt bs0_ptR bs1_ptR bs0_rc bs1_rc bs0_rcR bs1_rcR bs0_it bs1_it
/-- Eight bytes that hold the mark r. -/
structure Eight (k : Nat) (l : List Int) (r : Rc) : Prop where
  len : l.length = 8
  num : varint_Shortest.f k l = some (7, 1, 0)
  open_ : crc_Open.f k ((l.take 8).drop 1) = some ([1, r.id, r.off], 0)
  one : varint_Shortest.f k [r.id, r.off] = some (r.id, 1, 0)
  two : varint_Shortest.f k [r.off] = some (r.off, 1, 0)
  lo : ¬ 1099511627776 < r.id
  lo2 : ¬ 65536 < r.off
  is : r = ⟨1, r.id, ByteArray.empty, Hs.zero, 0, r.off⟩
  chk : chkE r = 0
set_option linter.unusedVariables false in
set_option maxHeartbeats 4000000 in
set_option maxRecDepth 100000 in
theorem First_calls (k : Nat) (A : Option Addr) (c : Nat) (l : List Int) (r : Rc) (w : World) (hT : TabOK w) (hC : Kd.C (Kd.int .u8) w A 8 l) (hc : 8 ≤ c) (h : Eight k l r) :
    Calls Tryd.prog 85 #[.slice A 8 c] w fun e w' => e = .returned (.tuple #[.agg (rcL r).toArray, .int .i64 8, .int .i64 0]) ∧ Below w.heap.size w w' := by
  have HT := Aside0.mk hT
  have HH := Aside0.mk h
  have hC' : Kd.C (Kd.int .u8) w A l.length l := by rw [h.len]; exact hC
  obtain ⟨A2, hm1, hm2, hm3⟩ := print_mid_of (P := Tryd.prog) (Value.int .u8) 0 22 5 .i64 .i64 Tryd.underlying22 (info_parts info5).choose_spec.1 (info_parts info5).choose_spec.2.2.1 A c l 1 8 (by decide) (by decide) (by rw [h.len]; decide) (by rw [h.len]; exact hc)
  rw [show ((8 : Int)).toNat = 8 from rfl, show ((1 : Int)).toNat = 1 from rfl] at hm1 hm2 hm3
  obtain ⟨y, hy⟩ : ∃ y, (l.take 8).drop 1 = y := ⟨_, rfl⟩
  have ho := h.open_
  rw [hy] at hm1 hm2 hm3 ho
  rw [h.len] at hm1
  have hyl : y.length = 7 := by rw [← hy, List.length_drop, List.length_take, h.len]; decide
  have HM := Aside0.mk (And.intro hm1 (And.intro hm2 hm3))
  have HYL := Aside0.mk hyl
  have HO := Aside0.mk ho
  have HC := Aside0.mk hC'
  have HC8 := Aside0.mk (show l.length ≤ c by rw [h.len]; exact hc)
  have HL := Aside0.mk h.len
  have HNUM := Aside0.mk h.num
  clear hT hC hc hC' hm1 hm2 hm3 hy ho hyl h
  go_enter Tryd.func85, Tryd.ntmps85
  go_wp2_with (first
    | (go_at_call 125; rw [← HL.out]; refine (varint_Shortest.calls k A c l 7 1 0 _ (Kd.C_below HC.out ?_) HC8.out HNUM.out).mono ?_; (exact below_alloc (Below.refl _ _) _); rintro e w2 ⟨rfl, hb2⟩; rw [HL.out]; have i2 : isRow w2 w.heap.size 37 = true := (by rw [isRow_below hb2 (by simp)]; first | (go_simp; done) | (simp [*]; done)); have HB2 := Aside0.mk (Below.trans (below_alloc (Below.refl w.heap.size w) _) (hb2.mono (by simp))); have hcut := HM.out.1 w2; rw [HYL.out] at hcut; have HLT := Aside0.mk (isRow_lt i2); clear hb2)
    | (go_at_call 126; rw [← HYL.out]; refine (crc_Open.calls k A2 _ y [1, r.id, r.off] 0 w2 (Kd.C_of_reads (h1 := fun _ => rfl) (HM.out.2.1 w2 (Kd.reads_of_C (Kd.C_below HC.out HB2.out)))) HM.out.2.2 (HT.out.below HB2.out) HO.out).mono ?_; rintro e w3 ⟨v3, rfl, ho3, hb3⟩; rw [HYL.out]; obtain ⟨A3, c3, rfl⟩ := Kd.R_slice ho3; have i3 : isRow w3 w.heap.size 37 = true := (by rw [isRow_below hb3 HLT.out]; exact i2); have HB3 := Aside0.mk (below_step HB2.out hb3); have HR3 := Aside0.mk (Kd.R_reads' ho3); clear ho3 hb3)
    | (go_at_call 127; have hq := ReadMark_calls k A3 c3 [r.id, r.off] r.id 1 r.off 1 w3 (HT.out.below HB3.out) HR3.out.2.2 HR3.out.2.1 HH.out.one ⟨by decide, by simp only [List.length_cons]; omega⟩ HH.out.lo HH.out.two ⟨by decide, by simp⟩ HH.out.lo2 rfl (by rw [← HH.out.is]; exact HH.out.chk); rw [← HH.out.is] at hq; refine Calls.mono (show Calls _ _ #[.slice A3 3 c3] w3 _ from hq) ?_; clear hq; rintro e w4 ⟨rfl, hb4⟩; have i4 : isRow w4 w.heap.size 37 = true := (by rw [isRow_below hb4 (isRow_lt i3)]; exact i3); have HB4 := Aside0.mk (below_step HB3.out hb4); have HLT4 := Aside0.mk (isRow_lt i4); have n4 : ¬ (w.heap.size = w4.heap.size) := (by have := isRow_lt i4; omega); clear hb4))
  refine bodyPost_ret (v := .tuple #[.agg (rcL r).toArray, .int .i64 8, .int .i64 0]) (res3 rfl rfl (lv_rc (by rw [rowAt_below (below_alloc (Below.refl _ _) _) (by simpa using HLT4.out), rowAt_setRow_same i4 _ _ _ (by decide), cut_rc])) rfl rfl) rfl ⟨rfl, below_alloc (below_setRow HB4.out (Nat.le_refl _) _) _⟩
theorem infoRc : (Tryd.prog.info? 51).map (fun i => (i.zero, i.size, i.bytes)) = some (some (.agg (rcL Rc.zero).toArray), 37, 80) := by kernel_rfl
theorem zcRc : (Value.agg (rcL Rc.zero).toArray).cells.size = 37 := by simp [Value.cells, rcL_len]
set_option linter.unusedVariables false in
set_option maxHeartbeats 4000000 in
set_option maxRecDepth 100000 in
theorem Scan_calls (k : Nat) (A : Option Addr) (c : Nat) (l : List Int) (r : Rc) (w : World) (hT : TabOK w) (hC : Kd.C (Kd.int .u8) w A 8 l) (hc : 8 ≤ c) (h : Eight k l r) :
    Calls Tryd.prog 35 #[.slice A 8 c] w fun e w' => ∃ v : Value, e = .returned (.tuple #[v, .int .i64 8, .int .i64 0]) ∧ Kd.R kRc 51 w' w.heap.size (fun _ => True) v [r] ∧ Below w.heap.size w w' := by
  have HT := Aside0.mk hT
  have HH := Aside0.mk h
  have hC' : Kd.C (Kd.int .u8) w A l.length l := by rw [h.len]; exact hC
  obtain ⟨A2, hm1, hm2, hm3⟩ := print_drop_of (P := Tryd.prog) (Value.int .u8) 0 22 5 .i64 Tryd.underlying22 (info_parts info5).choose_spec.1 (info_parts info5).choose_spec.2.2.1 A c l 0 (by decide) (by rw [h.len]; decide) (by rw [h.len]; exact hc)
  rw [show ((0 : Int)).toNat = 0 from rfl, List.drop_zero] at hm1 hm2 hm3
  rw [Nat.sub_zero] at hm1 hm3
  rw [h.len] at hm1 hm2 hm3
  have HM := Aside0.mk (And.intro hm1 (And.intro hm2 hm3))
  have HC := Aside0.mk hC
  clear hT hC hc hC' hm1 hm2 hm3 h
  go_enter Tryd.func35, Tryd.ntmps35
  go_wp2
  go_loopw [5, 6] (fun ov av wr => (ov = .slice none 0 0 ∧ av = .int .i64 0 ∧ Aside0 (Below w.heap.size w wr)) ∨ (∃ (A3 : Option Addr) (c3 : Nat), ov = .slice A3 1 c3 ∧ av = .int .i64 8 ∧ Aside0 (Below w.heap.size w wr) ∧ Aside0 (Kd.R kRc 51 wr w.heap.size (fun _ => True) (.slice A3 1 c3) [r]))) (fun _ av _ => 8 - (intOf av).toNat)
  case atStart => exact .inl ⟨rfl, rfl, ⟨Below.refl _ _⟩⟩
  case round =>
    rcases hrel with ⟨rfl, rfl, HB⟩ | ⟨A3, c3, rfl, rfl, HB, HR⟩
    · have hcut := HM.out.1 wr
      go_wp2_with (first
        | (go_at_call 85; refine (First_calls k A2 c l r _ (HT.out.below HB.out) (Kd.C_of_reads (h1 := fun _ => rfl) (HM.out.2.1 wr (Kd.reads_of_C (Kd.C_below HC.out HB.out)))) HM.out.2.2 HH.out).mono ?_; rintro e w2 ⟨rfl, hb2⟩; have HB2 := Aside0.mk (below_step HB.out hb2); clear hb2)
        | ((with_reducible refine gate_builtin (b := .append) (xs := #[.tmp 27, .tmp 29]) rfl ?_); at_builtin; refine Kd.R_append kRc (w0 := w) w.heap.size rfl (.tmp 27) (.tmp 29) 57 51 _ 80 rfl Tryd.underlying57 infoRc zcRc (by decide) (by decide) (.slice none 0 0) [] r (rcL r) (fun _ => True) (fun _ => False) rfl ?aX rfl (fun _ h => h.elim) (fun _ _ => trivial) (Kd.R_nil _ _ _ _ _) ?aB ?aS (by decide) ?_; (case aX => rw [World.size_alloc]; rfl); (case aB => exact below_alloc HB2.out _); (case aS => have h_ := HB2.out.size; simp; omega); intro v5 w5 ho5 hb5 hg5 hat5; obtain ⟨A5, c5, rfl⟩ := Kd.R_slice ho5; have HO5 := Aside0.mk ho5; have HB5 := Aside0.mk hb5; clear ho5 hb5 hg5 hat5))
      go_roundw
      case rel => exact .inr ⟨A5, c5, rfl, rfl, HB5, HO5⟩
      case measure => simp [intOf]
    · go_wp2
      go_ret3
      exact ⟨_, rfl, HR.out, HB.out⟩
end Go.Proofs.YtiohgpcbdefokaaDoor.B
/- record.Put of a mark. No condition. -/
namespace Go.Proofs.YtiohgpcbdefokaaDoor.B
open Go.RowKit Go.Proofs.YtiohgpcbdefokaaDoorW.PrintWords Go.Proofs.YtiohgpcbdefokaaDoor.RowLaws
attribute [local go_sem ↓ high] lvO_hs ldO_hs stO_hs lvO_pt ldO_pt stO_pt zero_pt eqA_pt lvO_ptR ldO_ptR stO_ptR zero_ptR eqA_ptR lvO_rc ldO_rc stO_rc zero_rc eqA_rc lvO_rcR ldO_rcR stO_rcR zero_rcR eqA_rcR lvO_tk ldO_tk stO_tk zero_tk eqA_tk lvO_tkR ldO_tkR stO_tkR zero_tkR eqA_tkR lvO_it ldO_it stO_it zero_it eqA_it blO_pt blO_ptR blO_rc blO_rcR blO_tk blO_tkR blO_it bsO_pt bsO_ptR bsO_rc bsO_rcR bsO_it
attribute [local go_sem high] rowAt_setCell rowAt_setRow cell_setRow_ne isRow_setRow_ne rowAt_alloc rowAt_drew isRow_alloc isRow_drew isRow_setCell rowRun_some okL_hs ldV_hs ldA_hs stA_hs setRow_alloc get_pt_id get_pt_path cut_pt_sum get_pt_size get_pt_off cut_pt okL_pt size_pt lenb_pt eta_pt ldV_pt ldA_pt stA_pt ldV_ptR ldA_ptR stA_ptR get_rc_kind get_rc_id get_rc_path cut_rc_sum get_rc_size get_rc_off cut_rc okL_rc size_rc lenb_rc eta_rc ldV_rc ldA_rc stA_rc ldV_rcR ldA_rcR stA_rcR get_tk_path cut_tk_sum get_tk_size get_tk_off cut_tk_old cut_tk okL_tk size_tk lenb_tk eta_tk ldV_tk ldA_tk stA_tk ldV_tkR ldA_tkR stA_tkR get_it_path get_it_dir get_it_size cut_it_sum cut_it okL_it size_it lenb_it eta_it ldV_it ldA_it stA_it bld_pt_01234 bld_pt_0123 bld_pt_z bld_ptR_01234 bld_ptR_0123 bld_ptR_z bld_rc_012345 bld_rc_015 bld_rc_01 bld_rc_z bld_rc_01234 bld_rc_24 bld_rc_05 bld_rc_0 bld_rcR_012345 bld_rcR_015 bld_rcR_01 bld_rcR_z bld_rcR_01234 bld_rcR_24 bld_rcR_05 bld_rcR_0 bld_tk_01234 bld_tk_0 bld_tk_z bld_tkR_01234 bld_tkR_0 bld_tkR_z bld_it_0123 bld_it_023 bld_it_01 bld_it_0 bld_it_z bs0_pt bs1_pt bs0_ptR bs1_ptR bs0_rc bs1_rc bs0_rcR bs1_rcR bs0_it bs1_it
theorem lit1_R (W : World) (x : Int) (B : Nat) (hB : B ≤ W.heap.size) : Kd.R (Kd.int .u8) 5 (W.alloc (.cells #[.int .u8 x] 5)) B (fun _ => True) (.slice (some ⟨W.heap.size, 0, none⟩) 1 1) [x] :=
  Kd.R_of_own (h1 := fun _ => rfl) ⟨rfl, .inr ⟨W.heap.size, 1, #[.int .u8 x], rfl, hB, heap_alloc_new _ _, Nat.le_refl 1, by unfold maxLen; decide, rfl, rfl⟩⟩ (fun _ _ => trivial)
set_option linter.unusedVariables false in
set_option maxHeartbeats 4000000 in
set_option maxRecDepth 100000 in
theorem PutMark_calls (k : Nat) (r : Rc) (a b s t : List Int) (w : World) (hT : TabOK w) (hk : r.kind = 1) (hc : chkE r = 0) (ha : field_Num.f k r.id = some a) (hb : field_Num.f k r.off = some b) (hl : a.length + b.length ≤ 100)
    (hs : crc_Seal.f k (([1] ++ a) ++ b) = some s) (ht : field_Text.f k (strOfNums s) = some t) :
    Calls Tryd.prog 23 #[.agg (rcL r).toArray] w fun e w' => ∃ v : Value, e = .returned (.tuple #[v, .int .i64 0]) ∧ Kd.R (Kd.int .u8) 5 w' w.heap.size (fun _ => True) v t ∧ Below w.heap.size w w' := by
  obtain ⟨x1, hx1⟩ : ∃ x1, [1] ++ a = x1 := ⟨_, rfl⟩
  rw [hx1] at hs
  obtain ⟨x2, hx2⟩ : ∃ x2, x1 ++ b = x2 := ⟨_, rfl⟩
  rw [hx2] at hs
  have HX1 := Aside0.mk hx1
  have HX2 := Aside0.mk hx2
  have HLL := Aside0.mk (show x1.length + b.length ≤ 101 ∧ x2.length ≤ 101 by rw [← hx2, List.length_append, ← hx1, List.length_append, List.length_singleton]; omega)
  clear hx1 hx2
  have HT := Aside0.mk hT
  have HC := Aside0.mk hc
  have HA := Aside0.mk ha
  have HB := Aside0.mk hb
  have HS := Aside0.mk hs
  have HTX := Aside0.mk ht
  have HL := Aside0.mk hl
  clear hT hc ha hb hs ht hl
  go_enter Tryd.func23, Tryd.ntmps23
  go_wp2_with (first
    | (go_at_call 26; refine (Check_calls r _ (HT.out.below ?_)).mono ?_; (exact below_alloc (Below.refl _ _) _); rintro e w2 ⟨rfl, hb2⟩; rw [HC.out]; obtain ⟨hcl, hfz⟩ := bcell0 hb2; have c0 : w2.cell? ⟨w.heap.size, 0, none⟩ = some (.int .u8 r.kind) := (by rw [hcl _ _ (by simp)]; first | (go_simp; done) | (simp [*]; done)); have c1 : w2.cell? ⟨w.heap.size, 1, none⟩ = some (.int .i64 r.id) := (by rw [hcl _ _ (by simp)]; first | (go_simp; done) | (simp [*]; done)); have c5 : w2.cell? ⟨w.heap.size, 36, none⟩ = some (.int .i64 r.off) := (by rw [hcl _ _ (by simp)]; first | (go_simp; done) | (simp [*]; done)); have HB2 := Aside0.mk (Below.trans (below_alloc (Below.refl w.heap.size w) _) (hb2.mono (by simp))); have HS2 := Aside0.mk (show w.heap.size + 1 ≤ w2.heap.size from by have h_ := hb2.size; simpa using h_); clear hb2 hcl hfz))
  go_region_held3 (fun w' => w'.cell? ⟨w.heap.size, 0, none⟩ = some (.int .u8 r.kind) ∧ w'.cell? ⟨w.heap.size, 1, none⟩ = some (.int .i64 r.id)) (first | go_keep)
    (first
      | (go_at_call 54; refine (field_Num.calls k r.id a _ HA.out).mono ?_; rintro e w4 ⟨v4, rfl, ho4, hb4⟩; obtain ⟨A4, n4, rfl⟩ := Kd.R_slice ho4;
          (first
            | have HX := Aside0.mk (And.intro (show Below (w.heap.size + 1) w2 w4 from Below.trans (below_drew (Below.alloc (Below.refl _ _) HS2.out _)) (hb4.mono (by have := HS2.out; simp; omega))) (Kd.R_below (Kd.R_drew (lit1_R w2 1 (w.heap.size + 1) HS2.out)) hb4))
            | have HX := Aside0.mk (And.intro (show Below (w.heap.size + 1) w2 w4 from Below.trans (below_drew (Below.refl _ _)) (hb4.mono (by have := HS2.out; simp; omega))) True.intro));
          have HO4 := Aside0.mk (Kd.R_lower (base' := w.heap.size + 1) ho4 (by have := HS2.out; simp; omega));
          have c40 : w4.cell? ⟨w.heap.size, 0, none⟩ = some (.int .u8 r.kind) := (HX.out.1.cell (p := ⟨w.heap.size, 0, none⟩) (by simp)).trans c0;
          have c41 : w4.cell? ⟨w.heap.size, 1, none⟩ = some (.int .i64 r.id) := (HX.out.1.cell (p := ⟨w.heap.size, 1, none⟩) (by simp)).trans c1;
          clear ho4 hb4)
      | ((with_reducible refine gate_stepb (b := .append) (xs := #[.tmp 13, .tmp 16]) rfl ?_);
          refine Kd.R_append_rows_step (Kd.int .u8) (w0 := w2) (w.heap.size + 1) rfl (.tmp 13) (.tmp 16) 22 5 (.int .u8 0) 1 rfl Tryd.underlying22 info5 rfl (by decide) (by decide) _ [1] a A4 a.length n4 (fun _ => True) (fun _ => False) rfl rfl ?aO ?aR (fun _ _ h => h) (fun _ h => h.elim) (fun _ _ => trivial) ?aB ?aS ?aL ?_;
          (case aO => first | exact HX.out.2 | exact lit1_R w4 1 (w.heap.size + 1) (by have h_ := HX.out.1.size; have := HS2.out; omega));
          (case aR => first | exact (Kd.R_reads' HO4.out).2.2 | exact Kd.C_below (Kd.R_reads' HO4.out).2.2 (below_alloc (Below.refl _ _) _));
          (case aB => first | exact HX.out.1 | exact Below.alloc HX.out.1 (by have h_ := HX.out.1.size; have := HS2.out; omega) _);
          (case aS => have h_ := HX.out.1.size; have := HS2.out; simp; omega);
          (case aL => have := HL.out; simp; omega);
          intro v5 w5 ho5 hb5 hg5 hat5;
          rw [HX1.out] at ho5;
          have HO5 := Aside0.mk ho5;
          have HB5 := Aside0.mk hb5;
          have c50 : w5.cell? ⟨w.heap.size, 0, none⟩ = some (.int .u8 r.kind) := (hb5.cell (p := ⟨w.heap.size, 0, none⟩) (by simp)).trans c0;
          have c51 : w5.cell? ⟨w.heap.size, 1, none⟩ = some (.int .i64 r.id) := (hb5.cell (p := ⟨w.heap.size, 1, none⟩) (by simp)).trans c1;
          have c55 : w5.cell? ⟨w.heap.size, 36, none⟩ = some (.int .i64 r.off) := (hb5.cell (p := ⟨w.heap.size, 36, none⟩) (by simp)).trans c5;
          clear ho5 hb5 hg5 hat5))
  all_goals
    obtain ⟨A5, n5, rfl⟩ := Kd.R_slice HO5.out
    go_wp2_with (first
      | (go_at_call 54; refine (field_Num.calls k r.off b _ HB.out).mono ?_; rintro e w6 ⟨v6, rfl, ho6, hb6⟩; obtain ⟨A6, n6, rfl⟩ := Kd.R_slice ho6;
          have HB6 := Aside0.mk (show Below (w.heap.size + 1) w2 w6 from Below.trans HB5.out (hb6.mono (by have h_ := HB5.out.size; have := HS2.out; omega)));
          have HO6 := Aside0.mk (Kd.R_lower (base' := w.heap.size + 1) ho6 (by have h_ := HB5.out.size; have := HS2.out; omega));
          have HO56 := Aside0.mk (Kd.R_below HO5.out hb6);
          clear ho6 hb6)
      | ((with_reducible refine gate_builtin (b := .append) (xs := #[.tmp 36, .tmp 39]) rfl ?_); at_builtin;
          refine Kd.R_append_rows (Kd.int .u8) (w0 := w2) (w.heap.size + 1) rfl (.tmp 36) (.tmp 39) 22 5 (.int .u8 0) 1 rfl Tryd.underlying22 info5 rfl (by decide) (by decide) (.slice A5 x1.length n5) x1 b A6 b.length n6 (fun _ => True) (fun _ => False) rfl rfl ?aO ?aR (fun _ _ h => h) (fun _ h => h.elim) (fun _ _ => trivial) ?aB ?aS ?aL ?_;
          (case aO => exact HO56.out);
          (case aR => exact (Kd.R_reads' HO6.out).2.2);
          (case aB => exact HB6.out);
          (case aS => have h_ := HB6.out.size; have := HS2.out; omega);
          (case aL => have := HLL.out; omega);
          intro v7 w7 ho7 hb7 hg7 hat7;
          rw [HX2.out] at ho7;
          obtain ⟨A7, n7, rfl⟩ := Kd.R_slice ho7;
          have HO7 := Aside0.mk ho7;
          have HB7 := Aside0.mk hb7;
          clear ho7 hb7 hg7 hat7)
      | (go_at_call 72; refine (crc_Seal.calls k A7 n7 x2 s _ (Kd.R_reads' HO7.out).2.2 (Kd.R_reads' HO7.out).2.1 (HT.out.below (Below.trans HB2.out (HB7.out.mono (by omega)))) HS.out).mono ?_; rintro e w8 ⟨v8, rfl, ho8, hb8⟩; obtain ⟨A8, n8, rfl⟩ := Kd.R_slice ho8;
          have HB8 := Aside0.mk (show Below (w.heap.size + 1) w2 w8 from Below.trans HB7.out (hb8.mono (by have h_ := HB7.out.size; have := HS2.out; omega)));
          have hcv := Kd.C_string (P := Tryd.prog) (src := 22) (dst := 9) (c := n8) Tryd.underlying22 Tryd.underlying5 Tryd.underlying9 (Kd.R_reads' ho8).2.2;
          clear ho8 hb8)
      | (go_at_call 53; refine (field_Text.calls k (strOfNums s) t _ HTX.out).mono ?_; rintro e w9 ⟨v9, rfl, ho9, hb9⟩; obtain ⟨A9, n9, rfl⟩ := Kd.R_slice ho9;
          have HO9 := Aside0.mk (Kd.R_lower (base' := w.heap.size) ho9 (by have h_ := HB8.out.size; have := HS2.out; omega));
          have HB9 := Aside0.mk (show Below w.heap.size w w9 from Below.trans HB2.out ((Below.trans HB8.out (hb9.mono (by have h_ := HB8.out.size; have := HS2.out; omega))).mono (by omega)));
          clear ho9 hb9))
    go_ret2
    exact ⟨_, rfl, HO9.out, HB9.out⟩
end Go.Proofs.YtiohgpcbdefokaaDoor.B
/- sumpterlaw15.awake. No condition. -/
namespace Go.Proofs.YtiohgpcbdefokaaDoor.B
open Go.RowKit Go.Proofs.YtiohgpcbdefokaaDoorW.PrintWords Go.Proofs.YtiohgpcbdefokaaDoor.RowLaws
attribute [local go_sem ↓ high] lvO_hs ldO_hs stO_hs lvO_pt ldO_pt stO_pt zero_pt eqA_pt lvO_ptR ldO_ptR stO_ptR zero_ptR eqA_ptR lvO_rc ldO_rc stO_rc zero_rc eqA_rc lvO_rcR ldO_rcR stO_rcR zero_rcR eqA_rcR lvO_tk ldO_tk stO_tk zero_tk eqA_tk lvO_tkR ldO_tkR stO_tkR zero_tkR eqA_tkR lvO_it ldO_it stO_it zero_it eqA_it blO_pt blO_ptR blO_rc blO_rcR blO_tk blO_tkR blO_it bsO_pt bsO_ptR bsO_rc bsO_rcR bsO_it
attribute [local go_sem high] rowAt_setCell rowAt_setRow cell_setRow_ne isRow_setRow_ne rowAt_alloc rowAt_drew isRow_alloc isRow_drew isRow_setCell rowRun_some okL_hs ldV_hs ldA_hs stA_hs setRow_alloc get_pt_id get_pt_path cut_pt_sum get_pt_size get_pt_off cut_pt okL_pt size_pt lenb_pt eta_pt ldV_pt ldA_pt stA_pt ldV_ptR ldA_ptR stA_ptR get_rc_kind get_rc_id get_rc_path cut_rc_sum get_rc_size get_rc_off cut_rc okL_rc size_rc lenb_rc eta_rc ldV_rc ldA_rc stA_rc ldV_rcR ldA_rcR stA_rcR get_tk_path cut_tk_sum get_tk_size get_tk_off cut_tk_old cut_tk okL_tk size_tk lenb_tk eta_tk ldV_tk ldA_tk stA_tk ldV_tkR ldA_tkR stA_tkR get_it_path get_it_dir get_it_size cut_it_sum cut_it okL_it size_it lenb_it eta_it ldV_it ldA_it stA_it bld_pt_01234 bld_pt_0123 bld_pt_z bld_ptR_01234 bld_ptR_0123 bld_ptR_z bld_rc_012345 bld_rc_015 bld_rc_01 bld_rc_z bld_rc_01234 bld_rc_24 bld_rc_05 bld_rc_0 bld_rcR_012345 bld_rcR_015 bld_rcR_01 bld_rcR_z bld_rcR_01234 bld_rcR_24 bld_rcR_05 bld_rcR_0 bld_tk_01234 bld_tk_0 bld_tk_z bld_tkR_01234 bld_tkR_0 bld_tkR_z bld_it_0123 bld_it_023 bld_it_01 bld_it_0 bld_it_z bs0_pt bs1_pt bs0_ptR bs1_ptR bs0_rc bs1_rc bs0_rcR bs1_rcR bs0_it bs1_it
def rA : Rc := ⟨1, 5, ByteArray.empty, Hs.zero, 0, 9⟩
def sA : List Int := (crc_Seal.f 40 (([1] ++ [5]) ++ [9])).getD []
def tA : List Int := (field_Text.f 40 (strOfNums sA)).getD []
theorem sA_eq : crc_Seal.f 40 (([1] ++ [5]) ++ [9]) = some sA := by decide +kernel
theorem tA_eq : field_Text.f 40 (strOfNums sA) = some tA := by decide +kernel
theorem chkA : chkE rA = 0 := by
  unfold chkE
  rw [if_neg (by decide), if_neg (by decide), if_pos (show rA = bareRc rA from rfl)]
  decide
theorem eightA : Eight 40 tA rA where
  len := by decide +kernel
  num := by decide +kernel
  open_ := by decide +kernel
  one := by decide +kernel
  two := by decide +kernel
  lo := by decide
  lo2 := by decide
  is := rfl
  chk := chkA
theorem takeA : tA.take 4 = [7, 1, 5, 9] := by decide +kernel
def r1A : Rc := ⟨0, 0, ⟨#[97]⟩, Hs.zero, 9, 0⟩
def r2A : Rc := ⟨1, 0, ByteArray.empty, Hs.zero, 0, 3⟩
def r3A : Rc := ⟨2, 0, ByteArray.empty, Hs.zero, 0, 0⟩
theorem playA : playP [r1A, r2A, r3A] = (⟨[], 1⟩, 3) := by decide +kernel
theorem numA5 : field_Num.f 40 5 = some [5] := by decide +kernel
theorem numA9 : field_Num.f 40 9 = some [9] := by decide +kernel
theorem bs3_rc (w : World) : (bslRow 57 3 #[(0, .agg (rcL ⟨0, 0, ⟨#[97]⟩, Hs.zero, 9, 0⟩).toArray), (1, .agg (rcL ⟨1, 0, ByteArray.empty, Hs.zero, 0, 3⟩).toArray), (2, .agg (rcL ⟨2, 0, ByteArray.empty, Hs.zero, 0, 0⟩).toArray)]).run Tryd.prog w = .ok (.slice (some ⟨w.heap.size, 0, none⟩) 3 3) (w.alloc (.cells (rcL r1A ++ (rcL r2A ++ rcL r3A)).toArray 51)) := by kernel_rfl
theorem C3 (w : World) (a b c : Rc) (t : TypeId) : Kd.C kRc (w.alloc (.cells (rcL a ++ (rcL b ++ rcL c)).toArray t)) (some ⟨w.heap.size, 0, none⟩) 3 [a, b, c] := by
  refine ⟨rfl, by decide, fun _ => ⟨_, rfl, fun j p hp => ⟨rcL p, rcL_len p, rfl, fun i u hu => ?_⟩⟩⟩
  have hi : i < 37 := by have := (List.getElem?_eq_some_iff.1 hu).1; rwa [rcL_len] at this
  have hz : kRc.sz = 37 := rfl
  rw [hz, Addr.add_mid, cell_of_row _ _ _ _ _ _ (heap_alloc_new _ _)]
  rw [List.getElem?_toArray, Nat.zero_add]
  match j, hp with
  | 0, hp =>
    obtain rfl : a = p := by simpa using hp
    rw [List.getElem?_append_left (by rw [rcL_len]; omega)]
    simpa using hu
  | 1, hp =>
    obtain rfl : b = p := by simpa using hp
    rw [List.getElem?_append_right (by rw [rcL_len]; omega), List.getElem?_append_left (by rw [rcL_len, rcL_len]; omega), rcL_len]
    rw [show 1 * 37 + i - 37 = i by omega]; exact hu
  | 2, hp =>
    obtain rfl : c = p := by simpa using hp
    rw [List.getElem?_append_right (by rw [rcL_len]; omega), List.getElem?_append_right (by rw [rcL_len, rcL_len]; omega), rcL_len, rcL_len]
    rw [show 2 * 37 + i - 37 - 37 = i by omega]; exact hu
attribute [local go_sem high] bs3_rc
set_option linter.unusedVariables false in
set_option maxHeartbeats 8000000 in
set_option maxRecDepth 100000 in
theorem awake_calls (w : World) (hT : TabOK w) : Calls Tryd.prog 22 #[] w fun e w' => e = .returned (.bool true) ∧ Below w.heap.size w w' := by
  have HT := Aside0.mk hT
  have HT8 := Aside0.mk eightA.len
  clear hT
  go_enter Tryd.func22, Tryd.ntmps22
  go_wp2_with (first
    | (go_at_call 23; refine (PutMark_calls 40 rA [5] [9] sA tA _ HT.out rfl chkA numA5 numA9 (by decide) sA_eq tA_eq).mono ?_; rintro e w2 ⟨v2, rfl, ho2, hb2⟩; obtain ⟨A2, c2, rfl⟩ := Kd.R_slice ho2; have HR2 := Aside0.mk (Kd.R_reads' ho2); rw [HT8.out]; rw [HT8.out] at HR2; have HB2 := Aside0.mk hb2; clear ho2 hb2)
    | (go_at_call 35; refine (Scan_calls 40 A2 c2 tA rA _ (HT.out.below HB2.out) HR2.out.2.2 HR2.out.2.1 eightA).mono ?_; rintro e w3 ⟨v3, rfl, ho3, hb3⟩; obtain ⟨A3, c3, rfl⟩ := Kd.R_slice ho3; have HR3 := Aside0.mk (Kd.R_reads' ho3).2.2; have HC3 := Aside0.mk (Kd.C_below HR2.out.2.2 hb3); have HB3 := Aside0.mk (below_step HB2.out hb3); clear ho3 hb3)
    | (go_at_call 31; have hq := Play_calls (some ⟨w3.heap.size, 0, none⟩) 3 [r1A, r2A, r3A] (w3.alloc (.cells (rcL r1A ++ (rcL r2A ++ rcL r3A)).toArray 51)) (C3 w3 r1A r2A r3A _) (by decide) (by intro r hr; simp only [List.mem_cons, List.not_mem_nil, or_false] at hr; rcases hr with rfl | rfl | rfl <;> exact ⟨by decide, by decide⟩); rw [playA] at hq; refine Calls.mono (show Calls _ _ #[.slice (some ⟨w3.heap.size, 0, none⟩) 3 3] _ _ from hq) ?_; clear hq; rintro e w4 ⟨v4, rfl, ho4, hb4⟩; obtain ⟨A4, c4, rfl⟩ := Kd.R_slice ho4; have HB4 := Aside0.mk (below_step (below_alloc HB3.out _) hb4); have HC4 := Aside0.mk (Kd.C_below (Kd.C_below HC3.out (below_alloc (Below.refl _ _) _)) hb4); have hr4 := Kd.C_below (Kd.C_below HR3.out (below_alloc (Below.refl _ _) _)) hb4;
        obtain ⟨b, o, rfl, hb, hcl⟩ := flat_at hr4 (by decide) (by decide);
        have q36 := (hcl 0 (by decide)).2 36 _ (get_rc_off rA);
        rw [Nat.zero_mul, Nat.add_zero] at q36;
        have q36' : w4.cell? ⟨b, o + 36, none⟩ = some (.int .i64 9) := q36;
        have hbn : ¬ (b = w4.heap.size) := (by omega);
        have ht := print_take_of (P := Tryd.prog) (Value.int .u8) 0 22 5 .i64 Tryd.underlying22 (info_parts info5).choose_spec.1 (info_parts info5).choose_spec.2.2.1 A2 c2 tA 4 (by decide) (by rw [HT8.out]; decide) (by have := HR2.out.2.1; rw [HT8.out]; exact this);
        rw [show ((4 : Int)).toNat = 4 from rfl, takeA, HT8.out] at ht;
        have hcut := ht.1 (w4.alloc (.cells #[.slice A4 0 c4, .int .i64 1] 60));
        have hcv := Kd.C_string (P := Tryd.prog) (src := 22) (dst := 9) (c := c2) Tryd.underlying22 Tryd.underlying5 Tryd.underlying9 (Kd.C_below (Kd.C_of_reads (h1 := fun _ => rfl) (ht.2.1 w4 (Kd.reads_of_C HC4.out))) (below_alloc (Below.refl _ _) (.cells #[.slice A4 0 c4, .int .i64 1] 60)));
        rw [show strOfNums [7, 1, 5, 9] = ⟨#[7, 1, 5, 9]⟩ from rfl, show ([7, 1, 5, 9] : List Int).length = 4 from rfl] at hcv;
        rw [show ([7, 1, 5, 9] : List Int).length = 4 from rfl] at hcut;
        clear ho4 hb4 hr4 hcl ht q36))
  go_ret
  exact ⟨rfl, below_alloc HB4.out _⟩
end Go.Proofs.YtiohgpcbdefokaaDoor.B
/- A record of the one side is a record of the other. No condition. -/
namespace Go.Proofs.YtiohgpcbdefokaaDoor.B
open Go.RowKit Go.Proofs.YtiohgpcbdefokaaDoorW.PrintWords
attribute [local go_sem ↓ high] lvO_hs ldO_hs stO_hs lvO_pt ldO_pt stO_pt zero_pt eqA_pt lvO_ptR ldO_ptR stO_ptR zero_ptR eqA_ptR lvO_rc ldO_rc stO_rc zero_rc eqA_rc lvO_rcR ldO_rcR stO_rcR zero_rcR eqA_rcR lvO_tk ldO_tk stO_tk zero_tk eqA_tk lvO_tkR ldO_tkR stO_tkR zero_tkR eqA_tkR lvO_it ldO_it stO_it zero_it eqA_it blO_pt blO_ptR blO_rc blO_rcR blO_tk blO_tkR blO_it bsO_pt bsO_ptR bsO_rc bsO_rcR bsO_it
attribute [local go_sem high] rowAt_setCell rowAt_setRow cell_setRow_ne isRow_setRow_ne rowAt_alloc rowAt_drew isRow_alloc isRow_drew isRow_setCell rowRun_some okL_hs ldV_hs ldA_hs stA_hs setRow_alloc get_pt_id get_pt_path cut_pt_sum get_pt_size get_pt_off cut_pt okL_pt size_pt lenb_pt eta_pt ldV_pt ldA_pt stA_pt ldV_ptR ldA_ptR stA_ptR get_rc_kind get_rc_id get_rc_path cut_rc_sum get_rc_size get_rc_off cut_rc okL_rc size_rc lenb_rc eta_rc ldV_rc ldA_rc stA_rc ldV_rcR ldA_rcR stA_rcR get_tk_path cut_tk_sum get_tk_size get_tk_off cut_tk_old cut_tk okL_tk size_tk lenb_tk eta_tk ldV_tk ldA_tk stA_tk ldV_tkR ldA_tkR stA_tkR get_it_path get_it_dir get_it_size cut_it_sum cut_it okL_it size_it lenb_it eta_it ldV_it ldA_it stA_it bld_pt_01234 bld_pt_0123 bld_pt_z bld_ptR_01234 bld_ptR_0123 bld_ptR_z bld_rc_012345 bld_rc_015 bld_rc_01 bld_rc_z bld_rc_01234 bld_rc_24 bld_rc_05 bld_rc_0 bld_rcR_012345 bld_rcR_015 bld_rcR_01 bld_rcR_z bld_rcR_01234 bld_rcR_24 bld_rcR_05 bld_rcR_0 bld_tk_01234 bld_tk_0 bld_tk_z bld_tkR_01234 bld_tkR_0 bld_tkR_z bld_it_0123 bld_it_023 bld_it_01 bld_it_0 bld_it_z bs0_pt bs1_pt bs0_ptR bs1_ptR bs0_rc bs1_rc bs0_rcR bs1_rcR bs0_it bs1_it
set_option maxRecDepth 100000 in
set_option maxHeartbeats 4000000 in
theorem own_calls (r : Rc) (w : World) :
    Calls Tryd.prog 24 #[.agg (rcL r).toArray] w fun e w' => e = .returned (.agg (rcL r).toArray) ∧ Below w.heap.size w w' := by
  go_enter Tryd.func24, Tryd.ntmps24
  go_wp2
  exact bodyPost_ret (v := .agg (rcL r).toArray) (res1 rfl rfl (lv_rc (by simp [rowAt_alloc, cut_rc]))) rfl ⟨rfl, below_alloc (below_alloc (Below.refl _ _) _) _⟩
end Go.Proofs.YtiohgpcbdefokaaDoor.B
/- What the walks of RecordRises and RecordImaged tell of the box of the state. No condition. -/
namespace Go.Proofs.YtiohgpcbdefokaaDoor.B
open Go.RowKit Go.Proofs.YtiohgpcbdefokaaDoorW.PrintWords Go.Proofs.YtiohgpcbdefokaaDoor.RowLaws
attribute [local go_sem ↓ high] lvO_hs ldO_hs stO_hs lvO_pt ldO_pt stO_pt zero_pt eqA_pt lvO_ptR ldO_ptR stO_ptR zero_ptR eqA_ptR lvO_rc ldO_rc stO_rc zero_rc eqA_rc lvO_rcR ldO_rcR stO_rcR zero_rcR eqA_rcR lvO_tk ldO_tk stO_tk zero_tk eqA_tk lvO_tkR ldO_tkR stO_tkR zero_tkR eqA_tkR lvO_it ldO_it stO_it zero_it eqA_it blO_pt blO_ptR blO_rc blO_rcR blO_tk blO_tkR blO_it bsO_pt bsO_ptR bsO_rc bsO_rcR bsO_it
attribute [local go_sem high] rowAt_setCell rowAt_setRow cell_setRow_ne isRow_setRow_ne rowAt_alloc rowAt_drew isRow_alloc isRow_drew isRow_setCell rowRun_some okL_hs ldV_hs ldA_hs stA_hs setRow_alloc get_pt_id get_pt_path cut_pt_sum get_pt_size get_pt_off cut_pt okL_pt size_pt lenb_pt eta_pt ldV_pt ldA_pt stA_pt ldV_ptR ldA_ptR stA_ptR get_rc_kind get_rc_id get_rc_path cut_rc_sum get_rc_size get_rc_off cut_rc okL_rc size_rc lenb_rc eta_rc ldV_rc ldA_rc stA_rc ldV_rcR ldA_rcR stA_rcR get_tk_path cut_tk_sum get_tk_size get_tk_off cut_tk_old cut_tk okL_tk size_tk lenb_tk eta_tk ldV_tk ldA_tk stA_tk ldV_tkR ldA_tkR stA_tkR get_it_path get_it_dir get_it_size cut_it_sum cut_it okL_it size_it lenb_it eta_it ldV_it ldA_it stA_it bld_pt_01234 bld_pt_0123 bld_pt_z bld_ptR_01234 bld_ptR_0123 bld_ptR_z bld_rc_012345 bld_rc_015 bld_rc_01 bld_rc_z bld_rc_01234 bld_rc_24 bld_rc_05 bld_rc_0 bld_rcR_012345 bld_rcR_015 bld_rcR_01 bld_rcR_z bld_rcR_01234 bld_rcR_24 bld_rcR_05 bld_rcR_0 bld_tk_01234 bld_tk_0 bld_tk_z bld_tkR_01234 bld_tkR_0 bld_tkR_z bld_it_0123 bld_it_023 bld_it_01 bld_it_0 bld_it_z bs0_pt bs1_pt bs0_ptR bs1_ptR bs0_rc bs1_rc bs0_rcR bs1_rcR bs0_it bs1_it
attribute [local irreducible] wpStill
/-- The box of the state, and its parts. -/
structure StW (w : World) (ps : List Pt) (nx : Int) (wr : World) : Prop where
  b : Below w.heap.size w wr
  z : w.heap.size + 1 ≤ wr.heap.size
  good : Good ⟨ps, nx⟩
  at_ : ∃ A2 c2, wr.cell? ⟨w.heap.size, 0, none⟩ = some (.slice A2 ps.length c2) ∧ wr.cell? ⟨w.heap.size, 1, none⟩ = some (.int .i64 nx) ∧ wr.frozen? ⟨w.heap.size, 0, none⟩ = false ∧ wr.frozen? ⟨w.heap.size, 1, none⟩ = false ∧ Kd.R kPt 75 wr (w.heap.size + 1) (fun _ => True) (.slice A2 ps.length c2) ps
theorem StW.below {w : World} {ps : List Pt} {nx : Int} {wr W : World} (h : StW w ps nx wr) (hb : Below wr.heap.size wr W) : StW w ps nx W := by
  obtain ⟨h1, h2, h3, A2, c2, m0, m1, m2, m3, hO⟩ := h
  have hs := hb.size
  exact ⟨below_step h1 hb, by omega, h3, A2, c2, (hb.cell (p := ⟨w.heap.size, 0, none⟩) (by show w.heap.size < _; omega)).trans m0, (hb.cell (p := ⟨w.heap.size, 1, none⟩) (by show w.heap.size < _; omega)).trans m1, (hb.frozen (p := ⟨w.heap.size, 0, none⟩) (by show w.heap.size < _; omega)).trans m2, (hb.frozen (p := ⟨w.heap.size, 1, none⟩) (by show w.heap.size < _; omega)).trans m3, Kd.R_below hO hb⟩
/-- What an argument's record holds, as it can be read. -/
def okRc (r : Rc) : Prop := 0 ≤ r.kind ∧ -9223372036854775808 ≤ r.id ∧ r.path.size ≤ 9223372036854775807
theorem keepS {A : Option Addr} {n c g b o B : Nat} {nx : Int} {x : Rc} {w W : World} (hS : w.cell? ⟨g, 0, none⟩ = some (.slice A n c) ∧ w.cell? ⟨g, 1, none⟩ = some (.int .i64 nx) ∧ rowAt w ⟨b, o, none⟩ 37 = some (rcL x)) (hb : Below B w W) (h1 : g < B) (h2 : b < B) :
    W.cell? ⟨g, 0, none⟩ = some (.slice A n c) ∧ W.cell? ⟨g, 1, none⟩ = some (.int .i64 nx) ∧ rowAt W ⟨b, o, none⟩ 37 = some (rcL x) :=
  ⟨(hb.cell (p := ⟨g, 0, none⟩) h1).trans hS.1, (hb.cell (p := ⟨g, 1, none⟩) h1).trans hS.2.1, by rw [rowAt_below hb h2]; exact hS.2.2⟩
/-- Behind a step: the box tb of the new state. -/
structure TB (w : World) (A2 : Option Addr) (c2 : Nat) (ps : List Pt) (nx : Int) (A6 : Option Addr) (c6 : Nat) (ql : List Pt) (qn : Int) (tb : Nat) (W : World) : Prop where
  b : Below w.heap.size w W
  cps : Kd.C kPt W A2 ps.length ps
  lo : w.heap.size + 1 ≤ tb
  hi : tb < W.heap.size
  t0 : W.cell? ⟨tb, 0, none⟩ = some (.slice A6 ql.length c6)
  t1 : W.cell? ⟨tb, 1, none⟩ = some (.int .i64 qn)
  s0 : W.cell? ⟨w.heap.size, 0, none⟩ = some (.slice A2 ps.length c2)
  s1 : W.cell? ⟨w.heap.size, 1, none⟩ = some (.int .i64 nx)
  f0 : W.frozen? ⟨w.heap.size, 0, none⟩ = false
  f1 : W.frozen? ⟨w.heap.size, 1, none⟩ = false
  o : Kd.R kPt 75 W (w.heap.size + 1) (fun _ => True) (.slice A6 ql.length c6) ql
theorem TB.below {w : World} {A2 : Option Addr} {c2 : Nat} {ps : List Pt} {nx : Int} {A6 : Option Addr} {c6 : Nat} {ql : List Pt} {qn : Int} {tb : Nat} {W W' : World} (h : TB w A2 c2 ps nx A6 c6 ql qn tb W) (hb : Below W.heap.size W W') : TB w A2 c2 ps nx A6 c6 ql qn tb W' := by
  have hs := hb.size
  have hw := World.block_lt_of_cell? _ _ h.s0
  exact ⟨below_step h.b hb, Kd.C_below h.cps hb, h.lo, by have := h.hi; omega, (hb.cell (World.block_lt_of_cell? _ _ h.t0)).trans h.t0, (hb.cell (World.block_lt_of_cell? _ _ h.t1)).trans h.t1, (hb.cell (World.block_lt_of_cell? _ _ h.s0)).trans h.s0, (hb.cell (World.block_lt_of_cell? _ _ h.s1)).trans h.s1, (hb.frozen (p := ⟨w.heap.size, 0, none⟩) hw).trans h.f0, (hb.frozen (p := ⟨w.heap.size, 1, none⟩) hw).trans h.f1, Kd.R_below h.o hb⟩
theorem step_slice (A2 : Option Addr) (c2 : Nat) (ps : List Pt) (nx : Int) (x : Rc) (hc : ps.length ≤ c2) (hl : ps.length ≤ 64) (h1 : x.id ≤ 2199023255552) (h2 : -9223372036854775808 ≤ x.id) {ql : List Pt} {qn : Int} {qb : Bool} (hq : stepP ⟨ps, nx⟩ x = (⟨ql, qn⟩, qb)) (W : World) (hC : Kd.C kPt W A2 ps.length ps) :
    Calls Tryd.prog 27 #[.agg #[.slice A2 ps.length c2, .int .i64 nx], .agg (rcL x).toArray] W fun e w' => ∃ (A6 : Option Addr) (c6 : Nat), e = .returned (.tuple #[.agg #[.slice A6 ql.length c6, .int .i64 qn], .bool qb]) ∧ Kd.R kPt 75 w' W.heap.size (fun _ => True) (.slice A6 ql.length c6) ql ∧ Below W.heap.size W w' := by
  refine (Step_calls A2 c2 ps nx x W hC hc hl h1 h2).mono ?_
  rintro e w6 ⟨v6, he6, ho6, hb6⟩
  rw [hq] at he6 ho6
  subst he6
  obtain ⟨A6, c6, rfl⟩ := Kd.R_slice ho6
  exact ⟨A6, c6, rfl, ho6, hb6⟩
end Go.Proofs.YtiohgpcbdefokaaDoor.B
/- The document's answer for records played: its walk. No condition. -/
namespace Go.Proofs.YtiohgpcbdefokaaDoor.B
open Go.RowKit Go.Proofs.YtiohgpcbdefokaaDoorW.PrintWords Go.Proofs.YtiohgpcbdefokaaDoor.RowLaws
attribute [local go_sem ↓ high] lvO_hs ldO_hs stO_hs lvO_pt ldO_pt stO_pt zero_pt eqA_pt lvO_ptR ldO_ptR stO_ptR zero_ptR eqA_ptR lvO_rc ldO_rc stO_rc zero_rc eqA_rc lvO_rcR ldO_rcR stO_rcR zero_rcR eqA_rcR lvO_tk ldO_tk stO_tk zero_tk eqA_tk lvO_tkR ldO_tkR stO_tkR zero_tkR eqA_tkR lvO_it ldO_it stO_it zero_it eqA_it blO_pt blO_ptR blO_rc blO_rcR blO_tk blO_tkR blO_it bsO_pt bsO_ptR bsO_rc bsO_rcR bsO_it
attribute [local go_sem high] rowAt_setCell rowAt_setRow cell_setRow_ne isRow_setRow_ne rowAt_alloc rowAt_drew isRow_alloc isRow_drew isRow_setCell rowRun_some okL_hs ldV_hs ldA_hs stA_hs setRow_alloc get_pt_id get_pt_path cut_pt_sum get_pt_size get_pt_off cut_pt okL_pt size_pt lenb_pt eta_pt ldV_pt ldA_pt stA_pt ldV_ptR ldA_ptR stA_ptR get_rc_kind get_rc_id get_rc_path cut_rc_sum get_rc_size get_rc_off cut_rc okL_rc size_rc lenb_rc eta_rc ldV_rc ldA_rc stA_rc ldV_rcR ldA_rcR stA_rcR get_tk_path cut_tk_sum get_tk_size get_tk_off cut_tk_old cut_tk okL_tk size_tk lenb_tk eta_tk ldV_tk ldA_tk stA_tk ldV_tkR ldA_tkR stA_tkR get_it_path get_it_dir get_it_size cut_it_sum cut_it okL_it size_it lenb_it eta_it ldV_it ldA_it stA_it bld_pt_01234 bld_pt_0123 bld_pt_z bld_ptR_01234 bld_ptR_0123 bld_ptR_z bld_rc_012345 bld_rc_015 bld_rc_01 bld_rc_z bld_rc_01234 bld_rc_24 bld_rc_05 bld_rc_0 bld_rcR_012345 bld_rcR_015 bld_rcR_01 bld_rcR_z bld_rcR_01234 bld_rcR_24 bld_rcR_05 bld_rcR_0 bld_tk_01234 bld_tk_0 bld_tk_z bld_tkR_01234 bld_tkR_0 bld_tkR_z bld_it_0123 bld_it_023 bld_it_01 bld_it_0 bld_it_z bs0_pt bs1_pt bs0_ptR bs1_ptR bs0_rc bs1_rc bs0_rcR bs1_rcR bs0_it bs1_it
attribute [local irreducible] wpStill
set_option linter.unusedVariables false in
set_option maxHeartbeats 16000000 in
set_option maxRecDepth 100000 in
theorem PlayR_calls (A : Option Addr) (c : Nat) (l : List Rc) (w : World) (hC : Kd.C kRc w A l.length l) (hlen : l.length ≤ 1000) (hid : ∀ r ∈ l, okK r) :
    Calls Tryd.prog 32 #[.slice A l.length c] w fun e w' => ∃ (A9 : Option Addr) (c9 : Nat), e = .returned (.tuple #[.agg #[.slice A9 (playP l).1.parts.length c9, .int .i64 (playP l).1.next], .int .i64 ((playP l).2 : Nat)]) ∧ Kd.C kPt w' A9 (playP l).1.parts.length (playP l).1.parts ∧ Below w.heap.size w w' := by
  have HC := Aside0.mk hC
  have HID := Aside0.mk hid
  clear hC hid
  go_enter Tryd.func32, Tryd.ntmps32
  go_wp2
  go_loopw [5] (fun iv wr => ∃ (k : Nat) (ps : List Pt) (nx : Int) (A2 : Option Addr) (c2 : Nat), k ≤ l.length ∧ iv = .int .i64 k ∧ Aside0 (PlR w ps nx A2 c2 wr) ∧ Aside0 (Ord ⟨ps, nx⟩) ∧ Aside0 (playP l = ((playAt ⟨ps, nx⟩ (l.drop k)).1, (playAt ⟨ps, nx⟩ (l.drop k)).2 + k))) (fun iv _ => l.length - (intOf iv).toNat)
  case atStart =>
    refine ⟨0, [], 0, none, 0, Nat.zero_le _, rfl, ⟨⟨below_alloc (below_alloc (Below.refl _ _) _) _, by simp, ?_, ?_, ?_, ?_, ?_, ?_, ?_, ?_, ⟨rfl, by decide, fun h => absurd h (by decide)⟩, Nat.le_refl _, (by intro ad e; cases e)⟩⟩, ⟨ord_zero⟩, ⟨by rw [List.drop_zero]; rfl⟩⟩ <;> first | (go_simp; done) | (simp; done)
  case round =>
    obtain ⟨k, ps, nx, A2, c2, hk, rfl, HW, HORD, HP⟩ := hrel
    have hz := HW.out.z
    have s0 := HW.out.s0
    have s1 := HW.out.s1
    have n3 : w.heap.size + 1 < wr.heap.size := by omega
    by_cases hlt : k < l.length
    · obtain ⟨b, o, hA, hb, hr⟩ := flat_at HC.out (by decide) (by omega)
      subst hA
      obtain ⟨hrow, _⟩ := hr k hlt
      rw [← rowAt_below HW.out.b hb] at hrow
      have HX := Aside0.mk (show l[k]? = some l[k] from List.getElem?_eq_getElem hlt)
      have HX1 := Aside0.mk (HID.out l[k] (List.getElem_mem hlt))
      obtain ⟨x, hx⟩ : ∃ x, x = l[k] := ⟨_, rfl⟩
      rw [← hx] at hrow HX HX1
      clear hr hx
      have hlt2 : (k : Int) < (l.length : Int) := by omega
      have hbn : b < wr.heap.size := by have := HW.out.b.size; omega
      obtain ⟨q, hq⟩ : ∃ q, stepP ⟨ps, nx⟩ x = q := ⟨_, rfl⟩
      have HO2 := Aside0.mk (ord_step (r := x) HORD.out)
      rw [hq] at HO2
      obtain ⟨⟨ql, qn⟩, qb⟩ := q
      have HQ := Aside0.mk hq
      have HSTEP := Aside0.mk (fun (W : World) (h : Kd.C kPt W A2 ps.length ps) => (StepR_calls A2 c2 ps nx x W h HW.out.cc HORD.out.few HX1.out.2.1 HX1.out.2.2 HX1.out.1 HORD.out.ids).mono (fun _ _ h => step_ret hq h))
      clear hq
      go_upto_region 5 with (fail)
      go_cut [6, 7] (fun v6 v7 wx => ∃ (tb : Nat) (A4 : Option Addr) (c4 : Nat), v6 = .pointer (some ⟨tb, 0, none⟩) ∧ v7 = .bool qb ∧ Aside0 (PlT w ps nx A2 c2 ql qn A4 c4 tb wx))
      case first =>
        go_region_held3 (fun w' => w'.cell? ⟨w.heap.size + 1, 0, none⟩ = some (.slice A2 ps.length c2) ∧ w'.cell? ⟨w.heap.size + 1, 1, none⟩ = some (.int .i64 nx) ∧ rowAt w' ⟨b, o + k * 37, none⟩ 37 = some (rcL x)) (first | assumption | (refine keepS (B := wr.heap.size) hS4 ?_ (by omega) (by omega); (repeat' (first | exact HB4.out | (with_reducible exact Below.refl _ _) | (with_reducible refine below_drew ?_) | (with_reducible refine Below.alloc ?_ ?_ _) | (with_reducible refine below_setCell ?_ ?_ _) | omega | (simp; done) | (simp; omega))); done) | (refine keepS (B := wr.heap.size) (And.intro s0 (And.intro s1 hrow)) ?_ (by omega) (by omega); (repeat' (first | exact HB4.out | (with_reducible exact Below.refl _ _) | (with_reducible refine below_drew ?_) | (with_reducible refine Below.alloc ?_ ?_ _) | (with_reducible refine below_setCell ?_ ?_ _) | omega | (simp; done) | (simp; omega))); done))
          (first
          | (go_at_call 28; refine (HSTEP.out _ ?hc1).mono ?_; (case hc1 => exact Kd.C_below HW.out.c (by (repeat' (first | exact HB4.out | (with_reducible exact Below.refl _ _) | (with_reducible refine below_drew ?_) | (with_reducible refine Below.alloc ?_ ?_ _) | (with_reducible refine below_setCell ?_ ?_ _) | omega | (simp; done) | (simp; omega))))); rintro e w4 ⟨A4, c4, rfl, hc4, hcc4, hb4, ho4⟩; have HB4 := Aside0.mk (show Below wr.heap.size wr w4 from Below.trans (by (repeat' (first | exact HB4.out | (with_reducible exact Below.refl _ _) | (with_reducible refine below_drew ?_) | (with_reducible refine Below.alloc ?_ ?_ _) | (with_reducible refine below_setCell ?_ ?_ _) | omega | (simp; done) | (simp; omega)))) (hb4.mono (by first | omega | (simp; done) | (simp; omega)))); have HR4 := Aside0.mk (And.intro hc4 (And.intro hcc4 ho4)); have hs4 := HB4.out.size; have hS4 := keepS (B := wr.heap.size) (And.intro s0 (And.intro s1 hrow)) HB4.out n3 hbn; (first | (have t40 : w4.cell? ⟨wr.heap.size, 0, none⟩ = some (.slice none 0 0) := (hb4.cell (p := ⟨wr.heap.size, 0, none⟩) (by simp)).trans (cell_of_row _ _ _ _ _ _ (heap_alloc_new _ _)); have t41 : w4.cell? ⟨wr.heap.size, 1, none⟩ = some (.int .i64 0) := (hb4.cell (p := ⟨wr.heap.size, 1, none⟩) (by simp)).trans (cell_of_row _ _ _ _ _ _ (heap_alloc_new _ _)); have u40 : w4.frozen? ⟨wr.heap.size, 0, none⟩ = false := (hb4.frozen (p := ⟨wr.heap.size, 0, none⟩) (by simp)).trans (blk_frozen (heap_alloc_new _ _) _); have u41 : w4.frozen? ⟨wr.heap.size, 1, none⟩ = false := (hb4.frozen (p := ⟨wr.heap.size, 1, none⟩) (by simp)).trans (blk_frozen (heap_alloc_new _ _) _)) | skip); clear hc4 hcc4 ho4 hb4))
        all_goals
          go_wp2_with fail
          go_meet
          first
            | exact ⟨_, A4, c4, rfl, rfl, ⟨plt_alloc HW.out HB4.out (by first | omega | (simp; done) | (simp; omega)) HR4.out.1 HR4.out.2.1 HR4.out.2.2⟩⟩
            | exact ⟨_, A4, c4, rfl, rfl, ⟨plt_set HW.out HB4.out (Nat.le_refl _) (by first | omega | (simp; done) | (simp; omega)) HR4.out.1 HR4.out.2.1 HR4.out.2.2 t40 t41⟩⟩
      case rest =>
        obtain ⟨tb, A4, c4, rfl, rfl, HT⟩ := hcut
        have z0 := HT.out.t0
        have z1 := HT.out.t1
        have e0 := HT.out.p.s0
        have e1 := HT.out.p.s1
        have e2 := HT.out.p.g0
        have e3 := HT.out.p.g1
        have e4 := HT.out.p.t0
        have e5 := HT.out.p.t1
        have e6 := HT.out.p.f0
        have e7 := HT.out.p.f1
        have ntb : ¬ (w.heap.size + 1 = tb) := by have := HT.out.lo; omega
        have ntb2 : ¬ (tb = w.heap.size + 1) := by have := HT.out.lo; omega
        clear s0 s1 hrow n3 hbn
        cases qb with
        | true =>
          go_wp2
          all_goals
            go_roundw
            case rel => exact ⟨k + 1, ql, qn, A4, c4, by omega, by simp, ⟨plr_next HT.out⟩, HO2, ⟨by rw [HP.out, play_step HX.out HQ.out]; simp only; congr 1; omega⟩⟩
            case measure => simp [intOf]; omega
        | false =>
          go_wp2
          refine bodyPost_ret (v := .tuple #[.agg #[.slice A2 ps.length c2, .int .i64 nx], .int .i64 k]) (by simp [results, Tryd.results32, go_sem, *]) rfl ?_
          rw [HP.out, play_stop HX.out HQ.out]
          exact ⟨A2, ⟨c2, by simp⟩, C_put (C_put HT.out.p.c HT.out.p.hi (by omega)) HT.out.p.hi (by omega), below_setCell (below_setCell HT.out.p.b (Nat.le_refl _) _) (Nat.le_refl _) _⟩
    · have hk2 : k = l.length := by omega
      subst hk2
      have e4 := HW.out.t0
      have e5 := HW.out.t1
      have e6 := HW.out.f0
      have e7 := HW.out.f1
      go_wp2
      refine bodyPost_ret (v := .tuple #[.agg #[.slice A2 ps.length c2, .int .i64 nx], .int .i64 l.length]) (by simp [results, Tryd.results32, go_sem, *]) rfl ?_
      rw [HP.out, List.drop_length, playAt_nil]
      exact ⟨A2, c2, by simp, C_put (C_put HW.out.c HW.out.hi (by omega)) HW.out.hi (by omega), below_setCell (below_setCell HW.out.b (Nat.le_refl _) _) (Nat.le_refl _) _⟩
end Go.Proofs.YtiohgpcbdefokaaDoor.B
/- What the walk of RecordPlays tells of its boxes and lists. No condition. -/
namespace Go.Proofs.YtiohgpcbdefokaaDoor.B
open Go.RowKit Go.Proofs.YtiohgpcbdefokaaDoorW.PrintWords Go.Proofs.YtiohgpcbdefokaaDoor.RowLaws
attribute [local go_sem ↓ high] lvO_hs ldO_hs stO_hs lvO_pt ldO_pt stO_pt zero_pt eqA_pt lvO_ptR ldO_ptR stO_ptR zero_ptR eqA_ptR lvO_rc ldO_rc stO_rc zero_rc eqA_rc lvO_rcR ldO_rcR stO_rcR zero_rcR eqA_rcR lvO_tk ldO_tk stO_tk zero_tk eqA_tk lvO_tkR ldO_tkR stO_tkR zero_tkR eqA_tkR lvO_it ldO_it stO_it zero_it eqA_it blO_pt blO_ptR blO_rc blO_rcR blO_tk blO_tkR blO_it bsO_pt bsO_ptR bsO_rc bsO_rcR bsO_it
attribute [local go_sem high] rowAt_setCell rowAt_setRow cell_setRow_ne isRow_setRow_ne rowAt_alloc rowAt_drew isRow_alloc isRow_drew isRow_setCell rowRun_some okL_hs ldV_hs ldA_hs stA_hs setRow_alloc get_pt_id get_pt_path cut_pt_sum get_pt_size get_pt_off cut_pt okL_pt size_pt lenb_pt eta_pt ldV_pt ldA_pt stA_pt ldV_ptR ldA_ptR stA_ptR get_rc_kind get_rc_id get_rc_path cut_rc_sum get_rc_size get_rc_off cut_rc okL_rc size_rc lenb_rc eta_rc ldV_rc ldA_rc stA_rc ldV_rcR ldA_rcR stA_rcR get_tk_path cut_tk_sum get_tk_size get_tk_off cut_tk_old cut_tk okL_tk size_tk lenb_tk eta_tk ldV_tk ldA_tk stA_tk ldV_tkR ldA_tkR stA_tkR get_it_path get_it_dir get_it_size cut_it_sum cut_it okL_it size_it lenb_it eta_it ldV_it ldA_it stA_it bld_pt_01234 bld_pt_0123 bld_pt_z bld_ptR_01234 bld_ptR_0123 bld_ptR_z bld_rc_012345 bld_rc_015 bld_rc_01 bld_rc_z bld_rc_01234 bld_rc_24 bld_rc_05 bld_rc_0 bld_rcR_012345 bld_rcR_015 bld_rcR_01 bld_rcR_z bld_rcR_01234 bld_rcR_24 bld_rcR_05 bld_rcR_0 bld_tk_01234 bld_tk_0 bld_tk_z bld_tkR_01234 bld_tkR_0 bld_tkR_z bld_it_0123 bld_it_023 bld_it_01 bld_it_0 bld_it_z bs0_pt bs1_pt bs0_ptR bs1_ptR bs0_rc bs1_rc bs0_rcR bs1_rcR bs0_it bs1_it
/-- A box of a state. -/
structure Bx2 (lo g : Nat) (v : Value) (nx : Int) (W : World) : Prop where
  lo : lo ≤ g
  hi : g < W.heap.size
  c0 : W.cell? ⟨g, 0, none⟩ = some v
  c1 : W.cell? ⟨g, 1, none⟩ = some (.int .i64 nx)
  f0 : W.frozen? ⟨g, 0, none⟩ = false
  f1 : W.frozen? ⟨g, 1, none⟩ = false
theorem Bx2.below {lo g B : Nat} {v : Value} {nx : Int} {W W' : World} (h : Bx2 lo g v nx W) (hb : Below B W W') (hg : g < B) : Bx2 lo g v nx W' := by
  have hs := hb.size
  have hh := h.hi
  exact ⟨h.lo, by omega, (hb.cell (p := ⟨g, 0, none⟩) hg).trans h.c0, (hb.cell (p := ⟨g, 1, none⟩) hg).trans h.c1, (hb.frozen (p := ⟨g, 0, none⟩) hg).trans h.f0, (hb.frozen (p := ⟨g, 1, none⟩) hg).trans h.f1⟩
theorem bx_alloc {W : World} {lo : Nat} {v : Value} {nx : Int} {t : TypeId} (h : lo ≤ W.heap.size) : Bx2 lo W.heap.size v nx (W.alloc (.cells #[v, .int .i64 nx] t)) :=
  ⟨h, by simp, cell_of_row _ _ _ _ _ _ (heap_alloc_new _ _), cell_of_row _ _ _ _ _ _ (heap_alloc_new _ _), blk_frozen (heap_alloc_new _ _) _, blk_frozen (heap_alloc_new _ _) _⟩
theorem bx_set {W : World} {lo X : Nat} {v p q : Value} {nx : Int} (h : lo ≤ X) (t0 : W.cell? ⟨X, 0, none⟩ = some p) (t1 : W.cell? ⟨X, 1, none⟩ = some q) (u0 : W.frozen? ⟨X, 0, none⟩ = false) (u1 : W.frozen? ⟨X, 1, none⟩ = false) : Bx2 lo X v nx ((W.setCell ⟨X, 0, none⟩ v).setCell ⟨X, 1, none⟩ (.int .i64 nx)) := by
  have hX : X < W.heap.size := World.block_lt_of_cell? _ _ t0
  refine ⟨h, by simpa [World.setCell] using hX, ?_, ?_, ?_, ?_⟩ <;> simp [go_sem, *]
theorem bx_far {W : World} {lo g X o : Nat} {v u : Value} {nx : Int} (h : Bx2 lo g v nx W) (hne : g ≠ X) : Bx2 lo g v nx (W.setCell ⟨X, o, none⟩ u) := by
  have n1 : ¬ (g = X) := hne
  have n2 : ¬ (X = g) := fun e => hne e.symm
  obtain ⟨h0, h1, h2, h3, h4, h5⟩ := h
  refine ⟨h0, by simpa [World.setCell] using h1, ?_, ?_, ?_, ?_⟩ <;> simp [go_sem, *]
/-- The boxes and the lists of the statement's loop: the program's state ps, the document's state qs, the records so far. -/
structure PwA (w : World) (ps : List Pt) (nx : Int) (A2 : Option Addr) (c2 : Nat) (qs : List Pt) (ny : Int) (A3 : Option Addr) (c3 : Nat) (rs : List Rc) (v5 : Value) (W : World) : Prop where
  b : Below w.heap.size w W
  s : Bx2 w.heap.size w.heap.size (.slice A2 ps.length c2) nx W
  x : Bx2 w.heap.size (w.heap.size + 1) (.slice A3 qs.length c3) ny W
  o : Kd.R kPt 75 W (w.heap.size + 1 + 1) (fun _ => True) (.slice A2 ps.length c2) ps
  r : Kd.R kPt 78 W (w.heap.size + 1 + 1) (fun _ => True) (.slice A3 qs.length c3) qs
  a : Kd.R kRc 51 W (w.heap.size + 1 + 1) (fun _ => True) v5 rs
theorem PwA.z {w : World} {ps : List Pt} {nx : Int} {A2 : Option Addr} {c2 : Nat} {qs : List Pt} {ny : Int} {A3 : Option Addr} {c3 : Nat} {rs : List Rc} {v5 : Value} {W : World} (h : PwA w ps nx A2 c2 qs ny A3 c3 rs v5 W) : w.heap.size + 1 + 1 ≤ W.heap.size := h.x.hi
theorem PwA.below {w : World} {ps : List Pt} {nx : Int} {A2 : Option Addr} {c2 : Nat} {qs : List Pt} {ny : Int} {A3 : Option Addr} {c3 : Nat} {rs : List Rc} {v5 : Value} {W W' : World} (h : PwA w ps nx A2 c2 qs ny A3 c3 rs v5 W) (hb : Below W.heap.size W W') : PwA w ps nx A2 c2 qs ny A3 c3 rs v5 W' :=
  ⟨below_step h.b hb, h.s.below hb h.s.hi, h.x.below hb h.x.hi, Kd.R_below h.o hb, Kd.R_below h.r hb, Kd.R_below h.a hb⟩
theorem ne_types {e e' : Nat} {α : Type} {n : Nat} {enc : α → List Value} {hl : ∀ x, (enc x).length = n} {h1 : ∀ x, ∀ v ∈ enc x, v.oneCell' = true} (h : e ≠ e') : ∀ q, q ∈ e :: (flat n enc hl h1).E → q ≠ e' := by
  intro q hq
  rcases List.mem_cons.1 hq with rfl | hq
  · exact h
  · cases hq
/-- A record more. -/
theorem PwA.more {w : World} {ps : List Pt} {nx : Int} {A2 : Option Addr} {c2 : Nat} {qs : List Pt} {ny : Int} {A3 : Option Addr} {c3 : Nat} {rs rs' : List Rc} {v5 v6 : Value} {W W' : World} (h : PwA w ps nx A2 c2 qs ny A3 c3 rs v5 W) (hb : Below (w.heap.size + 1 + 1) W W') (hg : W.grownBy W' v5.ownBlock) (ho : Kd.R kRc 51 W' (w.heap.size + 1 + 1) (fun _ => True) v6 rs') : PwA w ps nx A2 c2 qs ny A3 c3 rs' v6 W' :=
  ⟨Below.trans h.b (hb.mono (by omega)), h.s.below hb (by omega), h.x.below hb (by omega), Kd.R_over h.o h.a (ne_types (by decide)) hg, Kd.R_over h.r h.a (ne_types (by decide)) hg, ho⟩
/-- The program's state is stored. -/
theorem PwA.setS {w : World} {ps ql : List Pt} {nx qn : Int} {A2 A4 : Option Addr} {c2 c4 : Nat} {qs : List Pt} {ny : Int} {A3 : Option Addr} {c3 : Nat} {rs : List Rc} {v5 : Value} {W : World} (h : PwA w ps nx A2 c2 qs ny A3 c3 rs v5 W) (ho : Kd.R kPt 75 W (w.heap.size + 1 + 1) (fun _ => True) (.slice A4 ql.length c4) ql) :
    PwA w ql qn A4 c4 qs ny A3 c3 rs v5 ((W.setCell ⟨w.heap.size, 0, none⟩ (.slice A4 ql.length c4)).setCell ⟨w.heap.size, 1, none⟩ (.int .i64 qn)) :=
  ⟨below_setCell (below_setCell h.b (Nat.le_refl _) _) (Nat.le_refl _) _, bx_set (Nat.le_refl _) h.s.c0 h.s.c1 h.s.f0 h.s.f1, bx_far (bx_far h.x (by omega)) (by omega), flat_put (flat_put ho (by omega)) (by omega), flat_put (flat_put h.r (by omega)) (by omega), flat_put (flat_put h.a (by omega)) (by omega)⟩
/-- The document's state is stored. -/
theorem PwA.setX {w : World} {ps ql : List Pt} {nx qn : Int} {A2 A4 : Option Addr} {c2 c4 : Nat} {qs : List Pt} {ny : Int} {A3 : Option Addr} {c3 : Nat} {rs : List Rc} {v5 : Value} {W : World} (h : PwA w ps nx A2 c2 qs ny A3 c3 rs v5 W) (ho : Kd.R kPt 78 W (w.heap.size + 1 + 1) (fun _ => True) (.slice A4 ql.length c4) ql) :
    PwA w ps nx A2 c2 ql qn A4 c4 rs v5 ((W.setCell ⟨w.heap.size + 1, 0, none⟩ (.slice A4 ql.length c4)).setCell ⟨w.heap.size + 1, 1, none⟩ (.int .i64 qn)) :=
  ⟨below_setCell (below_setCell h.b (by omega) _) (by omega) _, bx_far (bx_far h.s (by omega)) (by omega), bx_set (by omega) h.x.c0 h.x.c1 h.x.f0 h.x.f1, flat_put (flat_put h.o (by omega)) (by omega), flat_put (flat_put ho (by omega)) (by omega), flat_put (flat_put h.a (by omega)) (by omega)⟩
/-- The program's new state. -/
structure PwT (w : World) (ql : List Pt) (qn : Int) (A6 : Option Addr) (c6 tb : Nat) (W : World) : Prop where
  t : Bx2 (w.heap.size + 1 + 1) tb (.slice A6 ql.length c6) qn W
  o : Kd.R kPt 75 W (w.heap.size + 1 + 1) (fun _ => True) (.slice A6 ql.length c6) ql
theorem PwT.below {w : World} {ql : List Pt} {qn : Int} {A6 : Option Addr} {c6 tb : Nat} {W W' : World} (h : PwT w ql qn A6 c6 tb W) (hb : Below W.heap.size W W') : PwT w ql qn A6 c6 tb W' := ⟨h.t.below hb h.t.hi, Kd.R_below h.o hb⟩
/-- The document's new state. -/
structure PwU (w : World) (ql : List Pt) (qn : Int) (A6 : Option Addr) (c6 tb : Nat) (W : World) : Prop where
  t : Bx2 (w.heap.size + 1 + 1) tb (.slice A6 ql.length c6) qn W
  o : Kd.R kPt 78 W (w.heap.size + 1 + 1) (fun _ => True) (.slice A6 ql.length c6) ql
theorem PwU.below {w : World} {ql : List Pt} {qn : Int} {A6 : Option Addr} {c6 tb : Nat} {W W' : World} (h : PwU w ql qn A6 c6 tb W) (hb : Below W.heap.size W W') : PwU w ql qn A6 c6 tb W' := ⟨h.t.below hb h.t.hi, Kd.R_below h.o hb⟩
end Go.Proofs.YtiohgpcbdefokaaDoor.B
/- RecordPlays: its walk. No condition. -/
namespace Go.Proofs.YtiohgpcbdefokaaDoor.B
open Go.RowKit Go.Proofs.YtiohgpcbdefokaaDoorW.PrintWords Go.Proofs.YtiohgpcbdefokaaDoor.RowLaws
attribute [local go_sem ↓ high] lvO_hs ldO_hs stO_hs lvO_pt ldO_pt stO_pt zero_pt eqA_pt lvO_ptR ldO_ptR stO_ptR zero_ptR eqA_ptR lvO_rc ldO_rc stO_rc zero_rc eqA_rc lvO_rcR ldO_rcR stO_rcR zero_rcR eqA_rcR lvO_tk ldO_tk stO_tk zero_tk eqA_tk lvO_tkR ldO_tkR stO_tkR zero_tkR eqA_tkR lvO_it ldO_it stO_it zero_it eqA_it blO_pt blO_ptR blO_rc blO_rcR blO_tk blO_tkR blO_it bsO_pt bsO_ptR bsO_rc bsO_rcR bsO_it
attribute [local go_sem high] rowAt_setCell rowAt_setRow cell_setRow_ne isRow_setRow_ne rowAt_alloc rowAt_drew isRow_alloc isRow_drew isRow_setCell rowRun_some okL_hs ldV_hs ldA_hs stA_hs setRow_alloc get_pt_id get_pt_path cut_pt_sum get_pt_size get_pt_off cut_pt okL_pt size_pt lenb_pt eta_pt ldV_pt ldA_pt stA_pt ldV_ptR ldA_ptR stA_ptR get_rc_kind get_rc_id get_rc_path cut_rc_sum get_rc_size get_rc_off cut_rc okL_rc size_rc lenb_rc eta_rc ldV_rc ldA_rc stA_rc ldV_rcR ldA_rcR stA_rcR get_tk_path cut_tk_sum get_tk_size get_tk_off cut_tk_old cut_tk okL_tk size_tk lenb_tk eta_tk ldV_tk ldA_tk stA_tk ldV_tkR ldA_tkR stA_tkR get_it_path get_it_dir get_it_size cut_it_sum cut_it okL_it size_it lenb_it eta_it ldV_it ldA_it stA_it bld_pt_01234 bld_pt_0123 bld_pt_z bld_ptR_01234 bld_ptR_0123 bld_ptR_z bld_rc_012345 bld_rc_015 bld_rc_01 bld_rc_z bld_rc_01234 bld_rc_24 bld_rc_05 bld_rc_0 bld_rcR_012345 bld_rcR_015 bld_rcR_01 bld_rcR_z bld_rcR_01234 bld_rcR_24 bld_rcR_05 bld_rcR_0 bld_tk_01234 bld_tk_0 bld_tk_z bld_tkR_01234 bld_tkR_0 bld_tkR_z bld_it_0123 bld_it_023 bld_it_01 bld_it_0 bld_it_z bs0_pt bs1_pt bs0_ptR bs1_ptR bs0_rc bs1_rc bs0_rcR bs1_rcR bs0_it bs1_it
attribute [local irreducible] wpStill
theorem u_alloc {w wr w4 W0 : World} {ps : List Pt} {nx : Int} {A2 : Option Addr} {c2 : Nat} {A3 : Option Addr} {c3 : Nat} {rs : List Rc} {v5 : Value} {ql : List Pt} {qn : Int} {A4 : Option Addr} {c4 : Nat} {t : TypeId} (h : PwA w ps nx A2 c2 ps nx A3 c3 rs v5 wr) (hb : Below wr.heap.size wr w4) (h0 : wr.heap.size ≤ W0.heap.size)
    (ho : (A4 = A3 ∧ c4 = c3 ∧ ql = ps) ∨ Kd.R kPt 78 w4 W0.heap.size (fun _ => True) (.slice A4 ql.length c4) ql) : PwU w ql qn A4 c4 w4.heap.size (w4.alloc (.cells #[.slice A4 ql.length c4, .int .i64 qn] t)) := by
  have hz := h.z
  have hs := hb.size
  refine ⟨bx_alloc (by omega), ?_⟩
  rcases ho with ⟨rfl, rfl, rfl⟩ | ho
  · exact Kd.R_below (Kd.R_below h.r hb) (below_alloc (Below.refl _ _) _)
  · exact Kd.R_lower (Kd.R_below ho (below_alloc (Below.refl _ _) _)) (by omega)
theorem u_set {w wr w4 W0 : World} {ps : List Pt} {nx : Int} {A2 : Option Addr} {c2 : Nat} {A3 : Option Addr} {c3 : Nat} {rs : List Rc} {v5 : Value} {ql : List Pt} {qn : Int} {A4 : Option Addr} {c4 X : Nat} {p q : Value} (h : PwA w ps nx A2 c2 ps nx A3 c3 rs v5 wr) (hb : Below wr.heap.size wr w4) (hX : wr.heap.size ≤ X) (hX0 : X < W0.heap.size)
    (ho : (A4 = A3 ∧ c4 = c3 ∧ ql = ps) ∨ Kd.R kPt 78 w4 W0.heap.size (fun _ => True) (.slice A4 ql.length c4) ql) (t0 : w4.cell? ⟨X, 0, none⟩ = some p) (t1 : w4.cell? ⟨X, 1, none⟩ = some q) (u0 : w4.frozen? ⟨X, 0, none⟩ = false) (u1 : w4.frozen? ⟨X, 1, none⟩ = false) :
    PwU w ql qn A4 c4 X ((w4.setCell ⟨X, 0, none⟩ (.slice A4 ql.length c4)).setCell ⟨X, 1, none⟩ (.int .i64 qn)) := by
  have hz := h.z
  have hs := hb.size
  refine ⟨bx_set (by omega) t0 t1 u0 u1, ?_⟩
  rcases ho with ⟨rfl, rfl, rfl⟩ | ho
  · exact Kd.R_below h.r (below_setCell (below_setCell hb hX _) hX _)
  · exact Kd.R_lower (flat_put (flat_put ho hX0) hX0) (by omega)
theorem t_alloc {w w6 W0 : World} {ql : List Pt} {qn : Int} {A6 : Option Addr} {c6 : Nat} {t : TypeId} (h0 : w.heap.size + 1 + 1 ≤ W0.heap.size) (h1 : W0.heap.size ≤ w6.heap.size) (ho : Kd.R kPt 75 w6 W0.heap.size (fun _ => True) (.slice A6 ql.length c6) ql) : PwT w ql qn A6 c6 w6.heap.size (w6.alloc (.cells #[.slice A6 ql.length c6, .int .i64 qn] t)) :=
  ⟨bx_alloc (by omega), Kd.R_lower (Kd.R_below ho (below_alloc (Below.refl _ _) _)) h0⟩
theorem t_set {w w6 W0 : World} {ql : List Pt} {qn : Int} {A6 : Option Addr} {c6 X : Nat} {p q : Value} (h0 : w.heap.size + 1 + 1 ≤ X) (hX0 : X < W0.heap.size) (ho : Kd.R kPt 75 w6 W0.heap.size (fun _ => True) (.slice A6 ql.length c6) ql) (t0 : w6.cell? ⟨X, 0, none⟩ = some p) (t1 : w6.cell? ⟨X, 1, none⟩ = some q) (u0 : w6.frozen? ⟨X, 0, none⟩ = false) (u1 : w6.frozen? ⟨X, 1, none⟩ = false) :
    PwT w ql qn A6 c6 X ((w6.setCell ⟨X, 0, none⟩ (.slice A6 ql.length c6)).setCell ⟨X, 1, none⟩ (.int .i64 qn)) :=
  ⟨bx_set h0 t0 t1 u0 u1, Kd.R_lower (flat_put (flat_put ho hX0) hX0) (by omega)⟩
theorem keep4 {a b B : Nat} {x y x' y' : Value} {W W' : World} (h : W.cell? ⟨a, 0, none⟩ = some x ∧ W.cell? ⟨a, 1, none⟩ = some y ∧ W.cell? ⟨b, 0, none⟩ = some x' ∧ W.cell? ⟨b, 1, none⟩ = some y') (hb : Below B W W') (h1 : a < B) (h2 : b < B) :
    W'.cell? ⟨a, 0, none⟩ = some x ∧ W'.cell? ⟨a, 1, none⟩ = some y ∧ W'.cell? ⟨b, 0, none⟩ = some x' ∧ W'.cell? ⟨b, 1, none⟩ = some y' :=
  ⟨(hb.cell (p := ⟨a, 0, none⟩) h1).trans h.1, (hb.cell (p := ⟨a, 1, none⟩) h1).trans h.2.1, (hb.cell (p := ⟨b, 0, none⟩) h2).trans h.2.2.1, (hb.cell (p := ⟨b, 1, none⟩) h2).trans h.2.2.2⟩
theorem keep6 {a b d e B n : Nat} {x y x' y' : Value} {z z' : List Value} {W W' : World} (h : (W.cell? ⟨a, 0, none⟩ = some x ∧ W.cell? ⟨a, 1, none⟩ = some y ∧ W.cell? ⟨b, 0, none⟩ = some x' ∧ W.cell? ⟨b, 1, none⟩ = some y') ∧ rowAt W ⟨d, 0, none⟩ n = some z ∧ rowAt W ⟨e, 0, none⟩ n = some z') (hb : Below B W W') (h1 : a < B) (h2 : b < B) (h3 : d < B) (h4 : e < B) :
    (W'.cell? ⟨a, 0, none⟩ = some x ∧ W'.cell? ⟨a, 1, none⟩ = some y ∧ W'.cell? ⟨b, 0, none⟩ = some x' ∧ W'.cell? ⟨b, 1, none⟩ = some y') ∧ rowAt W' ⟨d, 0, none⟩ n = some z ∧ rowAt W' ⟨e, 0, none⟩ n = some z' :=
  ⟨keep4 h.1 hb h1 h2, by rw [rowAt_below hb h3]; exact h.2.1, by rw [rowAt_below hb h4]; exact h.2.2⟩
theorem playAt_len (l : List Rc) : ∀ s : St, s.parts.length ≤ 64 → (playAt s l).1.parts.length ≤ 64 := by
  induction l with
  | nil => intro s h; exact h
  | cons r l ih =>
    intro s h
    show (if (stepP s r).2 = true then _ else _ : St × Nat).1.parts.length ≤ 64
    split
    · exact ih _ (stepP_len s r h)
    · exact h
theorem playP_len (l : List Rc) : (playP l).1.parts.length ≤ 64 := playAt_len l St.zero (by decide)
set_option linter.unusedVariables false in
set_option maxHeartbeats 16000000 in
set_option maxRecDepth 100000 in
theorem Plays_walk (A : Option Addr) (c : Nat) (l : List Rc) (p : ByteArray) (w : World) (hT : TabOK w) (hC : Kd.C kRc w A l.length l) (hok : ∀ r ∈ l, okRc r) :
    Calls Tryd.prog 8 #[.slice A l.length c, .string p] w fun e w' => e = .returned (.bool true) ∧ Below w.heap.size w w' := by
  have HT := Aside0.mk hT
  have HC := Aside0.mk hC
  have HOK := Aside0.mk hok
  clear hT hC hok
  by_cases hn : (200 : Int) < (l.length : Int)
  · have hd : decide ((200 : Int) < (l.length : Int)) = true := decide_eq_true hn
    clear hn
    go_enter Tryd.func8, Tryd.ntmps8
    go_wp2_with (go_at_call 22; refine (awake_calls _ HT.out).mono ?_; rintro e w2 ⟨rfl, hb2⟩; have HB2 := Aside0.mk (hb2); clear hb2)
    go_ret
    exact ⟨rfl, HB2.out⟩
  have hd : decide ((200 : Int) < (l.length : Int)) = false := decide_eq_false hn
  by_cases hp : (300 : Int) < (p.size : Int)
  · have hd2 : decide ((300 : Int) < (p.size : Int)) = true := decide_eq_true hp
    clear hn hp
    go_enter Tryd.func8, Tryd.ntmps8
    go_wp2_with (go_at_call 22; refine (awake_calls _ HT.out).mono ?_; rintro e w2 ⟨rfl, hb2⟩; have HB2 := Aside0.mk (hb2); clear hb2)
    go_ret
    exact ⟨rfl, HB2.out⟩
  have hd2 : decide ((300 : Int) < (p.size : Int)) = false := decide_eq_false hp
  have HLEN := Aside0.mk (show l.length ≤ 200 by omega)
  clear hn hp
  go_enter Tryd.func8, Tryd.ntmps8
  go_wp2
  clear hd hd2
  go_loopw [5, 8] (fun v5 iv wr => ∃ (k : Nat) (ps : List Pt) (nx : Int) (A2 : Option Addr) (c2 : Nat) (A3 : Option Addr) (c3 : Nat) (A5 : Option Addr) (c5 : Nat), k ≤ l.length ∧ iv = .int .i64 k ∧ v5 = .slice A5 k c5 ∧ Aside0 (PwA w ps nx A2 c2 ps nx A3 c3 (l.take k) (.slice A5 k c5) wr) ∧ Aside0 (Ord ⟨ps, nx⟩) ∧ Aside0 (∀ r ∈ l.take k, r.id ≤ 2199023255552)) (fun _ iv _ => l.length - (intOf iv).toNat)
  case atStart =>
    refine ⟨0, [], 0, none, 0, none, 0, none, 0, Nat.zero_le _, rfl, rfl, ⟨⟨below_alloc (below_alloc (Below.refl _ _) _) _, ⟨Nat.le_refl _, ?_, ?_, ?_, ?_, ?_⟩, ⟨by omega, ?_, ?_, ?_, ?_, ?_⟩, Kd.R_nil _ _ _ _ _, Kd.R_nil _ _ _ _ _, Kd.R_nil _ _ _ _ _⟩⟩, ⟨ord_zero⟩, ⟨by intro r hr; simp at hr⟩⟩ <;> first | (simp; done) | (go_simp; done) | (simp; omega) | (simp [go_sem, *]; done)
  case round =>
    obtain ⟨k, ps, nx, A2, c2, A3, c3, A5, c5, hk, rfl, rfl, HW, HORD, HIDS⟩ := hrel
    have hz := HW.out.z
    have n2 : w.heap.size < wr.heap.size := by omega
    by_cases hlt : k < l.length
    · obtain ⟨b, o, hA, hb, hr⟩ := flat_at HC.out (by decide) (by omega)
      subst hA
      obtain ⟨hrow, hcells⟩ := hr k hlt
      have hx0 := HOK.out l[k] (List.getElem_mem hlt)
      have HTK := Aside0.mk (show l.take (k + 1) = l.take k ++ [l[k]] from List.take_succ_eq_append_getElem hlt)
      obtain ⟨x, hx⟩ : ∃ x, x = l[k] := ⟨_, rfl⟩
      rw [← hx] at hrow hcells hx0 HTK
      have q1 := hcells 1 _ (get_rc_id x)
      have q2 := hcells 2 _ (get_rc_path x)
      have HROW := Aside0.mk (And.intro hrow hb)
      rw [← rowAt_below HW.out.b hb] at hrow
      rw [← HW.out.b.cell (p := ⟨b, o + k * 37 + 1, none⟩) hb] at q1
      rw [← HW.out.b.cell (p := ⟨b, o + k * 37 + 2, none⟩) hb] at q2
      clear hr hx hcells
      have HX0 := Aside0.mk hx0
      have hbn : b < wr.heap.size := by have := HW.out.b.size; omega
      clear hx0
      have hlt2 : (k : Int) < (l.length : Int) := by omega
      have hkb : k + 1 ≤ 200 := by have := HLEN.out; omega
      by_cases hp : (300 : Int) < (x.path.size : Int)
      · have hd1 : decide ((300 : Int) < (x.path.size : Int)) = true := decide_eq_true hp
        clear hp
        go_wp2_with (go_at_call 22; refine (awake_calls _ (HT.out.below HW.out.b)).mono ?_; rintro e w2 ⟨rfl, hb2⟩; have HB2 := Aside0.mk (below_step HW.out.b hb2); clear hb2)
        go_ret
        exact ⟨rfl, HB2.out⟩
      have hd1 : decide ((300 : Int) < (x.path.size : Int)) = false := decide_eq_false hp
      by_cases hi : (2199023255552 : Int) < x.id
      · have hd2 : decide ((2199023255552 : Int) < x.id) = true := decide_eq_true hi
        clear hp hi
        go_wp2_with (go_at_call 22; refine (awake_calls _ (HT.out.below HW.out.b)).mono ?_; rintro e w2 ⟨rfl, hb2⟩; have HB2 := Aside0.mk (below_step HW.out.b hb2); clear hb2)
        go_ret
        exact ⟨rfl, HB2.out⟩
      have hd2 : decide ((2199023255552 : Int) < x.id) = false := decide_eq_false hi
      have HID := Aside0.mk (show x.id ≤ 2199023255552 by omega)
      clear hp hi
      have HIDS2 := Aside0.mk (show ∀ r ∈ l.take (k + 1), r.id ≤ 2199023255552 by
        intro r hr
        rw [HTK.out] at hr
        rcases List.mem_append.1 hr with hr | hr
        · exact HIDS.out r hr
        · obtain rfl := List.mem_singleton.1 hr
          exact HID.out)
      obtain ⟨q, hq⟩ : ∃ q, stepP ⟨ps, nx⟩ x = q := ⟨_, rfl⟩
      have HO2 := Aside0.mk (ord_step (r := x) HORD.out)
      rw [hq] at HO2
      obtain ⟨⟨ql, qn⟩, qb⟩ := q
      have HSTEP := Aside0.mk (step_slice A2 c2 ps nx x (Kd.R_reads' HW.out.o).2.1 HORD.out.few HID.out HX0.out.2.1 hq)
      have HSTER := Aside0.mk (fun (W : World) (h : Kd.C kPt W A3 ps.length ps) => (StepR_calls A3 c3 ps nx x W h (Kd.R_reads' HW.out.r).2.1 HORD.out.few HID.out HX0.out.2.1 HX0.out.1 HORD.out.ids).mono (fun _ _ h => step_ret' hq h))
      clear hq
      have HTL := Aside0.mk (show (l.take k).length = k by rw [List.length_take]; omega)
      have HTM := Aside0.mk (show (l.take (k + 1)).length = k + 1 by rw [List.length_take]; omega)
      go_upto_region 12 with (first
        | (go_at_call 24; refine (own_calls x _).mono ?_; rintro e w2 ⟨rfl, hb2⟩; have HB2 := Aside0.mk hb2; have hs2 := hb2.size; clear hb2)
        | ((with_reducible refine gate_builtin (b := .append) (xs := #[.tmp 52, .tmp 58]) rfl ?_); at_builtin; refine Kd.R_append kRc (w0 := w2) (w.heap.size + 1 + 1) rfl (.tmp 52) (.tmp 58) 57 51 _ 80 rfl Tryd.underlying57 infoRc zcRc (by decide) (by decide) (.slice A5 k c5) (l.take k) x (rcL x) (fun _ => True) (fun _ => False) rfl ?aX3 rfl (fun _ h => h.elim) (fun _ _ => trivial) ?aO3 ?aB3 ?aS3 ?aL3 ?_; (case aX3 => first | rfl | (rw [World.size_alloc]; rfl)); (case aO3 => exact Kd.R_below HW.out.a HB2.out); (case aB3 => exact Below.refl _ _); (case aS3 => omega); (case aL3 => rw [HTL.out]; omega); intro v6 w3 ho3 hb3 hg3 hat3; rw [← HTK.out] at ho3; obtain ⟨A6, c6, hv6⟩ := Kd.R_slice ho3; rw [HTM.out] at hv6; subst hv6; have HA3 := Aside0.mk ((HW.out.below HB2.out).more hb3 hg3 ho3); have hrow3 : rowAt w3 ⟨b, o + k * 37, none⟩ 37 = some (rcL x) := (by rw [rowAt_below HA3.out.b HROW.out.2]; exact HROW.out.1); clear ho3 hb3 hg3 hat3))
      have s0 := HA3.out.s.c0
      have s1 := HA3.out.s.c1
      have hz3 := HA3.out.z
      have n3 : w.heap.size < w3.heap.size := by omega
      have hb3 : b < w3.heap.size := by have := HA3.out.b.size; have := HROW.out.2; omega
      clear hrow q1 q2 hd1 hd2 hbn n2
      go_cut [9, 10] (fun v9 v10 wx => ∃ (tb : Nat) (A7 : Option Addr) (c7 : Nat), v9 = .pointer (some ⟨tb, 0, none⟩) ∧ v10 = .bool qb ∧ Aside0 (PwA w ps nx A2 c2 ps nx A3 c3 (l.take (k + 1)) (.slice A6 (k + 1) c6) wx) ∧ Aside0 (PwT w ql qn A7 c7 tb wx))
      case first =>
        go_region_held3 (fun w' => w'.cell? ⟨w.heap.size, 0, none⟩ = some (.slice A2 ps.length c2) ∧ w'.cell? ⟨w.heap.size, 1, none⟩ = some (.int .i64 nx) ∧ rowAt w' ⟨b, o + k * 37, none⟩ 37 = some (rcL x)) (first | assumption | (refine keepS (B := w3.heap.size) hS6 ?_ (by omega) (by omega); (repeat' (first | (with_reducible exact Below.refl _ _) | (with_reducible refine below_drew ?_) | (with_reducible refine Below.alloc ?_ ?_ _) | (with_reducible refine below_setCell ?_ ?_ _) | omega | (simp; done) | (simp; omega))); done) | (refine keepS (B := w3.heap.size) hS5 ?_ (by omega) (by omega); (repeat' (first | (with_reducible exact Below.refl _ _) | (with_reducible refine below_drew ?_) | (with_reducible refine Below.alloc ?_ ?_ _) | (with_reducible refine below_setCell ?_ ?_ _) | omega | (simp; done) | (simp; omega))); done) | (refine keepS (B := w3.heap.size) (And.intro s0 (And.intro s1 hrow3)) ?_ (by omega) (by omega); (repeat' (first | (with_reducible exact Below.refl _ _) | (with_reducible refine below_drew ?_) | (with_reducible refine Below.alloc ?_ ?_ _) | (with_reducible refine below_setCell ?_ ?_ _) | omega | (simp; done) | (simp; omega))); done))
          (first
          | (go_at_call 24; refine (own_calls x _).mono ?_; rintro e w5 ⟨rfl, hb5⟩; have HB5 := Aside0.mk (show Below w3.heap.size w3 w5 from Below.trans (by (repeat' (first | (with_reducible exact Below.refl _ _) | (with_reducible refine below_drew ?_) | (with_reducible refine Below.alloc ?_ ?_ _) | (with_reducible refine below_setCell ?_ ?_ _) | omega | (simp; done) | (simp; omega)))) (hb5.mono (by first | omega | (simp; done) | (simp; omega)))); have hs5 := HB5.out.size; have hS5 := keepS (B := w3.heap.size) (And.intro s0 (And.intro s1 hrow3)) HB5.out n3 hb3; (first | (have t50 : w5.cell? ⟨w3.heap.size, 0, none⟩ = some (.slice none 0 0) := (hb5.cell (p := ⟨w3.heap.size, 0, none⟩) (by simp)).trans (cell_of_row _ _ _ _ _ _ (heap_alloc_new _ _)); have t51 : w5.cell? ⟨w3.heap.size, 1, none⟩ = some (.int .i64 0) := (hb5.cell (p := ⟨w3.heap.size, 1, none⟩) (by simp)).trans (cell_of_row _ _ _ _ _ _ (heap_alloc_new _ _)); have u50 : w5.frozen? ⟨w3.heap.size, 0, none⟩ = false := (hb5.frozen (p := ⟨w3.heap.size, 0, none⟩) (by simp)).trans (blk_frozen (heap_alloc_new _ _) _); have u51 : w5.frozen? ⟨w3.heap.size, 1, none⟩ = false := (hb5.frozen (p := ⟨w3.heap.size, 1, none⟩) (by simp)).trans (blk_frozen (heap_alloc_new _ _) _); have y5 : w3.heap.size < w5.heap.size := (by have h_ := hb5.size; simp at h_; omega)) | skip); clear hb5)
          | (go_at_call 27; refine (HSTEP.out _ ?hc1).mono ?_; (case hc1 => exact Kd.C_below (Kd.R_reads' HA3.out.o).2.2 (by (repeat' (first | exact HB5.out | (with_reducible exact Below.refl _ _) | (with_reducible refine below_drew ?_) | (with_reducible refine Below.alloc ?_ ?_ _) | (with_reducible refine below_setCell ?_ ?_ _) | omega | (simp; done) | (simp; omega))))); rintro e w6 ⟨A7, c7, rfl, ho6, hb6⟩; have HB6 := Aside0.mk (show Below w3.heap.size w3 w6 from Below.trans (by (repeat' (first | exact HB5.out | (with_reducible exact Below.refl _ _) | (with_reducible refine below_drew ?_) | (with_reducible refine Below.alloc ?_ ?_ _) | (with_reducible refine below_setCell ?_ ?_ _) | omega | (simp; done) | (simp; omega)))) (hb6.mono (by first | omega | (simp; done) | (simp; omega)))); have HR6 := Aside0.mk ho6; have hs6 := hb6.size; have hs7 := HB6.out.size; have hS6 := keepS (B := w3.heap.size) (And.intro s0 (And.intro s1 hrow3)) HB6.out n3 hb3; (first | ((have t60 : w6.cell? ⟨w3.heap.size, 0, none⟩ = some (.slice none 0 0) := (hb6.cell (p := ⟨w3.heap.size, 0, none⟩) y5).trans t50); (have t61 : w6.cell? ⟨w3.heap.size, 1, none⟩ = some (.int .i64 0) := (hb6.cell (p := ⟨w3.heap.size, 1, none⟩) y5).trans t51); (have u60 : w6.frozen? ⟨w3.heap.size, 0, none⟩ = false := (hb6.frozen (p := ⟨w3.heap.size, 0, none⟩) y5).trans u50); (have u61 : w6.frozen? ⟨w3.heap.size, 1, none⟩ = false := (hb6.frozen (p := ⟨w3.heap.size, 1, none⟩) y5).trans u51)) | (first | (have t60 : w6.cell? ⟨w5.heap.size, 0, none⟩ = some (.slice none 0 0) := (hb6.cell (p := ⟨w5.heap.size, 0, none⟩) (by simp)).trans (cell_of_row _ _ _ _ _ _ (heap_alloc_new _ _)); have t61 : w6.cell? ⟨w5.heap.size, 1, none⟩ = some (.int .i64 0) := (hb6.cell (p := ⟨w5.heap.size, 1, none⟩) (by simp)).trans (cell_of_row _ _ _ _ _ _ (heap_alloc_new _ _)); have u60 : w6.frozen? ⟨w5.heap.size, 0, none⟩ = false := (hb6.frozen (p := ⟨w5.heap.size, 0, none⟩) (by simp)).trans (blk_frozen (heap_alloc_new _ _) _); have u61 : w6.frozen? ⟨w5.heap.size, 1, none⟩ = false := (hb6.frozen (p := ⟨w5.heap.size, 1, none⟩) (by simp)).trans (blk_frozen (heap_alloc_new _ _) _); have y6 : w5.heap.size < w6.heap.size := (by have h_ := hb6.size; simp at h_; omega)) | skip)); clear ho6 hb6))
        all_goals
          go_wp2_with fail
          go_meet
          first
            | exact ⟨_, A7, c7, rfl, rfl, ⟨HA3.out.below (by (repeat' (first | exact HB6.out | (with_reducible exact Below.refl _ _) | (with_reducible refine below_drew ?_) | (with_reducible refine Below.alloc ?_ ?_ _) | (with_reducible refine below_setCell ?_ ?_ _) | omega | (simp; done) | (simp; omega))))⟩, ⟨t_alloc (by first | omega | (simp; omega)) (by first | omega | (simp at hs6; omega) | (simp; omega)) HR6.out⟩⟩
            | exact ⟨_, A7, c7, rfl, rfl, ⟨HA3.out.below (by (repeat' (first | exact HB6.out | (with_reducible exact Below.refl _ _) | (with_reducible refine below_drew ?_) | (with_reducible refine Below.alloc ?_ ?_ _) | (with_reducible refine below_setCell ?_ ?_ _) | omega | (simp; done) | (simp; omega))))⟩, ⟨t_set (by omega) (by first | omega | (simp; done) | (simp; omega)) HR6.out t60 t61 u60 u61⟩⟩
      case rest =>
        obtain ⟨tb, A7, c7, rfl, rfl, HA4, HT4⟩ := hcut
        clear s0 s1 hz3 n3 hb3 hrow3
        have s0 := HA4.out.x.c0
        have s1 := HA4.out.x.c1
        have hz4 := HA4.out.z
        have hrow4 : rowAt wc ⟨b, o + k * 37, none⟩ 37 = some (rcL x) := by rw [rowAt_below HA4.out.b HROW.out.2]; exact HROW.out.1
        have n4 : w.heap.size + 1 < wc.heap.size := by omega
        have hb4 : b < wc.heap.size := by have := HA4.out.b.size; have := HROW.out.2; omega
        go_upto_region 13 with (fail)
        go_cut [11, 12] (fun v11 v12 wx => ∃ (yb : Nat) (A8 : Option Addr) (c8 : Nat), v11 = .pointer (some ⟨yb, 0, none⟩) ∧ v12 = .bool qb ∧ Aside0 (PwA w ps nx A2 c2 ps nx A3 c3 (l.take (k + 1)) (.slice A6 (k + 1) c6) wx) ∧ Aside0 (PwT w ql qn A7 c7 tb wx) ∧ Aside0 (PwU w ql qn A8 c8 yb wx))
        case first =>
          go_region_held3 (fun w' => w'.cell? ⟨w.heap.size + 1, 0, none⟩ = some (.slice A3 ps.length c3) ∧ w'.cell? ⟨w.heap.size + 1, 1, none⟩ = some (.int .i64 nx) ∧ rowAt w' ⟨b, o + k * 37, none⟩ 37 = some (rcL x)) (first | assumption | (refine keepS (B := wc.heap.size) hS8 ?_ (by omega) (by omega); (repeat' (first | (with_reducible exact Below.refl _ _) | (with_reducible refine below_drew ?_) | (with_reducible refine Below.alloc ?_ ?_ _) | (with_reducible refine below_setCell ?_ ?_ _) | omega | (simp; done) | (simp; omega))); done) | (refine keepS (B := wc.heap.size) (And.intro s0 (And.intro s1 hrow4)) ?_ (by omega) (by omega); (repeat' (first | (with_reducible exact Below.refl _ _) | (with_reducible refine below_drew ?_) | (with_reducible refine Below.alloc ?_ ?_ _) | (with_reducible refine below_setCell ?_ ?_ _) | omega | (simp; done) | (simp; omega))); done))
            (first
            | (go_at_call 28; refine (HSTER.out _ ?hc2).mono ?_; (case hc2 => exact Kd.C_below (Kd.R_reads' HA4.out.r).2.2 (by (repeat' (first | (with_reducible exact Below.refl _ _) | (with_reducible refine below_drew ?_) | (with_reducible refine Below.alloc ?_ ?_ _) | (with_reducible refine below_setCell ?_ ?_ _) | omega | (simp; done) | (simp; omega))))); rintro e w8 ⟨A8, c8, rfl, _, _, hb8, ho8⟩; have HB8 := Aside0.mk (show Below wc.heap.size wc w8 from Below.trans (by (repeat' (first | (with_reducible exact Below.refl _ _) | (with_reducible refine below_drew ?_) | (with_reducible refine Below.alloc ?_ ?_ _) | (with_reducible refine below_setCell ?_ ?_ _) | omega | (simp; done) | (simp; omega)))) (hb8.mono (by first | omega | (simp; done) | (simp; omega)))); have HR8 := Aside0.mk ho8; have hs8 := HB8.out.size; have hS8 := keepS (B := wc.heap.size) (And.intro s0 (And.intro s1 hrow4)) HB8.out n4 hb4; (first | (have t80 : w8.cell? ⟨wc.heap.size, 0, none⟩ = some (.slice none 0 0) := (hb8.cell (p := ⟨wc.heap.size, 0, none⟩) (by simp)).trans (cell_of_row _ _ _ _ _ _ (heap_alloc_new _ _)); have t81 : w8.cell? ⟨wc.heap.size, 1, none⟩ = some (.int .i64 0) := (hb8.cell (p := ⟨wc.heap.size, 1, none⟩) (by simp)).trans (cell_of_row _ _ _ _ _ _ (heap_alloc_new _ _)); have u80 : w8.frozen? ⟨wc.heap.size, 0, none⟩ = false := (hb8.frozen (p := ⟨wc.heap.size, 0, none⟩) (by simp)).trans (blk_frozen (heap_alloc_new _ _) _); have u81 : w8.frozen? ⟨wc.heap.size, 1, none⟩ = false := (hb8.frozen (p := ⟨wc.heap.size, 1, none⟩) (by simp)).trans (blk_frozen (heap_alloc_new _ _) _); have y8 : wc.heap.size < w8.heap.size := (by have h_ := hb8.size; simp at h_; omega)) | skip); clear ho8 hb8))
          all_goals
            go_wp2_with fail
            go_meet
            first
              | exact ⟨_, A8, c8, rfl, rfl, ⟨HA4.out.below (by (repeat' (first | exact HB8.out | (with_reducible exact Below.refl _ _) | (with_reducible refine below_drew ?_) | (with_reducible refine Below.alloc ?_ ?_ _) | (with_reducible refine below_setCell ?_ ?_ _) | omega | (simp; done) | (simp; omega))))⟩, ⟨HT4.out.below (by (repeat' (first | exact HB8.out | (with_reducible exact Below.refl _ _) | (with_reducible refine below_drew ?_) | (with_reducible refine Below.alloc ?_ ?_ _) | (with_reducible refine below_setCell ?_ ?_ _) | omega | (simp; done) | (simp; omega))))⟩, ⟨u_alloc HA4.out HB8.out (by first | omega | (simp; done) | (simp; omega)) HR8.out⟩⟩
              | exact ⟨_, A8, c8, rfl, rfl, ⟨HA4.out.below (by (repeat' (first | exact HB8.out | (with_reducible exact Below.refl _ _) | (with_reducible refine below_drew ?_) | (with_reducible refine Below.alloc ?_ ?_ _) | (with_reducible refine below_setCell ?_ ?_ _) | omega | (simp; done) | (simp; omega))))⟩, ⟨HT4.out.below (by (repeat' (first | exact HB8.out | (with_reducible exact Below.refl _ _) | (with_reducible refine below_drew ?_) | (with_reducible refine Below.alloc ?_ ?_ _) | (with_reducible refine below_setCell ?_ ?_ _) | omega | (simp; done) | (simp; omega))))⟩, ⟨u_set HA4.out HB8.out (Nat.le_refl _) (by first | omega | (simp; done) | (simp; omega)) HR8.out t80 t81 u80 u81⟩⟩
        case rest =>
          obtain ⟨yb, A8, c8, rfl, rfl, HA5, HT5, HU5⟩ := hcut
          clear s0 s1 hz4 n4 hb4 hrow4
          have t0 := HT5.out.t.c0
          have t1 := HT5.out.t.c1
          have y0 := HU5.out.t.c0
          have y1 := HU5.out.t.c1
          have htb := HT5.out.t.hi
          have hyb := HU5.out.t.hi
          have HE := Aside0.mk (show decide ((⟨ql, qn⟩ : St) = ⟨ql, qn⟩) = true by simp)
          have hf64 : ql.length ≤ 64 := HO2.out.few
          go_upto_region 14 with (fail)
          go_cut [88] (fun v88 wx => v88 = .bool false ∧ Aside0 (PwA w ps nx A2 c2 ps nx A3 c3 (l.take (k + 1)) (.slice A6 (k + 1) c6) wx) ∧ Aside0 (PwT w ql qn A7 c7 tb wx) ∧ Aside0 (PwU w ql qn A8 c8 yb wx))
          case first =>
            have hqq : (qb != qb) = false := by cases qb <;> rfl
            go_region_held3 (fun w' => w'.cell? ⟨tb, 0, none⟩ = some (.slice A7 ql.length c7) ∧ w'.cell? ⟨tb, 1, none⟩ = some (.int .i64 qn) ∧ w'.cell? ⟨yb, 0, none⟩ = some (.slice A8 ql.length c8) ∧ w'.cell? ⟨yb, 1, none⟩ = some (.int .i64 qn)) (first | assumption | (refine keep4 (B := wc.heap.size) (And.intro t0 (And.intro t1 (And.intro y0 y1))) ?_ htb hyb; (repeat' (first | exact HB10.out | exact HB9.out | (with_reducible exact Below.refl _ _) | (with_reducible refine below_drew ?_) | (with_reducible refine Below.alloc ?_ ?_ _) | (with_reducible refine below_setCell ?_ ?_ _) | omega | (simp; done) | (simp; omega))); done))
              (first
              | (go_at_call 30; refine (back_calls A7 c7 ql qn _ (Kd.C_below (Kd.R_reads' HT5.out.o).2.2 (by (repeat' (first | (with_reducible exact Below.refl _ _) | (with_reducible refine below_drew ?_) | (with_reducible refine Below.alloc ?_ ?_ _) | (with_reducible refine below_setCell ?_ ?_ _) | omega | (simp; done) | (simp; omega))))) (Nat.le_trans hf64 (by decide))).mono ?_; rintro e w9 ⟨A9, c9, rfl, hc9, hb9⟩; have HB9 := Aside0.mk (show Below wc.heap.size wc w9 from Below.trans (by (repeat' (first | (with_reducible exact Below.refl _ _) | (with_reducible refine below_drew ?_) | (with_reducible refine Below.alloc ?_ ?_ _) | (with_reducible refine below_setCell ?_ ?_ _) | omega | (simp; done) | (simp; omega)))) (hb9.mono (by first | omega | (simp; done) | (simp; omega)))); have HC9 := Aside0.mk hc9; have hs9 := HB9.out.size; clear hc9 hb9)
              | (go_at_call 29; refine (SameR_calls A9 A8 c9 c8 ql ql qn qn _ (Kd.C_below HC9.out (by (repeat' (first | (with_reducible exact Below.refl _ _) | (with_reducible refine below_drew ?_) | (with_reducible refine Below.alloc ?_ ?_ _) | (with_reducible refine below_setCell ?_ ?_ _) | omega | (simp; done) | (simp; omega))))) (Kd.C_below (Kd.R_reads' HU5.out.o).2.2 (by (repeat' (first | exact HB9.out | (with_reducible exact Below.refl _ _) | (with_reducible refine below_drew ?_) | (with_reducible refine Below.alloc ?_ ?_ _) | (with_reducible refine below_setCell ?_ ?_ _) | omega | (simp; done) | (simp; omega))))) (Nat.le_trans hf64 (by decide))).mono ?_; rw [decide_eq_true (show (⟨ql, qn⟩ : St) = ⟨ql, qn⟩ from rfl)]; rintro e w10 ⟨rfl, hb10⟩; have HB10 := Aside0.mk (show Below wc.heap.size wc w10 from Below.trans (by (repeat' (first | exact HB9.out | (with_reducible exact Below.refl _ _) | (with_reducible refine below_drew ?_) | (with_reducible refine Below.alloc ?_ ?_ _) | (with_reducible refine below_setCell ?_ ?_ _) | omega | (simp; done) | (simp; omega)))) (hb10.mono (by first | omega | (simp; done) | (simp; omega)))); have hs10 := HB10.out.size; clear hb10))
            all_goals
              go_wp2_with fail
              go_meet
              exact ⟨rfl, ⟨HA5.out.below (by (repeat' (first | exact HB10.out | exact HB9.out | (with_reducible exact Below.refl _ _) | (with_reducible refine below_drew ?_) | (with_reducible refine Below.alloc ?_ ?_ _) | (with_reducible refine below_setCell ?_ ?_ _) | omega | (simp; done) | (simp; omega))))⟩, ⟨HT5.out.below (by (repeat' (first | exact HB10.out | exact HB9.out | (with_reducible exact Below.refl _ _) | (with_reducible refine below_drew ?_) | (with_reducible refine Below.alloc ?_ ?_ _) | (with_reducible refine below_setCell ?_ ?_ _) | omega | (simp; done) | (simp; omega))))⟩, ⟨HU5.out.below (by (repeat' (first | exact HB10.out | exact HB9.out | (with_reducible exact Below.refl _ _) | (with_reducible refine below_drew ?_) | (with_reducible refine Below.alloc ?_ ?_ _) | (with_reducible refine below_setCell ?_ ?_ _) | omega | (simp; done) | (simp; omega))))⟩⟩
          case rest =>
            obtain ⟨rfl, HA6, HT6, HU6⟩ := hcut
            clear t0 t1 y0 y1 htb hyb
            have t0 := HT6.out.t.c0
            have t1 := HT6.out.t.c1
            have y0 := HU6.out.t.c0
            have y1 := HU6.out.t.c1
            have e0 := HA6.out.s.c0
            have e1 := HA6.out.s.c1
            have e2 := HA6.out.s.f0
            have e3 := HA6.out.s.f1
            have e4 := HA6.out.x.c0
            have e5 := HA6.out.x.c1
            have e6 := HA6.out.x.f0
            have e7 := HA6.out.x.f1
            have m1 : ¬ (tb = w.heap.size) := by have := HT6.out.t.lo; omega
            have m2 : ¬ (tb = w.heap.size + 1) := by have := HT6.out.t.lo; omega
            have m3 : ¬ (yb = w.heap.size) := by have := HU6.out.t.lo; omega
            have m4 : ¬ (yb = w.heap.size + 1) := by have := HU6.out.t.lo; omega
            have m5 : ¬ (w.heap.size = tb) := fun e => m1 e.symm
            have m6 : ¬ (w.heap.size + 1 = tb) := fun e => m2 e.symm
            have m7 : ¬ (w.heap.size = yb) := fun e => m3 e.symm
            have m8 : ¬ (w.heap.size + 1 = yb) := fun e => m4 e.symm
            go_wp2_with fail
            go_region
            all_goals
              go_wp2
              go_roundw
              case rel =>
                refine ⟨k + 1, ql, qn, A7, c7, A8, c8, A6, c6, by omega, by simp, rfl, ⟨?_⟩, HO2, HIDS2⟩
                have HA7 := PwA.below HA6.out (below_drew (Below.refl _ wc))
                have HT7 := PwT.below HT6.out (below_drew (Below.refl _ wc))
                have HU7 := PwU.below HU6.out (below_drew (Below.refl _ wc))
                first
                  | exact (HA7.setS HT7.o).setX (flat_put (flat_put HU7.o (by omega)) (by omega))
                  | exact (HA7.setX HU7.o).setS (flat_put (flat_put HT7.o (by omega)) (by omega))
              case measure => simp [intOf]; omega
    · have hk2 : k = l.length := by omega
      subst hk2
      rw [List.take_length] at HW HIDS
      obtain ⟨⟨⟨pl, pn⟩, m⟩, hpl⟩ : ∃ z, playP l = z := ⟨_, rfl⟩
      have HPL := Aside0.mk hpl
      have hlen64 : pl.length ≤ 64 := by have := playP_len l; rw [hpl] at this; exact this
      obtain ⟨⟨q, is⟩, hfq⟩ : ∃ z, findP ps p = z := ⟨_, rfl⟩
      have HFQ := Aside0.mk hfq
      have HI1 := Aside0.mk (show ∀ r ∈ l, okId r from fun r hr => ⟨HIDS.out r hr, (HOK.out r hr).2.1⟩)
      have HI2 := Aside0.mk (show ∀ r ∈ l, okK r from fun r hr => ⟨(HOK.out r hr).1, HIDS.out r hr, (HOK.out r hr).2.1⟩)
      have hl1000 : l.length ≤ 1000 := by have := HLEN.out; omega
      clear hpl hfq hlt hk
      go_upto_region 21 with (first
        | (go_at_call 31; refine (Play_calls A5 c5 l _ (Kd.R_reads' HW.out.a).2.2 hl1000 HI1.out).mono ?_; rw [HPL.out]; rintro e w5 ⟨v5, rfl, ho5, hb5⟩; obtain ⟨A6, c6, rfl⟩ := Kd.R_slice ho5; have HR5 := Aside0.mk (And.intro ho5 hb5); have hw_ := HW.out.below HR5.out.2; have s0 := hw_.s.c0; have s1 := hw_.s.c1; have x0 := hw_.x.c0; have x1 := hw_.x.c1; have y0 : w.heap.size < w5.heap.size := hw_.s.hi; have y1 : w.heap.size + 1 < w5.heap.size := hw_.x.hi; have n0 : ¬ (w.heap.size = w5.heap.size) := (by omega); have n1 : ¬ (w.heap.size + 1 = w5.heap.size) := (by omega); clear hw_; clear ho5 hb5)
        | (go_at_call 32; refine (PlayR_calls A c l _ (Kd.C_below HC.out (below_step HW.out.b (below_step HR5.out.2 (below_alloc (Below.refl _ _) _)))) hl1000 HI2.out).mono ?_; rw [HPL.out]; rintro e w6 ⟨A7, c7, rfl, hc7, hb6⟩; have HB6 := Aside0.mk (show Below w5.heap.size w5 w6 from below_step (below_alloc (Below.refl _ _) _) hb6); have B13 := Aside0.mk ((bx_alloc (lo := 0) (Nat.zero_le _)).below hb6 (by simp)); have HC13 := Aside0.mk (Kd.C_below (Kd.R_reads' HR5.out.1).2.2 HB6.out); have HC7 := Aside0.mk hc7; have HBr6 := Aside0.mk (below_step HR5.out.2 HB6.out); clear s0 s1 x0 x1 y0 y1 n0 n1; have hw_ := HW.out.below HBr6.out; have s0 := hw_.s.c0; have s1 := hw_.s.c1; have x0 := hw_.x.c0; have x1 := hw_.x.c1; have y0 : w.heap.size < w6.heap.size := hw_.s.hi; have y1 : w.heap.size + 1 < w6.heap.size := hw_.x.hi; have n0 : ¬ (w.heap.size = w6.heap.size) := (by omega); have n1 : ¬ (w.heap.size + 1 = w6.heap.size) := (by omega); clear hw_; clear hc7 hb6)
        | (go_at_call 33; refine (Find_calls A2 c2 ps nx p _ (Kd.C_below (Kd.R_reads' HW.out.o).2.2 (below_step HBr6.out (below_alloc (Below.refl _ _) _))) (Nat.le_trans HORD.out.few (by decide))).mono ?_; rw [HFQ.out]; rintro e w7 ⟨rfl, hb7⟩; have HB7 := Aside0.mk (show Below w6.heap.size w6 w7 from below_step (below_alloc (Below.refl _ _) _) hb7); have B15 := Aside0.mk ((bx_alloc (lo := 0) (Nat.zero_le _)).below hb7 (by simp)); have B13b := Aside0.mk (B13.out.below HB7.out B13.out.hi); have HBr7 := Aside0.mk (below_step HBr6.out HB7.out); clear s0 s1 x0 x1 y0 y1 n0 n1; have hw_ := HW.out.below HBr7.out; have s0 := hw_.s.c0; have s1 := hw_.s.c1; have x0 := hw_.x.c0; have x1 := hw_.x.c1; have y0 : w.heap.size < w7.heap.size := hw_.s.hi; have y1 : w.heap.size + 1 < w7.heap.size := hw_.x.hi; have n0 : ¬ (w.heap.size = w7.heap.size) := (by omega); have n1 : ¬ (w.heap.size + 1 = w7.heap.size) := (by omega); clear hw_; clear hb7)
        | (go_at_call 34; refine (FindR_calls A3 c3 ps nx p _ (Kd.C_below (Kd.R_reads' HW.out.r).2.2 (below_step HBr7.out (below_alloc (Below.refl _ _) _))) (Nat.le_trans HORD.out.few (by decide))).mono ?_; rw [HFQ.out]; rintro e w8 ⟨rfl, hb8⟩; have HB8 := Aside0.mk (show Below w7.heap.size w7 w8 from below_step (below_alloc (Below.refl _ _) _) hb8); have R17 := Aside0.mk (show rowAt w8 ⟨w7.heap.size, 0, none⟩ 36 = some (ptL q) from by rw [rowAt_below hb8 (by simp)]; exact row_lit w7 q _); have hi17 : w7.heap.size < w8.heap.size := (by have h_ := hb8.size; simp at h_; omega); have B13c := Aside0.mk (B13b.out.below HB8.out B13b.out.hi); have B15b := Aside0.mk (B15.out.below HB8.out B15.out.hi); have HBr8 := Aside0.mk (below_step HBr7.out HB8.out); clear s0 s1 x0 x1 y0 y1 n0 n1; have hw_ := HW.out.below HBr8.out; have s0 := hw_.s.c0; have s1 := hw_.s.c1; have x0 := hw_.x.c0; have x1 := hw_.x.c1; have y0 : w.heap.size < w8.heap.size := hw_.s.hi; have y1 : w.heap.size + 1 < w8.heap.size := hw_.x.hi; have n0 : ¬ (w.heap.size = w8.heap.size) := (by omega); have n1 : ¬ (w.heap.size + 1 = w8.heap.size) := (by omega); clear hw_; clear hb8))
      have HB9 := Aside0.mk (show Below w8.heap.size w8 (w8.alloc (.cells (ptL q).toArray 78)) from below_alloc (Below.refl _ _) _)
      have hr19 := row_lit w8 q 78
      have hi19 : w8.heap.size < (w8.alloc (.cells (ptL q).toArray 78)).heap.size := by simp
      have hz8 : w8.heap.size ≤ (w8.alloc (.cells (ptL q).toArray 78)).heap.size := by simp
      obtain ⟨w9, hw9⟩ : ∃ w9, w9 = w8.alloc (.cells (ptL q).toArray 78) := ⟨_, rfl⟩
      rw [← hw9] at HB9 hr19 hi19 hz8
      rw [← hw9]
      clear hw9 s0 s1 x0 x1 y0 y1 n0 n1
      have hr17 : rowAt w9 ⟨w7.heap.size, 0, none⟩ 36 = some (ptL q) := by rw [rowAt_below HB9.out hi17]; exact R17.out
      have b13 := B13c.out.below HB9.out B13c.out.hi
      have b15 := B15b.out.below HB9.out B15b.out.hi
      have B9 := Aside0.mk (And.intro b13 b15)
      have d0 := b13.c0
      have d1 := b13.c1
      have d2 := b15.c0
      have d3 := b15.c1
      clear b13 b15
      have hqq : decide (q = q) = true := decide_eq_true rfl
      have hmm : ((m : Int) == (m : Int)) = true := by simp
      have hii : (is == is) = true := by cases is <;> rfl
      have HC13b := Aside0.mk (Kd.C_below HC13.out (below_step HB7.out (below_step HB8.out HB9.out)))
      have HC7b := Aside0.mk (Kd.C_below HC7.out (below_step HB7.out (below_step HB8.out HB9.out)))
      have HBr9 := Aside0.mk (below_step HW.out.b (below_step HBr8.out HB9.out))
      have hi17' : w7.heap.size < w9.heap.size := by omega
      go_region_held3 (fun w' => (w'.cell? ⟨w5.heap.size, 0, none⟩ = some (.slice A6 pl.length c6) ∧ w'.cell? ⟨w5.heap.size, 1, none⟩ = some (.int .i64 pn) ∧ w'.cell? ⟨w6.heap.size, 0, none⟩ = some (.slice A7 pl.length c7) ∧ w'.cell? ⟨w6.heap.size, 1, none⟩ = some (.int .i64 pn)) ∧ rowAt w' ⟨w7.heap.size, 0, none⟩ 36 = some (ptL q) ∧ rowAt w' ⟨w8.heap.size, 0, none⟩ 36 = some (ptL q)) (first | assumption | (refine keep6 (B := w9.heap.size) (And.intro (And.intro d0 (And.intro d1 (And.intro d2 d3))) (And.intro hr17 hr19)) ?_ B9.out.1.hi B9.out.2.hi hi17' hi19; (repeat' (first | exact HB12.out | exact HB11.out | exact HB10.out | (with_reducible exact Below.refl _ _) | (with_reducible refine below_drew ?_) | (with_reducible refine Below.alloc ?_ ?_ _) | (with_reducible refine below_setCell ?_ ?_ _) | omega | (simp; done) | (simp; omega))); done))
        (first
        | (go_at_call 30; refine (back_calls A6 c6 pl pn _ (Kd.C_below HC13b.out (by (repeat' (first | (with_reducible exact Below.refl _ _) | (with_reducible refine below_drew ?_) | (with_reducible refine Below.alloc ?_ ?_ _) | (with_reducible refine below_setCell ?_ ?_ _) | omega | (simp; done) | (simp; omega))))) (Nat.le_trans hlen64 (by decide))).mono ?_; rintro e w10 ⟨A9, c9, rfl, hc9, hb10⟩; have HB10 := Aside0.mk (show Below w9.heap.size w9 w10 from Below.trans (by (repeat' (first | (with_reducible exact Below.refl _ _) | (with_reducible refine below_drew ?_) | (with_reducible refine Below.alloc ?_ ?_ _) | (with_reducible refine below_setCell ?_ ?_ _) | omega | (simp; done) | (simp; omega)))) (hb10.mono (by first | omega | (simp; done) | (simp; omega)))); have HC9 := Aside0.mk hc9; have hs10 := HB10.out.size; clear hc9 hb10)
        | (go_at_call 29; refine (SameR_calls A9 A7 c9 c7 pl pl pn pn _ (Kd.C_below HC9.out (by (repeat' (first | (with_reducible exact Below.refl _ _) | (with_reducible refine below_drew ?_) | (with_reducible refine Below.alloc ?_ ?_ _) | (with_reducible refine below_setCell ?_ ?_ _) | omega | (simp; done) | (simp; omega))))) (Kd.C_below HC7b.out (by (repeat' (first | exact HB10.out | (with_reducible exact Below.refl _ _) | (with_reducible refine below_drew ?_) | (with_reducible refine Below.alloc ?_ ?_ _) | (with_reducible refine below_setCell ?_ ?_ _) | omega | (simp; done) | (simp; omega))))) (Nat.le_trans hlen64 (by decide))).mono ?_; rw [decide_eq_true (show (⟨pl, pn⟩ : St) = ⟨pl, pn⟩ from rfl)]; rintro e w11 ⟨rfl, hb11⟩; have HB11 := Aside0.mk (show Below w9.heap.size w9 w11 from Below.trans (by (repeat' (first | exact HB10.out | (with_reducible exact Below.refl _ _) | (with_reducible refine below_drew ?_) | (with_reducible refine Below.alloc ?_ ?_ _) | (with_reducible refine below_setCell ?_ ?_ _) | omega | (simp; done) | (simp; omega)))) (hb11.mono (by first | omega | (simp; done) | (simp; omega)))); have hs11 := HB11.out.size; clear hb11)
        | (go_at_call 22; refine (awake_calls _ (HT.out.below (below_step HBr9.out (by (repeat' (first | exact HB11.out | (with_reducible exact Below.refl _ _) | (with_reducible refine below_drew ?_) | (with_reducible refine Below.alloc ?_ ?_ _) | (with_reducible refine below_setCell ?_ ?_ _) | omega | (simp; done) | (simp; omega))))))).mono ?_; rintro e w12 ⟨rfl, hb12⟩; have HB12 := Aside0.mk (show Below w9.heap.size w9 w12 from Below.trans (by (repeat' (first | exact HB11.out | (with_reducible exact Below.refl _ _) | (with_reducible refine below_drew ?_) | (with_reducible refine Below.alloc ?_ ?_ _) | (with_reducible refine below_setCell ?_ ?_ _) | omega | (simp; done) | (simp; omega)))) (hb12.mono (by first | omega | (simp; done) | (simp; omega)))); have hs12 := HB12.out.size; clear hb12))
      all_goals
        go_wp2
        go_ret
        exact ⟨rfl, below_step HBr9.out (by (repeat' (first | exact HB12.out | exact HB11.out | exact HB10.out | (with_reducible exact Below.refl _ _) | (with_reducible refine below_drew ?_) | (with_reducible refine Below.alloc ?_ ?_ _) | (with_reducible refine below_setCell ?_ ?_ _) | omega | (simp; done) | (simp; omega))))⟩
end Go.Proofs.YtiohgpcbdefokaaDoor.B
