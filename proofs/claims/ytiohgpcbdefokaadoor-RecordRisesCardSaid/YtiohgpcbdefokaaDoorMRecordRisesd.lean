/- Contracts and plain laws for the statement RecordRises, part d: several texts of this session behind one another. No condition. -/
import Derived.Test.YtiohgpcbdefokaaDoorMRecordRisesc
import Derived.Deep.DeepCutAuto
/- RecordRises: its walk. No condition. -/
namespace Go.Proofs.YtiohgpcbdefokaaDoor.B
open Go.RowKit Go.Proofs.YtiohgpcbdefokaaDoorW.PrintWords Go.Proofs.YtiohgpcbdefokaaDoor.RowLaws
attribute [local go_sem ↓ high] lvO_hs ldO_hs stO_hs lvO_pt ldO_pt stO_pt zero_pt eqA_pt lvO_ptR ldO_ptR stO_ptR zero_ptR eqA_ptR lvO_rc ldO_rc stO_rc zero_rc eqA_rc lvO_rcR ldO_rcR stO_rcR zero_rcR eqA_rcR lvO_tk ldO_tk stO_tk zero_tk eqA_tk lvO_tkR ldO_tkR stO_tkR zero_tkR eqA_tkR lvO_it ldO_it stO_it zero_it eqA_it blO_pt blO_ptR blO_rc blO_rcR blO_tk blO_tkR blO_it bsO_pt bsO_ptR bsO_rc bsO_rcR bsO_it
attribute [local go_sem high] rowAt_setCell rowAt_setRow cell_setRow_ne isRow_setRow_ne rowAt_alloc rowAt_drew isRow_alloc isRow_drew isRow_setCell rowRun_some okL_hs ldV_hs ldA_hs stA_hs setRow_alloc get_pt_id get_pt_path cut_pt_sum get_pt_size get_pt_off cut_pt okL_pt size_pt lenb_pt eta_pt ldV_pt ldA_pt stA_pt ldV_ptR ldA_ptR stA_ptR get_rc_kind get_rc_id get_rc_path cut_rc_sum get_rc_size get_rc_off cut_rc okL_rc size_rc lenb_rc eta_rc ldV_rc ldA_rc stA_rc ldV_rcR ldA_rcR stA_rcR get_tk_path cut_tk_sum get_tk_size get_tk_off cut_tk_old cut_tk okL_tk size_tk lenb_tk eta_tk ldV_tk ldA_tk stA_tk ldV_tkR ldA_tkR stA_tkR get_it_path get_it_dir get_it_size cut_it_sum cut_it okL_it size_it lenb_it eta_it ldV_it ldA_it stA_it bld_pt_01234 bld_pt_0123 bld_pt_z bld_ptR_01234 bld_ptR_0123 bld_ptR_z bld_rc_012345 bld_rc_015 bld_rc_01 bld_rc_z bld_rc_01234 bld_rc_24 bld_rc_05 bld_rc_0 bld_rcR_012345 bld_rcR_015 bld_rcR_01 bld_rcR_z bld_rcR_01234 bld_rcR_24 bld_rcR_05 bld_rcR_0 bld_tk_01234 bld_tk_0 bld_tk_z bld_tkR_01234 bld_tkR_0 bld_tkR_z bld_it_0123 bld_it_023 bld_it_01 bld_it_0 bld_it_z bs0_pt bs1_pt bs0_ptR bs1_ptR bs0_rc bs1_rc bs0_rcR bs1_rcR bs0_it bs1_it
attribute [local irreducible] wpStill
/-- The box of the state, and its parts. -/
structure StW (w : World) (ps : List Pt) (nx : Int) (wr : World) : Prop where
  b : Below w.heap.size w wr
  z : w.heap.size + 1 ≤ wr.heap.size
  good : Good ⟨ps, nx⟩
  at_ : ∃ A2 c2, wr.cell? ⟨w.heap.size, 0, none⟩ = some (.slice A2 ps.length c2) ∧ wr.cell? ⟨w.heap.size, 1, none⟩ = some (.int .i64 nx) ∧ wr.frozen? ⟨w.heap.size, 0, none⟩ = false ∧ wr.frozen? ⟨w.heap.size, 1, none⟩ = false ∧ Kd.R kPt 75 wr (w.heap.size + 1) (fun _ => True) (.slice A2 ps.length c2) ps
theorem StW.below {w : World} {ps : List Pt} {nx : Int} {wr W : World} (h : StW w ps nx wr) (hb : Below wr.heap.size wr W) : StW w ps nx W := by
  obtain ⟨h1, h2, h3, A2, c2, m0, m1, m2, m3, hO⟩ := h
  have hs := hb.size
  exact ⟨below_step h1 hb, by omega, h3, A2, c2, (hb.cell (p := ⟨w.heap.size, 0, none⟩) (by show w.heap.size < _; omega)).trans m0, (hb.cell (p := ⟨w.heap.size, 1, none⟩) (by show w.heap.size < _; omega)).trans m1, (hb.frozen (p := ⟨w.heap.size, 0, none⟩) (by show w.heap.size < _; omega)).trans m2, (hb.frozen (p := ⟨w.heap.size, 1, none⟩) (by show w.heap.size < _; omega)).trans m3, Kd.R_below hO hb⟩
/-- What an argument's record holds, as it can be read. -/
def okRc (r : Rc) : Prop := 0 ≤ r.kind ∧ -9223372036854775808 ≤ r.id ∧ r.path.size ≤ 9223372036854775807
theorem chk_size {r : Rc} (h : chkE r = 0) : r.kind = 0 → 0 ≤ r.size := by
  intro hk
  unfold chkE at h
  by_cases h1 : 4 < r.kind ∨ r.id < 0 ∨ 1099511627776 < r.id
  · rw [if_pos h1] at h; cases h
  rw [if_neg h1, if_pos hk] at h
  by_cases hb : beginE r = 0
  · unfold beginE at hb
    by_cases h2 : pathE r.path = 0
    · rw [if_pos h2] at hb
      by_cases h3 : resv r.path = true
      · rw [if_pos h3] at hb; cases hb
      rw [if_neg h3] at hb
      by_cases h4 : sizeB r.size = true
      · unfold sizeB at h4
        exact (of_decide_eq_true h4).1
      · rw [if_neg h4] at hb; cases hb
    · rw [if_neg h2] at hb; exact absurd hb h2
  · rw [if_neg hb] at h; exact absurd h hb
theorem keepS {A : Option Addr} {n c g b o B : Nat} {nx : Int} {x : Rc} {w W : World} (hS : w.cell? ⟨g, 0, none⟩ = some (.slice A n c) ∧ w.cell? ⟨g, 1, none⟩ = some (.int .i64 nx) ∧ rowAt w ⟨b, o, none⟩ 37 = some (rcL x)) (hb : Below B w W) (h1 : g < B) (h2 : b < B) :
    W.cell? ⟨g, 0, none⟩ = some (.slice A n c) ∧ W.cell? ⟨g, 1, none⟩ = some (.int .i64 nx) ∧ rowAt W ⟨b, o, none⟩ 37 = some (rcL x) :=
  ⟨(hb.cell (p := ⟨g, 0, none⟩) h1).trans hS.1, (hb.cell (p := ⟨g, 1, none⟩) h1).trans hS.2.1, by rw [rowAt_below hb h2]; exact hS.2.2⟩
/-- Behind a step: the box tb of the new state. -/
structure TB (w : World) (A2 : Option Addr) (c2 : Nat) (ps : List Pt) (nx : Int) (A6 : Option Addr) (c6 : Nat) (ql : List Pt) (qn : Int) (tb : Nat) (W : World) : Prop where
  b : Below w.heap.size w W
  cps : Kd.C kPt W A2 ps.length ps
  lo : w.heap.size + 1 ≤ tb
  hi : tb < W.heap.size
  t0 : W.cell? ⟨tb, 0, none⟩ = some (.slice A6 ql.length c6)
  t1 : W.cell? ⟨tb, 1, none⟩ = some (.int .i64 qn)
  s0 : W.cell? ⟨w.heap.size, 0, none⟩ = some (.slice A2 ps.length c2)
  s1 : W.cell? ⟨w.heap.size, 1, none⟩ = some (.int .i64 nx)
  f0 : W.frozen? ⟨w.heap.size, 0, none⟩ = false
  f1 : W.frozen? ⟨w.heap.size, 1, none⟩ = false
  o : Kd.R kPt 75 W (w.heap.size + 1) (fun _ => True) (.slice A6 ql.length c6) ql
theorem TB.below {w : World} {A2 : Option Addr} {c2 : Nat} {ps : List Pt} {nx : Int} {A6 : Option Addr} {c6 : Nat} {ql : List Pt} {qn : Int} {tb : Nat} {W W' : World} (h : TB w A2 c2 ps nx A6 c6 ql qn tb W) (hb : Below W.heap.size W W') : TB w A2 c2 ps nx A6 c6 ql qn tb W' := by
  have hs := hb.size
  have hw := World.block_lt_of_cell? _ _ h.s0
  exact ⟨below_step h.b hb, Kd.C_below h.cps hb, h.lo, by have := h.hi; omega, (hb.cell (World.block_lt_of_cell? _ _ h.t0)).trans h.t0, (hb.cell (World.block_lt_of_cell? _ _ h.t1)).trans h.t1, (hb.cell (World.block_lt_of_cell? _ _ h.s0)).trans h.s0, (hb.cell (World.block_lt_of_cell? _ _ h.s1)).trans h.s1, (hb.frozen (p := ⟨w.heap.size, 0, none⟩) hw).trans h.f0, (hb.frozen (p := ⟨w.heap.size, 1, none⟩) hw).trans h.f1, Kd.R_below h.o hb⟩
theorem tb_alloc {w wr w6 : World} {A2 : Option Addr} {c2 : Nat} {ps : List Pt} {nx : Int} {A6 : Option Addr} {c6 : Nat} {ql : List Pt} {qn : Int} {t : TypeId} (hbw : Below w.heap.size w wr) (hcp : Kd.C kPt wr A2 ps.length ps) (hz : w.heap.size < wr.heap.size) (hf : wr.frozen? ⟨w.heap.size, 0, none⟩ = false ∧ wr.frozen? ⟨w.heap.size, 1, none⟩ = false) (hb : Below wr.heap.size wr w6) (h0 : w6.cell? ⟨w.heap.size, 0, none⟩ = some (.slice A2 ps.length c2)) (h1 : w6.cell? ⟨w.heap.size, 1, none⟩ = some (.int .i64 nx))
    (hO : Kd.R kPt 75 w6 (w.heap.size + 1) (fun _ => True) (.slice A6 ql.length c6) ql) : TB w A2 c2 ps nx A6 c6 ql qn w6.heap.size (w6.alloc (.cells #[.slice A6 ql.length c6, .int .i64 qn] t)) := by
  have hn : Below w6.heap.size w6 (w6.alloc (.cells #[.slice A6 ql.length c6, .int .i64 qn] t)) := below_alloc (Below.refl _ _) _
  have hw := below_step hb hn
  have hs := hb.size
  exact ⟨below_step hbw hw, Kd.C_below hcp hw, by omega, by simp, cell_of_row _ _ _ _ _ _ (heap_alloc_new _ _), cell_of_row _ _ _ _ _ _ (heap_alloc_new _ _), (hn.cell (World.block_lt_of_cell? _ _ h0)).trans h0, (hn.cell (World.block_lt_of_cell? _ _ h1)).trans h1, (hw.frozen (p := ⟨w.heap.size, 0, none⟩) hz).trans hf.1, (hw.frozen (p := ⟨w.heap.size, 1, none⟩) hz).trans hf.2, Kd.R_below hO hn⟩
theorem cell_two {W : World} {X : Nat} {a b p q : Value} (t0 : W.cell? ⟨X, 0, none⟩ = some p) (t1 : W.cell? ⟨X, 1, none⟩ = some q) : ((W.setCell ⟨X, 0, none⟩ a).setCell ⟨X, 1, none⟩ b).cell? ⟨X, 0, none⟩ = some a ∧ ((W.setCell ⟨X, 0, none⟩ a).setCell ⟨X, 1, none⟩ b).cell? ⟨X, 1, none⟩ = some b := by
  constructor <;> simp [go_sem, *]
theorem tb_set {w wr w6 : World} {A2 : Option Addr} {c2 : Nat} {ps : List Pt} {nx : Int} {A6 : Option Addr} {c6 : Nat} {ql : List Pt} {qn : Int} {X X2 : Nat} {p q : Value} (hbw : Below w.heap.size w wr) (hcp : Kd.C kPt wr A2 ps.length ps) (hz : w.heap.size < wr.heap.size) (hf : wr.frozen? ⟨w.heap.size, 0, none⟩ = false ∧ wr.frozen? ⟨w.heap.size, 1, none⟩ = false) (hb : Below wr.heap.size wr w6) (h0 : w6.cell? ⟨w.heap.size, 0, none⟩ = some (.slice A2 ps.length c2)) (h1 : w6.cell? ⟨w.heap.size, 1, none⟩ = some (.int .i64 nx))
    (hO : Kd.R kPt 75 w6 X2 (fun _ => True) (.slice A6 ql.length c6) ql) (hX2 : w.heap.size + 1 ≤ X2 ∧ X < X2) (hX : wr.heap.size ≤ X) (hX3 : X < w6.heap.size) (t0 : w6.cell? ⟨X, 0, none⟩ = some p) (t1 : w6.cell? ⟨X, 1, none⟩ = some q) :
    TB w A2 c2 ps nx A6 c6 ql qn X ((w6.setCell ⟨X, 0, none⟩ (.slice A6 ql.length c6)).setCell ⟨X, 1, none⟩ (.int .i64 qn)) := by
  have hn : Below wr.heap.size w6 ((w6.setCell ⟨X, 0, none⟩ (.slice A6 ql.length c6)).setCell ⟨X, 1, none⟩ (.int .i64 qn)) := below_setCell (below_setCell (Below.refl _ _) hX _) hX _
  have hw := Below.trans hb hn
  obtain ⟨e0, e1⟩ := cell_two (a := .slice A6 ql.length c6) (b := .int .i64 qn) t0 t1
  exact ⟨below_step hbw hw, Kd.C_below hcp hw, by omega, by simpa [World.setCell] using hX3, e0, e1, (hn.cell (p := ⟨w.heap.size, 0, none⟩) hz).trans h0, (hn.cell (p := ⟨w.heap.size, 1, none⟩) hz).trans h1, (hw.frozen (p := ⟨w.heap.size, 0, none⟩) hz).trans hf.1, (hw.frozen (p := ⟨w.heap.size, 1, none⟩) hz).trans hf.2, Kd.R_lower (flat_put (flat_put hO hX2.2) hX2.2) hX2.1⟩
theorem stw_next {w : World} {A2 : Option Addr} {c2 : Nat} {ps : List Pt} {nx : Int} {A6 : Option Addr} {c6 : Nat} {ql : List Pt} {qn : Int} {tb : Nat} {W : World} (h : TB w A2 c2 ps nx A6 c6 ql qn tb W) (hg : Good ⟨ql, qn⟩) : StW w ql qn ((W.setCell ⟨w.heap.size, 0, none⟩ (.slice A6 ql.length c6)).setCell ⟨w.heap.size, 1, none⟩ (.int .i64 qn)) := by
  obtain ⟨e0, e1⟩ := cell_two (a := .slice A6 ql.length c6) (b := .int .i64 qn) h.s0 h.s1
  have hlt := World.block_lt_of_cell? _ _ h.s0
  have g0 : ((W.setCell ⟨w.heap.size, 0, none⟩ (.slice A6 ql.length c6)).setCell ⟨w.heap.size, 1, none⟩ (.int .i64 qn)).frozen? ⟨w.heap.size, 0, none⟩ = false := by have := h.f0; simp [go_sem, *]
  have g1 : ((W.setCell ⟨w.heap.size, 0, none⟩ (.slice A6 ql.length c6)).setCell ⟨w.heap.size, 1, none⟩ (.int .i64 qn)).frozen? ⟨w.heap.size, 1, none⟩ = false := by have := h.f1; simp [go_sem, *]
  exact ⟨below_setCell (below_setCell h.b (Nat.le_refl _) _) (Nat.le_refl _) _, by have : w.heap.size < W.heap.size := hlt; simp [World.setCell]; omega, hg, A6, c6, e0, e1, g0, g1, flat_put (flat_put h.o (by omega)) (by omega)⟩
theorem step_slice (A2 : Option Addr) (c2 : Nat) (ps : List Pt) (nx : Int) (x : Rc) (hc : ps.length ≤ c2) (hl : ps.length ≤ 64) (h1 : x.id ≤ 2199023255552) (h2 : -9223372036854775808 ≤ x.id) {ql : List Pt} {qn : Int} {qb : Bool} (hq : stepP ⟨ps, nx⟩ x = (⟨ql, qn⟩, qb)) (W : World) (hC : Kd.C kPt W A2 ps.length ps) :
    Calls Tryd.prog 27 #[.agg #[.slice A2 ps.length c2, .int .i64 nx], .agg (rcL x).toArray] W fun e w' => ∃ (A6 : Option Addr) (c6 : Nat), e = .returned (.tuple #[.agg #[.slice A6 ql.length c6, .int .i64 qn], .bool qb]) ∧ Kd.R kPt 75 w' W.heap.size (fun _ => True) (.slice A6 ql.length c6) ql ∧ Below W.heap.size W w' := by
  refine (Step_calls A2 c2 ps nx x W hC hc hl h1 h2).mono ?_
  rintro e w6 ⟨v6, he6, ho6, hb6⟩
  rw [hq] at he6 ho6
  subst he6
  obtain ⟨A6, c6, rfl⟩ := Kd.R_slice ho6
  exact ⟨A6, c6, rfl, ho6, hb6⟩
set_option linter.unusedVariables false in
set_option maxHeartbeats 16000000 in
set_option maxRecDepth 100000 in
theorem Rises_walk (A : Option Addr) (c : Nat) (l : List Rc) (w : World) (hT : TabOK w) (hC : Kd.C kRc w A l.length l) (hok : ∀ r ∈ l, okRc r) :
    Calls Tryd.prog 10 #[.slice A l.length c] w fun e w' => e = .returned (.bool true) ∧ Below w.heap.size w w' := by
  have HT := Aside0.mk hT
  have HC := Aside0.mk hC
  have HOK := Aside0.mk hok
  clear hT hC hok
  by_cases hn : (200 : Int) < (l.length : Int)
  · have hd : decide ((200 : Int) < (l.length : Int)) = true := decide_eq_true hn
    clear hn
    go_enter Tryd.func10, Tryd.ntmps10
    go_wp2_with (go_at_call 22; refine (awake_calls _ HT.out).mono ?_; rintro e w2 ⟨rfl, hb2⟩; have HB2 := Aside0.mk hb2; clear hb2)
    go_ret
    exact ⟨rfl, HB2.out⟩
  · have hd : decide ((200 : Int) < (l.length : Int)) = false := decide_eq_false hn
    have HLEN := Aside0.mk (show l.length ≤ 200 by omega)
    clear hn
    go_enter Tryd.func10, Tryd.ntmps10
    go_wp2
    clear hd
    go_loopw [4] (fun iv wr => ∃ (k : Nat) (ps : List Pt) (nx : Int), k ≤ l.length ∧ iv = .int .i64 k ∧ Aside0 (StW w ps nx wr)) (fun iv _ => l.length - (intOf iv).toNat)
    case atStart =>
      refine ⟨0, [], 0, Nat.zero_le _, rfl, ⟨below_alloc (Below.refl _ _) _, by simp, good_zero, none, 0, ?_, ?_, ?_, ?_, Kd.R_nil _ _ _ _ _⟩⟩ <;> first | (go_simp; done) | (simp; done)
    case round =>
      obtain ⟨k, ps, nx, hk, rfl, HW⟩ := hrel
      obtain ⟨A2, c2, m0, m1, m2, m3, hO⟩ := HW.out.at_
      have HB := Aside0.mk HW.out.b
      have hz := HW.out.z
      have HO := Aside0.mk hO
      have HCR := Aside0.mk (Kd.R_reads' hO).2.2
      have HGD := Aside0.mk HW.out.good
      have HCC := Aside0.mk (Kd.R_reads' hO).2.1
      clear hO
      have n2 : w.heap.size < wr.heap.size := by omega
      have n0 : ¬ (w.heap.size = wr.heap.size) := by omega
      by_cases hlt : k < l.length
      · obtain ⟨b, o, hA, hb, hr⟩ := flat_at HC.out (by decide) (by omega)
        subst hA
        obtain ⟨hrow, hcells⟩ := hr k hlt
        have hx0 := HOK.out l[k] (List.getElem_mem hlt)
        obtain ⟨x, hx⟩ : ∃ x, x = l[k] := ⟨_, rfl⟩
        rw [← hx] at hrow hcells hx0
        have q1 := hcells 1 _ (get_rc_id x)
        have q2 := hcells 2 _ (get_rc_path x)
        rw [← rowAt_below HB.out hb] at hrow
        rw [← HB.out.cell (p := ⟨b, o + k * 37 + 1, none⟩) hb] at q1
        rw [← HB.out.cell (p := ⟨b, o + k * 37 + 2, none⟩) hb] at q2
        clear hr hx hcells
        have HX0 := Aside0.mk hx0
        have HBB := Aside0.mk (show b < w.heap.size from hb)
        have hbn : b < wr.heap.size := by omega
        clear hx0
        have hlt2 : (k : Int) < (l.length : Int) := by omega
        have hkb : k + 1 ≤ 200 := by have := HLEN.out; omega
        by_cases hp : (300 : Int) < (x.path.size : Int)
        · have hd1 : decide ((300 : Int) < (x.path.size : Int)) = true := decide_eq_true hp
          clear hp
          go_wp2_with (go_at_call 22; refine (awake_calls _ (HT.out.below HB.out)).mono ?_; rintro e w2 ⟨rfl, hb2⟩; have HB2 := Aside0.mk (below_step HB.out hb2); clear hb2)
          go_ret
          exact ⟨rfl, HB2.out⟩
        have hd1 : decide ((300 : Int) < (x.path.size : Int)) = false := decide_eq_false hp
        by_cases hi : (2199023255552 : Int) < x.id
        · have hd2 : decide ((2199023255552 : Int) < x.id) = true := decide_eq_true hi
          clear hp hi
          go_wp2_with (go_at_call 22; refine (awake_calls _ (HT.out.below HB.out)).mono ?_; rintro e w2 ⟨rfl, hb2⟩; have HB2 := Aside0.mk (below_step HB.out hb2); clear hb2)
          go_ret
          exact ⟨rfl, HB2.out⟩
        have hd2 : decide ((2199023255552 : Int) < x.id) = false := decide_eq_false hi
        have HID := Aside0.mk (show x.id ≤ 2199023255552 by omega)
        clear hp hi
        by_cases hc0 : chkE x = 0
        case neg =>
          have hd3 : decide (chkE x = 0) = false := decide_eq_false hc0
          have hd4 : (chkE x != 0) = true := bne_iff_ne.2 hc0
          clear hc0
          go_wp2_with (first
            | (go_at_call 24; refine (own_calls x _).mono ?_; rintro e w2 ⟨rfl, hb2⟩; have HB2 := Aside0.mk hb2; clear hb2)
            | (go_at_call 26; refine (Check_calls x _ (HT.out.below (below_step HB.out HB2.out))).mono ?_; rintro e w3 ⟨rfl, hb3⟩; have HB3 := Aside0.mk (below_step HB2.out hb3); clear hb3))
          go_roundw
          case rel => exact ⟨k + 1, ps, nx, by omega, by simp, ⟨StW.below HW.out HB3.out⟩⟩
          case measure => simp [intOf]; omega
        case pos =>
          have HCK := Aside0.mk hc0
          have HGO := Aside0.mk (goes_step HGD.out (chk_size hc0))
          have hd3 : decide (chkE x = 0) = true := decide_eq_true hc0
          have hd4 : (chkE x != 0) = false := by simp [hc0]
          clear hc0
          obtain ⟨q, hq⟩ : ∃ q, stepP ⟨ps, nx⟩ x = q := ⟨_, rfl⟩
          rw [hq] at HGO
          have HQ := Aside0.mk hq
          clear hq
          obtain ⟨⟨ql, qn⟩, qb⟩ := q
          have HSTEP := Aside0.mk (step_slice A2 c2 ps nx x HCC.out HGD.out.few HID.out HX0.out.2.1 HQ.out)
          go_upto_region 10 with (first
            | (go_at_call 24; refine (own_calls x _).mono ?_; rintro e w2 ⟨rfl, hb2⟩; have HB2 := Aside0.mk hb2; clear hb2)
            | (go_at_call 26; refine (Check_calls x _ (HT.out.below (below_step HB.out HB2.out))).mono ?_; rintro e w3 ⟨rfl, hb3⟩; have HB3 := Aside0.mk (below_step HB2.out hb3); have hS3 := keepS (B := wr.heap.size) (And.intro m0 (And.intro m1 hrow)) (below_step HB2.out hb3) n2 hbn; have hs3 := HB3.out.size; clear hb3))
          have HF := Aside0.mk (And.intro m2 m3)
          clear m0 m1 m2 m3 hrow q1 q2 hd1 hd2 hd3 hd4 n0
          go_cut [5, 6] (fun v5 v6 wx => ∃ (tb : Nat) (A6 : Option Addr) (c6 : Nat), v5 = .pointer (some ⟨tb, 0, none⟩) ∧ v6 = .bool qb ∧ Aside0 (TB w A2 c2 ps nx A6 c6 ql qn tb wx))
          case first =>
           go_region_held3 (fun w' => w'.cell? ⟨w.heap.size, 0, none⟩ = some (.slice A2 ps.length c2) ∧ w'.cell? ⟨w.heap.size, 1, none⟩ = some (.int .i64 nx) ∧ rowAt w' ⟨b, o + k * 37, none⟩ 37 = some (rcL x)) (first | assumption | (refine keepS (B := wr.heap.size) hS6 ?_ (by omega) (by omega); (repeat' (first | (with_reducible exact Below.refl _ _) | (with_reducible refine below_drew ?_) | (with_reducible refine Below.alloc ?_ ?_ _) | (with_reducible refine below_setCell ?_ ?_ _) | omega | (simp; done) | (simp; omega))); done) | (refine keepS (B := wr.heap.size) hS5 ?_ (by omega) (by omega); (repeat' (first | (with_reducible exact Below.refl _ _) | (with_reducible refine below_drew ?_) | (with_reducible refine Below.alloc ?_ ?_ _) | (with_reducible refine below_setCell ?_ ?_ _) | omega | (simp; done) | (simp; omega))); done) | (refine keepS (B := wr.heap.size) hS3 ?_ (by omega) (by omega); (repeat' (first | (with_reducible exact Below.refl _ _) | (with_reducible refine below_drew ?_) | (with_reducible refine Below.alloc ?_ ?_ _) | (with_reducible refine below_setCell ?_ ?_ _) | omega | (simp; done) | (simp; omega))); done))
            (first
              | (go_at_call 24; refine (own_calls x _).mono ?_; rintro e w5 ⟨rfl, hb5⟩; have HB5 := Aside0.mk (show Below wr.heap.size wr w5 from Below.trans (by repeat' (first | exact HB3.out | (with_reducible exact Below.refl _ _) | (with_reducible refine below_drew ?_) | (with_reducible refine Below.alloc ?_ ?_ _) | (with_reducible refine below_setCell ?_ ?_ _) | omega | (simp; done) | (simp; omega))) (hb5.mono (by first | omega | (simp; omega)))); have hs5 := HB5.out.size; have hS5 := keepS (B := wr.heap.size) (w := _) (by assumption) (hb5.mono (by first | omega | (simp; omega))) (by omega) (by omega); (first | (have t50 : w5.cell? ⟨w3.heap.size, 0, none⟩ = some (.slice none 0 0) := (hb5.cell (p := ⟨w3.heap.size, 0, none⟩) (by simp)).trans (cell_of_row _ _ _ _ _ _ (heap_alloc_new _ _)); have t51 : w5.cell? ⟨w3.heap.size, 1, none⟩ = some (.int .i64 0) := (hb5.cell (p := ⟨w3.heap.size, 1, none⟩) (by simp)).trans (cell_of_row _ _ _ _ _ _ (heap_alloc_new _ _)); have u50 : w5.frozen? ⟨w3.heap.size, 0, none⟩ = false := (hb5.frozen (p := ⟨w3.heap.size, 0, none⟩) (by simp)).trans (blk_frozen (heap_alloc_new _ _) _); have u51 : w5.frozen? ⟨w3.heap.size, 1, none⟩ = false := (hb5.frozen (p := ⟨w3.heap.size, 1, none⟩) (by simp)).trans (blk_frozen (heap_alloc_new _ _) _); have y5 : w3.heap.size < w5.heap.size := (by have h_ := hb5.size; simp at h_; omega)) | skip); clear hb5)
              | (go_at_call 27; refine (HSTEP.out _ ?hc1).mono ?_; (case hc1 => exact Kd.C_below HCR.out (by repeat' (first | exact HB5.out | (with_reducible exact Below.refl _ _) | (with_reducible refine below_drew ?_) | (with_reducible refine Below.alloc ?_ ?_ _) | (with_reducible refine below_setCell ?_ ?_ _) | omega | (simp; done) | (simp; omega)))); rintro e w6 ⟨A6, c6, rfl, ho6, hb6⟩; have HB6 := Aside0.mk (And.intro (show Below wr.heap.size wr w6 from Below.trans (by repeat' (first | exact HB5.out | (with_reducible exact Below.refl _ _) | (with_reducible refine below_drew ?_) | (with_reducible refine Below.alloc ?_ ?_ _) | (with_reducible refine below_setCell ?_ ?_ _) | omega | (simp; done) | (simp; omega))) (hb6.mono (by first | omega | (simp; omega)))) ho6); have hs6 := HB6.out.1.size; have hS6 := keepS (B := wr.heap.size) (by assumption) (hb6.mono (by first | omega | (simp; omega))) (by omega) (by omega); (first | (have t60 : w6.cell? ⟨w5.heap.size, 0, none⟩ = some (.slice none 0 0) := (hb6.cell (p := ⟨w5.heap.size, 0, none⟩) (by simp)).trans (cell_of_row _ _ _ _ _ _ (heap_alloc_new _ _)); have t61 : w6.cell? ⟨w5.heap.size, 1, none⟩ = some (.int .i64 0) := (hb6.cell (p := ⟨w5.heap.size, 1, none⟩) (by simp)).trans (cell_of_row _ _ _ _ _ _ (heap_alloc_new _ _)); have u60 : w6.frozen? ⟨w5.heap.size, 0, none⟩ = false := (hb6.frozen (p := ⟨w5.heap.size, 0, none⟩) (by simp)).trans (blk_frozen (heap_alloc_new _ _) _); have u61 : w6.frozen? ⟨w5.heap.size, 1, none⟩ = false := (hb6.frozen (p := ⟨w5.heap.size, 1, none⟩) (by simp)).trans (blk_frozen (heap_alloc_new _ _) _); have y6 : w5.heap.size < w6.heap.size := (by have h_ := hb6.size; simp at h_; omega)) | (have t60 : w6.cell? ⟨w3.heap.size, 0, none⟩ = some (.slice none 0 0) := (hb6.cell (p := ⟨w3.heap.size, 0, none⟩) y5).trans t50; have t61 : w6.cell? ⟨w3.heap.size, 1, none⟩ = some (.int .i64 0) := (hb6.cell (p := ⟨w3.heap.size, 1, none⟩) y5).trans t51; have u60 : w6.frozen? ⟨w3.heap.size, 0, none⟩ = false := (hb6.frozen (p := ⟨w3.heap.size, 0, none⟩) y5).trans u50; have u61 : w6.frozen? ⟨w3.heap.size, 1, none⟩ = false := (hb6.frozen (p := ⟨w3.heap.size, 1, none⟩) y5).trans u51; have y6 : w3.heap.size < w6.heap.size := (by have h_ := hb6.size; omega)) | skip); clear ho6 hb6))
           all_goals
             go_wp2_with fail
             go_meet
             first
               | exact ⟨_, A6, c6, rfl, rfl, ⟨tb_alloc HB.out HCR.out n2 HF.out HB6.out.1 hS6.1 hS6.2.1 (Kd.R_lower HB6.out.2 (by first | omega | (simp; omega)))⟩⟩
               | exact ⟨_, A6, c6, rfl, rfl, ⟨tb_set HB.out HCR.out n2 HF.out HB6.out.1 hS6.1 hS6.2.1 HB6.out.2 ⟨by first | omega | (simp; done) | (simp; omega), by first | omega | (simp; done) | (simp; omega)⟩ (by omega) y6 t60 t61⟩⟩
          case rest =>
            obtain ⟨tb, A6, c6, rfl, rfl, HTB⟩ := hcut
            have t0 := HTB.out.t0
            have t1 := HTB.out.t1
            have s0 := HTB.out.s0
            have s1 := HTB.out.s1
            have hd5 : decide (qn < nx) = false := decide_eq_false (by have : nx ≤ qn := HGO.out.next; omega)
            go_upto_region 11 with (fail)
            go_cut [70] (fun v wx => v = .bool false ∧ Aside0 (TB w A2 c2 ps nx A6 c6 ql qn tb wx))
            case first =>
              cases qb with
              | true =>
                go_wp2_with fail
                go_meet
                exact ⟨rfl, HTB⟩
              | false =>
                have HE := Aside0.mk (show decide ((⟨ps, nx⟩ : St) = ⟨ql, qn⟩) = true by rw [HGO.out.same rfl]; simp)
                go_wp2_with (go_at_call 37; refine (Same_calls A2 A6 c2 c6 ps ql nx qn _ HTB.out.cps (Kd.R_reads' HTB.out.o).2.2 (Nat.le_trans HGD.out.few (by decide))).mono ?_; rintro e w7 ⟨rfl, hb7⟩; rw [HE.out]; have HT7 := Aside0.mk (HTB.out.below hb7); have p0 := HT7.out.t0; have p1 := HT7.out.t1; have p2 := HT7.out.s0; have p3 := HT7.out.s1; clear hb7)
                go_meet
                exact ⟨rfl, HT7⟩
            case rest =>
              obtain ⟨rfl, HTW⟩ := hcut
              clear t0 t1 s0 s1 hd5 HTB
              go_wp2_with fail
              go_loopw [7] (fun jv wj => ∃ (j : Nat), j ≤ ql.length ∧ jv = .int .i64 j ∧ Aside0 (TB w A2 c2 ps nx A6 c6 ql qn tb wj)) (fun jv _ => ql.length - (intOf jv).toNat)
              case atStart => exact ⟨0, Nat.zero_le _, rfl, HTW⟩
              case round =>
                obtain ⟨j, hj, rfl, HTJ⟩ := hrel
                have t0 := HTJ.out.t0
                have t1 := HTJ.out.t1
                have s0 := HTJ.out.s0
                have s1 := HTJ.out.s1
                have hf64 : ql.length ≤ 64 := HGO.out.good.few
                by_cases hjl : j < ql.length
                · obtain ⟨b6, o6, hA6, hb6, hr6⟩ := flat_at (Kd.R_reads' HTJ.out.o).2.2 (by decide) (Nat.lt_of_le_of_lt (Nat.zero_le _) hjl)
                  subst hA6
                  have hrow6 := (hr6 j hjl).1
                  have hprev : ∀ i, j = i + 1 → ∃ y : Pt, wr.cell? ⟨b6, o6 + i * 36, none⟩ = some (.int .i64 y.id) ∧ y.id < ql[j].id := by
                    intro i hi
                    have hil : i < ql.length := by omega
                    refine ⟨ql[i], ?_, (List.pairwise_iff_getElem.1 HGO.out.good.ids) i j hil hjl (by omega)⟩
                    have := (hr6 i hil).2 0 _ (get_pt_id ql[i])
                    rwa [Nat.add_zero] at this
                  obtain ⟨p, hp⟩ : ∃ p, p = ql[j] := ⟨_, rfl⟩
                  have HMEM := Aside0.mk (show p ∈ ql by rw [hp]; exact List.getElem_mem hjl)
                  rw [← hp] at hrow6 hprev
                  have HPREV := Aside0.mk hprev
                  clear hprev hr6 hp
                  have hat := HGO.out.good.at_ p HMEM.out
                  have HFP := Aside0.mk (findP_mem HGO.out.good.paths HMEM.out)
                  have HOFF := Aside0.mk (HGO.out.off p HMEM.out)
                  have d1 : decide (qn ≤ p.id) = false := decide_eq_false (by have : p.id < qn := hat.1; omega)
                  have d2 : decide (p.off < 0) = false := decide_eq_false (by have := hat.2.1; omega)
                  have d3 : decide (p.size < p.off) = false := decide_eq_false (by have := hat.2.2; omega)
                  clear hat
                  have hj2 : (j : Int) < (ql.length : Int) := by omega
                  have n6 : ¬ (b6 = wr.heap.size) := by omega
                  have ntb : ¬ (tb = wr.heap.size) := by have := HTJ.out.hi; omega
                  go_upto_region 17 with (fail)
                  go_cut [8, 115] (fun v8 v wx => ∃ pb : Nat, v8 = .pointer (some ⟨pb, 0, none⟩) ∧ v = .bool false ∧ Aside0 (TB w A2 c2 ps nx (some ⟨b6, o6, none⟩) c6 ql qn tb wx ∧ rowAt wx ⟨pb, 0, none⟩ 36 = some (ptL p)))
                  case first =>
                    by_cases h0 : j = 0
                    · subst h0
                      clear HPREV
                      refine still_tail_at 32 (by kernel_rfl) (by kernel_rfl) ?_
                      intro W hW
                      have hbW : Below wr.heap.size wr W := by rw [hW]; exact below_drew (below_alloc (Below.refl _ _) _)
                      have zr : rowAt W ⟨wr.heap.size, 0, none⟩ 36 = some (ptL p) := by rw [hW, rowAt_drew, rowAt_alloc _ _ _ _ _ _ _ (by decide), if_pos rfl, cut_pt]
                      have z0 : W.cell? ⟨wr.heap.size, 0, none⟩ = some (.int .i64 p.id) := (rowAt_some zr).2 0 _ (get_pt_id p)
                      have z34 : W.cell? ⟨wr.heap.size, 34, none⟩ = some (.int .i64 p.size) := (rowAt_some zr).2 34 _ (get_pt_size p)
                      have z35 : W.cell? ⟨wr.heap.size, 35, none⟩ = some (.int .i64 p.off) := (rowAt_some zr).2 35 _ (get_pt_off p)
                      have e0 := (hbW.cell (p := ⟨tb, 0, none⟩) HTJ.out.hi).trans t0
                      have e1 := (hbW.cell (p := ⟨tb, 1, none⟩) HTJ.out.hi).trans t1
                      have HTX := Aside0.mk (And.intro (HTJ.out.below hbW) zr)
                      clear hW hbW t0 t1 s0 s1 zr hrow6
                      simp only [List.take_succ_cons, List.take_zero, List.drop_succ_cons, List.drop_zero]
                      repeat (first | ((with_reducible refine wpStill_plain ?hg (fun K hK => ?_)); (case hg => with_reducible rfl); go_simp; refine still_back hK ?_; clear hK K) | ((with_reducible refine wpStill_skip ?hg (fun K hK => ?_)); (case hg => exact rfl); go_simp; refine still_back hK ?_; clear hK K) | ((with_reducible refine wpStill_held ?hg (fun K hK => ?_)); (case hg => exact rfl); go_simp; refine still_back hK ?_; clear hK K))
                      refine wpStill_nil ?_
                      go_wp2_with fail
                      go_meet
                      exact ⟨_, rfl, rfl, HTX⟩
                    · obtain ⟨i, rfl⟩ : ∃ i, j = i + 1 := ⟨j - 1, by omega⟩
                      obtain ⟨y, hy, hyl⟩ := HPREV.out i rfl
                      have d4 : decide (p.id ≤ y.id) = false := decide_eq_false (by omega)
                      have d5 : decide ((0 : Int) < ((i + 1 : Nat) : Int)) = true := decide_eq_true (by omega)
                      have w1 : IntKind.i64.wrap ((i : Int) + 1 - 1) = (i : Int) := by rw [Int.add_sub_cancel]; exact IntWalk.i64_in _ (by omega)
                      have w2 : IntKind.i64.wrap (i : Int) = (i : Int) := IntWalk.i64_in _ (by omega)
                      have w3 : (i : Int) < (ql.length : Int) := by omega
                      clear h0 hyl
                      refine still_tail_at 32 (by kernel_rfl) (by kernel_rfl) ?_
                      intro W hW
                      have hbW : Below wr.heap.size wr W := by rw [hW]; exact below_drew (below_alloc (Below.refl _ _) _)
                      have zr : rowAt W ⟨wr.heap.size, 0, none⟩ 36 = some (ptL p) := by rw [hW, rowAt_drew, rowAt_alloc _ _ _ _ _ _ _ (by decide), if_pos rfl, cut_pt]
                      have z0 : W.cell? ⟨wr.heap.size, 0, none⟩ = some (.int .i64 p.id) := (rowAt_some zr).2 0 _ (get_pt_id p)
                      have z34 : W.cell? ⟨wr.heap.size, 34, none⟩ = some (.int .i64 p.size) := (rowAt_some zr).2 34 _ (get_pt_size p)
                      have z35 : W.cell? ⟨wr.heap.size, 35, none⟩ = some (.int .i64 p.off) := (rowAt_some zr).2 35 _ (get_pt_off p)
                      have e0 := (hbW.cell (p := ⟨tb, 0, none⟩) HTJ.out.hi).trans t0
                      have e1 := (hbW.cell (p := ⟨tb, 1, none⟩) HTJ.out.hi).trans t1
                      have e2 := (hbW.cell (p := ⟨b6, o6 + i * 36, none⟩) hb6).trans hy
                      have HTX := Aside0.mk (And.intro (HTJ.out.below hbW) zr)
                      clear hW hbW t0 t1 s0 s1 zr hrow6
                      simp only [List.take_succ_cons, List.take_zero, List.drop_succ_cons, List.drop_zero]
                      repeat (first | ((with_reducible refine wpStill_plain ?hg (fun K hK => ?_)); (case hg => with_reducible rfl); go_simp; refine still_back hK ?_; clear hK K) | ((with_reducible refine wpStill_skip ?hg (fun K hK => ?_)); (case hg => exact rfl); go_simp; refine still_back hK ?_; clear hK K) | ((with_reducible refine wpStill_held ?hg (fun K hK => ?_)); (case hg => exact rfl); go_simp; refine still_back hK ?_; clear hK K))
                      refine wpStill_nil ?_
                      go_wp2_with fail
                      go_meet
                      exact ⟨_, rfl, rfl, HTX⟩
                  case rest =>
                    obtain ⟨pb, rfl, rfl, H17⟩ := hcut
                    clear t0 t1 s0 s1 d1 d2 d3 hrow6 HPREV n6 ntb
                    have t0 := H17.out.1.t0
                    have t1 := H17.out.1.t1
                    have r8 := H17.out.2
                    have c8 := (rowAt_some r8).2 1 _ (get_pt_path p)
                    have hpb : pb < wc.heap.size := World.block_lt_of_cell? _ _ c8
                    have c8' : wc.cell? ⟨pb, 1, none⟩ = some (.string p.path) := c8
                    clear c8
                    obtain ⟨⟨old, was⟩, hfs⟩ : ∃ q, findP ps p.path = q := ⟨_, rfl⟩
                    have HFS := Aside0.mk hfs
                    clear hfs
                    cases was with
                    | false =>
                      go_wp2_with (first
                        | (go_at_call 33; (with_reducible refine Calls.mono (Find_calls (some ⟨b6, o6, none⟩) c6 ql qn p.path wc (Kd.R_reads' H17.out.1.o).2.2 (Nat.le_trans HGO.out.good.few (by decide))) ?_); rw [HFP.out]; rintro e w9 ⟨rfl, hb9⟩; have HT9 := Aside0.mk (H17.out.1.below hb9); have r9 : rowAt w9 ⟨pb, 0, none⟩ 36 = some (ptL p) := (by rw [rowAt_below hb9 hpb]; exact r8); have hpb9 : pb < w9.heap.size := (by have := hb9.size; omega); have n9 : ¬ (pb = w9.heap.size) := (by omega); have q1 : w9.cell? ⟨pb, 1, none⟩ = some (.string p.path) := (rowAt_some r9).2 1 _ (get_pt_path p); have s09 := HT9.out.s0; have s19 := HT9.out.s1; have m9 : w.heap.size < w9.heap.size := World.block_lt_of_cell? _ _ s09; have m9' : ¬ (w.heap.size = w9.heap.size) := (by omega); clear hb9)
                        | (go_at_call 33; refine (Find_calls A2 c2 ps nx p.path _ (Kd.C_below HT9.out.cps (below_alloc (Below.refl _ _) _)) (Nat.le_trans HGD.out.few (by decide))).mono ?_; rw [HFS.out]; rintro e w11 ⟨rfl, hb11⟩; have hbz : Below w9.heap.size w9 w11 := Below.trans (below_alloc (Below.refl _ _) _) (hb11.mono (by simp)); have HT11 := Aside0.mk (HT9.out.below hbz); have r11 : rowAt w11 ⟨pb, 0, none⟩ 36 = some (ptL p) := (by rw [rowAt_below hbz hpb9]; exact r9); have g0 : w11.cell? ⟨pb, 0, none⟩ = some (.int .i64 p.id) := (rowAt_some r11).2 0 _ (get_pt_id p); have g35 : w11.cell? ⟨pb, 35, none⟩ = some (.int .i64 p.off) := (rowAt_some r11).2 35 _ (get_pt_off p); have n11 : ¬ (pb = w11.heap.size) := (by have := hbz.size; omega); have hpb11 : pb < w11.heap.size := (by have := hbz.size; omega); clear hb11 hbz))
                      go_roundw
                      case rel => exact ⟨j + 1, by omega, by simp, ⟨HT11.out.below (below_alloc (Below.refl _ _) _)⟩⟩
                      case measure => simp [intOf]; omega
                    | true =>
                      by_cases hio : old.id = p.id
                      · have d6 : decide (old.id = p.id) = true := decide_eq_true hio
                        have d8 : (old.id == p.id) = true := by simp [hio]
                        have d7 : decide (p.off < old.off) = false := decide_eq_false (by have := HOFF.out old HFS.out hio; omega)
                        clear hio
                        go_wp2_with (first
                          | (go_at_call 33; (with_reducible refine Calls.mono (Find_calls (some ⟨b6, o6, none⟩) c6 ql qn p.path wc (Kd.R_reads' H17.out.1.o).2.2 (Nat.le_trans HGO.out.good.few (by decide))) ?_); rw [HFP.out]; rintro e w9 ⟨rfl, hb9⟩; have HT9 := Aside0.mk (H17.out.1.below hb9); have r9 : rowAt w9 ⟨pb, 0, none⟩ 36 = some (ptL p) := (by rw [rowAt_below hb9 hpb]; exact r8); have hpb9 : pb < w9.heap.size := (by have := hb9.size; omega); have n9 : ¬ (pb = w9.heap.size) := (by omega); have q1 : w9.cell? ⟨pb, 1, none⟩ = some (.string p.path) := (rowAt_some r9).2 1 _ (get_pt_path p); have s09 := HT9.out.s0; have s19 := HT9.out.s1; have m9 : w.heap.size < w9.heap.size := World.block_lt_of_cell? _ _ s09; have m9' : ¬ (w.heap.size = w9.heap.size) := (by omega); clear hb9)
                          | (go_at_call 33; refine (Find_calls A2 c2 ps nx p.path _ (Kd.C_below HT9.out.cps (below_alloc (Below.refl _ _) _)) (Nat.le_trans HGD.out.few (by decide))).mono ?_; rw [HFS.out]; rintro e w11 ⟨rfl, hb11⟩; have hbz : Below w9.heap.size w9 w11 := Below.trans (below_alloc (Below.refl _ _) _) (hb11.mono (by simp)); have HT11 := Aside0.mk (HT9.out.below hbz); have r11 : rowAt w11 ⟨pb, 0, none⟩ 36 = some (ptL p) := (by rw [rowAt_below hbz hpb9]; exact r9); have g0 : w11.cell? ⟨pb, 0, none⟩ = some (.int .i64 p.id) := (rowAt_some r11).2 0 _ (get_pt_id p); have g35 : w11.cell? ⟨pb, 35, none⟩ = some (.int .i64 p.off) := (rowAt_some r11).2 35 _ (get_pt_off p); have n11 : ¬ (pb = w11.heap.size) := (by have := hbz.size; omega); have hpb11 : pb < w11.heap.size := (by have := hbz.size; omega); clear hb11 hbz))
                        all_goals
                          go_roundw
                          case rel => exact ⟨j + 1, by omega, by simp, ⟨HT11.out.below (below_alloc (Below.refl _ _) _)⟩⟩
                          case measure => simp [intOf]; omega
                      · have d6 : decide (old.id = p.id) = false := decide_eq_false hio
                        have d8 : (old.id == p.id) = false := by simp [hio]
                        clear hio
                        go_wp2_with (first
                          | (go_at_call 33; (with_reducible refine Calls.mono (Find_calls (some ⟨b6, o6, none⟩) c6 ql qn p.path wc (Kd.R_reads' H17.out.1.o).2.2 (Nat.le_trans HGO.out.good.few (by decide))) ?_); rw [HFP.out]; rintro e w9 ⟨rfl, hb9⟩; have HT9 := Aside0.mk (H17.out.1.below hb9); have r9 : rowAt w9 ⟨pb, 0, none⟩ 36 = some (ptL p) := (by rw [rowAt_below hb9 hpb]; exact r8); have hpb9 : pb < w9.heap.size := (by have := hb9.size; omega); have n9 : ¬ (pb = w9.heap.size) := (by omega); have q1 : w9.cell? ⟨pb, 1, none⟩ = some (.string p.path) := (rowAt_some r9).2 1 _ (get_pt_path p); have s09 := HT9.out.s0; have s19 := HT9.out.s1; have m9 : w.heap.size < w9.heap.size := World.block_lt_of_cell? _ _ s09; have m9' : ¬ (w.heap.size = w9.heap.size) := (by omega); clear hb9)
                          | (go_at_call 33; refine (Find_calls A2 c2 ps nx p.path _ (Kd.C_below HT9.out.cps (below_alloc (Below.refl _ _) _)) (Nat.le_trans HGD.out.few (by decide))).mono ?_; rw [HFS.out]; rintro e w11 ⟨rfl, hb11⟩; have hbz : Below w9.heap.size w9 w11 := Below.trans (below_alloc (Below.refl _ _) _) (hb11.mono (by simp)); have HT11 := Aside0.mk (HT9.out.below hbz); have r11 : rowAt w11 ⟨pb, 0, none⟩ 36 = some (ptL p) := (by rw [rowAt_below hbz hpb9]; exact r9); have g0 : w11.cell? ⟨pb, 0, none⟩ = some (.int .i64 p.id) := (rowAt_some r11).2 0 _ (get_pt_id p); have g35 : w11.cell? ⟨pb, 35, none⟩ = some (.int .i64 p.off) := (rowAt_some r11).2 35 _ (get_pt_off p); have n11 : ¬ (pb = w11.heap.size) := (by have := hbz.size; omega); have hpb11 : pb < w11.heap.size := (by have := hbz.size; omega); clear hb11 hbz))
                        all_goals
                          go_roundw
                          case rel => exact ⟨j + 1, by omega, by simp, ⟨HT11.out.below (below_alloc (Below.refl _ _) _)⟩⟩
                          case measure => simp [intOf]; omega
                · have hj3 : j = ql.length := by omega
                  subst hj3
                  have f0 := HTJ.out.f0
                  have f1 := HTJ.out.f1
                  have ntb : ¬ (w.heap.size = tb) := by have := HTJ.out.lo; omega
                  go_wp2
                  all_goals
                    go_roundw
                    case rel => exact ⟨k + 1, ql, qn, by omega, by simp, ⟨stw_next HTJ.out HGO.out.good⟩⟩
                    case measure => simp [intOf]; omega
      · have hk2 : k = l.length := by omega
        subst hk2
        go_wp2_with (go_at_call 22; refine (awake_calls _ (HT.out.below HB.out)).mono ?_; rintro e w2 ⟨rfl, hb2⟩; have HB2 := Aside0.mk (below_step HB.out hb2); clear hb2)
        go_ret
        exact ⟨rfl, HB2.out⟩
end Go.Proofs.YtiohgpcbdefokaaDoor.B
