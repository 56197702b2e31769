/- Contracts and plain laws for the statement RecordPuts, part d: several texts of this session behind one another. No condition. -/
import Derived.Test.YtiohgpcbdefokaaDoorMRecordPutsc
import Derived.Test.YtiohgpcbdefokaaDoorMRecordPutsb
/- record.Step at a mark. No condition. -/
namespace Go.Proofs.YtiohgpcbdefokaaDoor.B
open Go.RowKit Go.Proofs.YtiohgpcbdefokaaDoorW.PrintWords Go.Proofs.YtiohgpcbdefokaaDoor.RowLaws
attribute [local go_sem ↓ high] lvO_hs ldO_hs stO_hs lvO_pt ldO_pt stO_pt zero_pt eqA_pt lvO_ptR ldO_ptR stO_ptR zero_ptR eqA_ptR lvO_rc ldO_rc stO_rc zero_rc eqA_rc lvO_rcR ldO_rcR stO_rcR zero_rcR eqA_rcR lvO_tk ldO_tk stO_tk zero_tk eqA_tk lvO_tkR ldO_tkR stO_tkR zero_tkR eqA_tkR lvO_it ldO_it stO_it zero_it eqA_it blO_pt blO_ptR blO_rc blO_rcR blO_tk blO_tkR blO_it bsO_pt bsO_ptR bsO_rc bsO_rcR bsO_it
attribute [local go_sem high] rowAt_setCell rowAt_setRow cell_setRow_ne isRow_setRow_ne rowAt_alloc rowAt_drew isRow_alloc isRow_drew isRow_setCell rowRun_some okL_hs ldV_hs ldA_hs stA_hs setRow_alloc get_pt_id get_pt_path cut_pt_sum get_pt_size get_pt_off cut_pt okL_pt size_pt lenb_pt eta_pt ldV_pt ldA_pt stA_pt ldV_ptR ldA_ptR stA_ptR get_rc_kind get_rc_id get_rc_path cut_rc_sum get_rc_size get_rc_off cut_rc okL_rc size_rc lenb_rc eta_rc ldV_rc ldA_rc stA_rc ldV_rcR ldA_rcR stA_rcR get_tk_path cut_tk_sum get_tk_size get_tk_off cut_tk_old cut_tk okL_tk size_tk lenb_tk eta_tk ldV_tk ldA_tk stA_tk ldV_tkR ldA_tkR stA_tkR get_it_path get_it_dir get_it_size cut_it_sum cut_it okL_it size_it lenb_it eta_it ldV_it ldA_it stA_it bld_pt_01234 bld_pt_0123 bld_pt_z bld_ptR_01234 bld_ptR_0123 bld_ptR_z bld_rc_012345 bld_rc_015 bld_rc_01 bld_rc_z bld_rc_01234 bld_rc_24 bld_rc_05 bld_rc_0 bld_rcR_012345 bld_rcR_015 bld_rcR_01 bld_rcR_z bld_rcR_01234 bld_rcR_24 bld_rcR_05 bld_rcR_0 bld_tk_01234 bld_tk_0 bld_tk_z bld_tkR_01234 bld_tkR_0 bld_tkR_z bld_it_0123 bld_it_023 bld_it_01 bld_it_0 bld_it_z bs0_pt bs1_pt bs0_ptR bs1_ptR bs0_rc bs1_rc bs0_rcR bs1_rcR bs0_it bs1_it
attribute [local irreducible] wpStill
theorem part_off {e : Nat} {W : World} {B c i g n : Nat} {ok : Nat → Prop} {l : List Pt} {p : Pt} (h : Kd.R kPt e W B ok (.slice (some ⟨g, 0, none⟩) n c) l) (hx : l[i]? = some p) (x : Int) :
    Kd.R kPt e (W.setCell ⟨g, i * 36 + 35, none⟩ (.int .i64 x)) B ok (.slice (some ⟨g, 0, none⟩) n c) (l.set i { p with off := x }) := by
  have hi := List.getElem?_eq_some_iff.1 hx
  obtain rfl := (Kd.R_reads' h).1
  have hil := hi.1
  obtain ⟨b, o, hA, _, hr⟩ := flat_at (Kd.R_reads' h).2.2 (by decide) (Nat.lt_of_le_of_lt (Nat.zero_le _) hil)
  injection hA with hA
  injection hA with hb ho
  subst hb ho
  have h2 := (hr i hi.1).2
  rw [hi.2] at h2
  have := Kd.R_seg (okp := fun k => ok k ∧ k ≠ g) (x' := { p with off := x }) h (i : Int) (by omega) (by omega) (c := ptL p) (seg := [.int .i64 x]) (j := 35) (ptL_len p) (fun j u hu => by have := h2 j u hu; rw [Nat.zero_add] at this; exact this) (show 35 + 1 ≤ 36 by decide) (show (ptL p).take 35 ++ [Value.int .i64 x] ++ (ptL p).drop (35 + 1) = ptL _ from ptL_off p x) (fun _ h => h)
  exact this.1
theorem part_frozen {W : World} {B c g n : Nat} {ok : Nat → Prop} {l : List Pt} (h : Kd.R kPt 75 W B ok (.slice (some ⟨g, 0, none⟩) n c) l) (j : Nat) : W.frozen? ⟨g, j, none⟩ = false := by
  obtain ⟨_, _, _, cur, hc, _⟩ := R_block h
  exact blk_frozen hc _
set_option linter.unusedVariables false in
set_option maxHeartbeats 8000000 in
set_option maxRecDepth 100000 in
theorem Step_mark1 (A : Option Addr) (c : Nat) (l : List Pt) (nx : Int) (r : Rc) (w : World) (hC : Kd.C kPt w A l.length l) (hc : l.length ≤ c) (hlen : l.length ≤ 64) (hid : r.id ≤ 2199023255552) (hid0 : -9223372036854775808 ≤ r.id) (hk : r.kind = 1) (i : Nat) (p : Pt) (hn : l.findIdx? (fun x => decide (x.id = r.id)) = some i) (hx : l[i]? = some p) (h1 : r.off < p.off) :
    Calls Tryd.prog 27 #[.agg #[.slice A l.length c, .int .i64 nx], .agg (rcL r).toArray] w fun e w' => ∃ v : Value, e = .returned (.tuple #[.agg #[v, .int .i64 (stepP ⟨l, nx⟩ r).1.next], .bool (stepP ⟨l, nx⟩ r).2]) ∧ Kd.R kPt 75 w' w.heap.size (fun _ => True) v (stepP ⟨l, nx⟩ r).1.parts ∧ Below w.heap.size w w' := by
  have HC := Aside0.mk hC
  clear hC
  obtain ⟨hil, hid2, hid3⟩ := List.findIdx?_eq_some_iff_getElem.1 hn
  clear hid3
  have hi := show fstI (fun x : Pt => decide (x.id = r.id)) l = (i : Int) by unfold fstI; rw [hn]
  have HI := Aside0.mk hi
  have HIL := Aside0.mk hil
  have HX := Aside0.mk hx
  have HP := Aside0.mk (show stepP ⟨l, nx⟩ r = (⟨l, nx⟩, false) by simp only [stepP]; rw [if_neg (by rw [hk]; decide), if_neg (by rw [hk]; decide), if_pos hk]; simp only [hn, hx]; rw [if_pos (.inl h1)])
  have hw2 : (i : Int) < (l.length : Int) := by omega
  clear hi hn hil hid2 hx
  go_enter Tryd.func27, Tryd.ntmps27
  go_wp2_with (first | (go_at_call 79; refine (ownS_calls A c l nx _ (Kd.C_below HC.out ?_) hc (Nat.le_trans hlen (by decide))).mono ?_; (exact below_alloc (below_alloc (below_alloc (Below.refl _ _) _) _) _); rintro e w2 ⟨v, rfl, ho, hb2⟩; obtain ⟨A2, c2, rfl⟩ := Kd.R_slice ho; obtain ⟨hcl, hfz⟩ := bcell hb2; have z0 : ¬ (w.heap.size = w2.heap.size) := (by have h_ := hb2.size; simp at h_; omega); have y0 : w.heap.size < w2.heap.size := (by have h_ := hb2.size; simp at h_; omega); have c0_0 : w2.cell? ⟨w.heap.size, 0, none⟩ = some (.slice A l.length c) := (by rw [hcl _ _ (by first | omega | (simp; done) | (simp; omega))]; first | (go_simp; done) | (simp [*]; done) | (simp [go_sem, *]; done)); have f0_0 : w2.frozen? ⟨w.heap.size, 0, none⟩ = false := (by rw [hfz _ _ (by first | omega | (simp; done) | (simp; omega))]; first | (go_simp; done) | (simp [*]; done) | (simp [go_sem, *]; done)); have c0_1 : w2.cell? ⟨w.heap.size, 1, none⟩ = some (.int .i64 nx) := (by rw [hcl _ _ (by first | omega | (simp; done) | (simp; omega))]; first | (go_simp; done) | (simp [*]; done) | (simp [go_sem, *]; done)); have f0_1 : w2.frozen? ⟨w.heap.size, 1, none⟩ = false := (by rw [hfz _ _ (by first | omega | (simp; done) | (simp; omega))]; first | (go_simp; done) | (simp [*]; done) | (simp [go_sem, *]; done)); have z1 : ¬ (w.heap.size + 1 = w2.heap.size) := (by have h_ := hb2.size; simp at h_; omega); have y1 : w.heap.size + 1 < w2.heap.size := (by have h_ := hb2.size; simp at h_; omega); have c1_0 : w2.cell? ⟨w.heap.size + 1, 0, none⟩ = some (.int .u8 r.kind) := (by rw [hcl _ _ (by first | omega | (simp; done) | (simp; omega))]; first | (go_simp; done) | (simp [*]; done) | (simp [go_sem, *]; done)); have c1_1 : w2.cell? ⟨w.heap.size + 1, 1, none⟩ = some (.int .i64 r.id) := (by rw [hcl _ _ (by first | omega | (simp; done) | (simp; omega))]; first | (go_simp; done) | (simp [*]; done) | (simp [go_sem, *]; done)); have c1_36 : w2.cell? ⟨w.heap.size + 1, 36, none⟩ = some (.int .i64 r.off) := (by rw [hcl _ _ (by first | omega | (simp; done) | (simp; omega))]; first | (go_simp; done) | (simp [*]; done) | (simp [go_sem, *]; done)); have z2 : ¬ (w.heap.size + 1 + 1 = w2.heap.size) := (by have h_ := hb2.size; simp at h_; omega); have y2 : w.heap.size + 1 + 1 < w2.heap.size := (by have h_ := hb2.size; simp at h_; omega); have c2_0 : w2.cell? ⟨w.heap.size + 1 + 1, 0, none⟩ = some (.slice none 0 0) := (by rw [hcl _ _ (by first | omega | (simp; done) | (simp; omega))]; first | (go_simp; done) | (simp [*]; done) | (simp [go_sem, *]; done)); have f2_0 : w2.frozen? ⟨w.heap.size + 1 + 1, 0, none⟩ = false := (by rw [hfz _ _ (by first | omega | (simp; done) | (simp; omega))]; first | (go_simp; done) | (simp [*]; done) | (simp [go_sem, *]; done)); have c2_1 : w2.cell? ⟨w.heap.size + 1 + 1, 1, none⟩ = some (.int .i64 0) := (by rw [hcl _ _ (by first | omega | (simp; done) | (simp; omega))]; first | (go_simp; done) | (simp [*]; done) | (simp [go_sem, *]; done)); have f2_1 : w2.frozen? ⟨w.heap.size + 1 + 1, 1, none⟩ = false := (by rw [hfz _ _ (by first | omega | (simp; done) | (simp; omega))]; first | (go_simp; done) | (simp [*]; done) | (simp [go_sem, *]; done)); have r0 : rowAt w2 ⟨w.heap.size + 1, 0, none⟩ 37 = some (rcL r) := (by rw [rowAt_below hb2 (by first | omega | (simp; done) | (simp; omega))]; first | (go_simp; done) | (simp [*]; done) | (simp [go_sem, *]; done)); have HO2 := Aside0.mk (Kd.R_lower (base' := w.heap.size + 1 + 1 + 1) ho (by simp)); have HB2 := Aside0.mk (Below.trans (below_alloc (below_alloc (below_alloc (Below.refl w.heap.size w) _) _) _) (hb2.mono (by simp; omega))); clear hb2 hcl hfz ho) | (go_at_call 80; refine (idx_id A2 c2 l r.id _ _ (Kd.R_reads' (flat_put (flat_put HO2.out (by omega)) (by omega))).2.2 (Nat.le_trans hlen (by decide)) ?hc1).mono ?_; (case hc1 => first | (go_simp; done) | (simp [go_sem, *]; done)); rintro e w3 ⟨rfl, hb3⟩; obtain ⟨hcl, hfz⟩ := bcell hb3; have zi0 : ¬ (w.heap.size = w3.heap.size) := (by have h_ := hb3.size; simp at h_; omega); have yi0 : w.heap.size < w3.heap.size := (by have h_ := hb3.size; simp at h_; omega); have ci0_0 : w3.cell? ⟨w.heap.size, 0, none⟩ = some (.slice A2 l.length c2) := (by rw [hcl _ _ (by first | omega | (simp; done) | (simp; omega))]; first | (go_simp; done) | (simp [*]; done) | (simp [go_sem, *]; done)); have fi0_0 : w3.frozen? ⟨w.heap.size, 0, none⟩ = false := (by rw [hfz _ _ (by first | omega | (simp; done) | (simp; omega))]; first | (go_simp; done) | (simp [*]; done) | (simp [go_sem, *]; done)); have ci0_1 : w3.cell? ⟨w.heap.size, 1, none⟩ = some (.int .i64 nx) := (by rw [hcl _ _ (by first | omega | (simp; done) | (simp; omega))]; first | (go_simp; done) | (simp [*]; done) | (simp [go_sem, *]; done)); have fi0_1 : w3.frozen? ⟨w.heap.size, 1, none⟩ = false := (by rw [hfz _ _ (by first | omega | (simp; done) | (simp; omega))]; first | (go_simp; done) | (simp [*]; done) | (simp [go_sem, *]; done)); have zi1 : ¬ (w.heap.size + 1 = w3.heap.size) := (by have h_ := hb3.size; simp at h_; omega); have yi1 : w.heap.size + 1 < w3.heap.size := (by have h_ := hb3.size; simp at h_; omega); have ci1_0 : w3.cell? ⟨w.heap.size + 1, 0, none⟩ = some (.int .u8 r.kind) := (by rw [hcl _ _ (by first | omega | (simp; done) | (simp; omega))]; first | (go_simp; done) | (simp [*]; done) | (simp [go_sem, *]; done)); have ci1_1 : w3.cell? ⟨w.heap.size + 1, 1, none⟩ = some (.int .i64 r.id) := (by rw [hcl _ _ (by first | omega | (simp; done) | (simp; omega))]; first | (go_simp; done) | (simp [*]; done) | (simp [go_sem, *]; done)); have ci1_36 : w3.cell? ⟨w.heap.size + 1, 36, none⟩ = some (.int .i64 r.off) := (by rw [hcl _ _ (by first | omega | (simp; done) | (simp; omega))]; first | (go_simp; done) | (simp [*]; done) | (simp [go_sem, *]; done)); have zi2 : ¬ (w.heap.size + 1 + 1 = w3.heap.size) := (by have h_ := hb3.size; simp at h_; omega); have yi2 : w.heap.size + 1 + 1 < w3.heap.size := (by have h_ := hb3.size; simp at h_; omega); have ci2_0 : w3.cell? ⟨w.heap.size + 1 + 1, 0, none⟩ = some (.slice none 0 0) := (by rw [hcl _ _ (by first | omega | (simp; done) | (simp; omega))]; first | (go_simp; done) | (simp [*]; done) | (simp [go_sem, *]; done)); have fi2_0 : w3.frozen? ⟨w.heap.size + 1 + 1, 0, none⟩ = false := (by rw [hfz _ _ (by first | omega | (simp; done) | (simp; omega))]; first | (go_simp; done) | (simp [*]; done) | (simp [go_sem, *]; done)); have ci2_1 : w3.cell? ⟨w.heap.size + 1 + 1, 1, none⟩ = some (.int .i64 0) := (by rw [hcl _ _ (by first | omega | (simp; done) | (simp; omega))]; first | (go_simp; done) | (simp [*]; done) | (simp [go_sem, *]; done)); have fi2_1 : w3.frozen? ⟨w.heap.size + 1 + 1, 1, none⟩ = false := (by rw [hfz _ _ (by first | omega | (simp; done) | (simp; omega))]; first | (go_simp; done) | (simp [*]; done) | (simp [go_sem, *]; done)); have ri0 : rowAt w3 ⟨w.heap.size + 1, 0, none⟩ 37 = some (rcL r) := (by rw [rowAt_below hb3 (by first | omega | (simp; done) | (simp; omega))]; first | (go_simp; done) | (simp [*]; done) | (simp [go_sem, *]; done)); have HO3 := Aside0.mk (Kd.R_below (flat_put (flat_put HO2.out (by omega)) (by omega)) hb3); have HB3 := Aside0.mk (Below.trans (below_setCell (below_setCell HB2.out (by omega) _) (by omega) _) (hb3.mono (by simp; omega))); clear hb3 hcl hfz; rw [HI.out]; obtain ⟨g, rfl, hg1, hg2⟩ := R_some HO3.out (Nat.lt_of_le_of_lt (Nat.zero_le _) HIL.out); have HG := Aside0.mk (And.intro hg1 hg2); clear hg1 hg2; obtain ⟨x4, x5⟩ := part_cells HO3.out HX.out; have HG0 := Aside0.mk HB3.out.size))
  refine still_tail_at 23 (by kernel_rfl) (by kernel_rfl) ?_
  intro W hW
  have HOW := Aside0.mk (show Kd.R kPt 75 W (w.heap.size + 1 + 1 + 1) (fun _ => True) (.slice (some ⟨g, 0, none⟩) l.length c2) l from by rw [hW]; exact Kd.R_drew HO3.out)
  have HBW := Aside0.mk (show Below w.heap.size w W from by rw [hW]; exact below_drew HB3.out)
  have hd1 : decide ((i : Int) < 0) = false := by simp
  have hd2 : decide (r.off < p.off) = true := by simp; omega
  have k0 : W.cell? ⟨w.heap.size, 0, none⟩ = some (.slice (some ⟨g, 0, none⟩) l.length c2) := by rw [hW]; exact ci0_0
  have k1 : W.cell? ⟨w.heap.size + 1, 36, none⟩ = some (.int .i64 r.off) := by rw [hW]; exact ci1_36
  have k2 : W.cell? ⟨g, i * 36 + 34, none⟩ = some (.int .i64 p.size) := by rw [hW]; exact x4
  have k3 : W.cell? ⟨g, i * 36 + 35, none⟩ = some (.int .i64 p.off) := by rw [hW]; exact x5
  have HZ := Aside0.mk (show W.cell? ⟨w.heap.size, 0, none⟩ = some (.slice (some ⟨g, 0, none⟩) l.length c2) ∧ W.cell? ⟨w.heap.size, 1, none⟩ = some (.int .i64 nx) ∧ W.frozen? ⟨w.heap.size, 0, none⟩ = false ∧ W.frozen? ⟨w.heap.size, 1, none⟩ = false ∧ W.cell? ⟨w.heap.size + 1 + 1, 0, none⟩ = some (.slice none 0 0) ∧ W.cell? ⟨w.heap.size + 1 + 1, 1, none⟩ = some (.int .i64 0) ∧ W.frozen? ⟨w.heap.size + 1 + 1, 0, none⟩ = false ∧ W.frozen? ⟨w.heap.size + 1 + 1, 1, none⟩ = false from by rw [hW]; exact ⟨ci0_0, ci0_1, fi0_0, fi0_1, ci2_0, ci2_1, fi2_0, fi2_1⟩)
  clear hW z0 y0 c0_0 f0_0 c0_1 f0_1 z1 y1 c1_0 c1_1 c1_36 z2 y2 c2_0 f2_0 c2_1 f2_1 r0 zi0 yi0 ci0_0 fi0_0 ci0_1 fi0_1 zi1 yi1 ci1_0 ci1_1 ci1_36 zi2 yi2 ci2_0 fi2_0 ci2_1 fi2_1 ri0 x4 x5 h1
  simp only [List.take_succ_cons, List.take_zero, List.drop_succ_cons, List.drop_zero]
  repeat (first | ((with_reducible refine wpStill_plain ?hg (fun K hK => ?_)); (case hg => with_reducible rfl); go_simp; refine still_back hK ?_; clear hK K) | ((with_reducible refine wpStill_skip ?hg (fun K hK => ?_)); (case hg => exact rfl); go_simp; refine still_back hK ?_; clear hK K) | ((with_reducible refine wpStill_held ?hg (fun K hK => ?_)); (case hg => exact rfl); go_simp; refine still_back hK ?_; clear hK K))
  refine wpStill_nil ?_
  obtain ⟨j0, j1, j2, j3, j4, j5, j6, j7⟩ := HZ.out
  go_wp2
  refine bodyPost_ret (v := .tuple #[.agg #[.slice (some ⟨g, 0, none⟩) l.length c2, .int .i64 nx], .bool false]) (by simp [results, Tryd.results27, go_sem, *]) rfl ⟨_, by rw [HP.out], ?_, ?_⟩
  · rw [HP.out]; exact Kd.R_lower (flat_put (flat_put (HOW.out) (by omega)) (by omega)) (by omega)
  · have hs3 := HG0.out; (repeat' (first | exact HBW.out | (with_reducible refine below_setCell ?_ ?_ _) | (with_reducible refine below_setRow ?_ ?_ _) | (with_reducible refine Below.alloc ?_ ?_ _) | (with_reducible refine below_drew ?_) | (with_reducible refine pw_below_drewN ?_ _) | (with_reducible exact Below.refl _ _) | omega | (simp; done) | (simp; omega)))
set_option linter.unusedVariables false in
set_option maxHeartbeats 8000000 in
set_option maxRecDepth 100000 in
theorem Step_mark2 (A : Option Addr) (c : Nat) (l : List Pt) (nx : Int) (r : Rc) (w : World) (hC : Kd.C kPt w A l.length l) (hc : l.length ≤ c) (hlen : l.length ≤ 64) (hid : r.id ≤ 2199023255552) (hid0 : -9223372036854775808 ≤ r.id) (hk : r.kind = 1) (i : Nat) (p : Pt) (hn : l.findIdx? (fun x => decide (x.id = r.id)) = some i) (hx : l[i]? = some p) (h1 : ¬ r.off < p.off) (h2 : p.size < r.off) :
    Calls Tryd.prog 27 #[.agg #[.slice A l.length c, .int .i64 nx], .agg (rcL r).toArray] w fun e w' => ∃ v : Value, e = .returned (.tuple #[.agg #[v, .int .i64 (stepP ⟨l, nx⟩ r).1.next], .bool (stepP ⟨l, nx⟩ r).2]) ∧ Kd.R kPt 75 w' w.heap.size (fun _ => True) v (stepP ⟨l, nx⟩ r).1.parts ∧ Below w.heap.size w w' := by
  have HC := Aside0.mk hC
  clear hC
  obtain ⟨hil, hid2, hid3⟩ := List.findIdx?_eq_some_iff_getElem.1 hn
  clear hid3
  have hi := show fstI (fun x : Pt => decide (x.id = r.id)) l = (i : Int) by unfold fstI; rw [hn]
  have HI := Aside0.mk hi
  have HIL := Aside0.mk hil
  have HX := Aside0.mk hx
  have HP := Aside0.mk (show stepP ⟨l, nx⟩ r = (⟨l, nx⟩, false) by simp only [stepP]; rw [if_neg (by rw [hk]; decide), if_neg (by rw [hk]; decide), if_pos hk]; simp only [hn, hx]; rw [if_pos (.inr h2)])
  have hw2 : (i : Int) < (l.length : Int) := by omega
  clear hi hn hil hid2 hx
  go_enter Tryd.func27, Tryd.ntmps27
  go_wp2_with (first | (go_at_call 79; refine (ownS_calls A c l nx _ (Kd.C_below HC.out ?_) hc (Nat.le_trans hlen (by decide))).mono ?_; (exact below_alloc (below_alloc (below_alloc (Below.refl _ _) _) _) _); rintro e w2 ⟨v, rfl, ho, hb2⟩; obtain ⟨A2, c2, rfl⟩ := Kd.R_slice ho; obtain ⟨hcl, hfz⟩ := bcell hb2; have z0 : ¬ (w.heap.size = w2.heap.size) := (by have h_ := hb2.size; simp at h_; omega); have y0 : w.heap.size < w2.heap.size := (by have h_ := hb2.size; simp at h_; omega); have c0_0 : w2.cell? ⟨w.heap.size, 0, none⟩ = some (.slice A l.length c) := (by rw [hcl _ _ (by first | omega | (simp; done) | (simp; omega))]; first | (go_simp; done) | (simp [*]; done) | (simp [go_sem, *]; done)); have f0_0 : w2.frozen? ⟨w.heap.size, 0, none⟩ = false := (by rw [hfz _ _ (by first | omega | (simp; done) | (simp; omega))]; first | (go_simp; done) | (simp [*]; done) | (simp [go_sem, *]; done)); have c0_1 : w2.cell? ⟨w.heap.size, 1, none⟩ = some (.int .i64 nx) := (by rw [hcl _ _ (by first | omega | (simp; done) | (simp; omega))]; first | (go_simp; done) | (simp [*]; done) | (simp [go_sem, *]; done)); have f0_1 : w2.frozen? ⟨w.heap.size, 1, none⟩ = false := (by rw [hfz _ _ (by first | omega | (simp; done) | (simp; omega))]; first | (go_simp; done) | (simp [*]; done) | (simp [go_sem, *]; done)); have z1 : ¬ (w.heap.size + 1 = w2.heap.size) := (by have h_ := hb2.size; simp at h_; omega); have y1 : w.heap.size + 1 < w2.heap.size := (by have h_ := hb2.size; simp at h_; omega); have c1_0 : w2.cell? ⟨w.heap.size + 1, 0, none⟩ = some (.int .u8 r.kind) := (by rw [hcl _ _ (by first | omega | (simp; done) | (simp; omega))]; first | (go_simp; done) | (simp [*]; done) | (simp [go_sem, *]; done)); have c1_1 : w2.cell? ⟨w.heap.size + 1, 1, none⟩ = some (.int .i64 r.id) := (by rw [hcl _ _ (by first | omega | (simp; done) | (simp; omega))]; first | (go_simp; done) | (simp [*]; done) | (simp [go_sem, *]; done)); have c1_36 : w2.cell? ⟨w.heap.size + 1, 36, none⟩ = some (.int .i64 r.off) := (by rw [hcl _ _ (by first | omega | (simp; done) | (simp; omega))]; first | (go_simp; done) | (simp [*]; done) | (simp [go_sem, *]; done)); have z2 : ¬ (w.heap.size + 1 + 1 = w2.heap.size) := (by have h_ := hb2.size; simp at h_; omega); have y2 : w.heap.size + 1 + 1 < w2.heap.size := (by have h_ := hb2.size; simp at h_; omega); have c2_0 : w2.cell? ⟨w.heap.size + 1 + 1, 0, none⟩ = some (.slice none 0 0) := (by rw [hcl _ _ (by first | omega | (simp; done) | (simp; omega))]; first | (go_simp; done) | (simp [*]; done) | (simp [go_sem, *]; done)); have f2_0 : w2.frozen? ⟨w.heap.size + 1 + 1, 0, none⟩ = false := (by rw [hfz _ _ (by first | omega | (simp; done) | (simp; omega))]; first | (go_simp; done) | (simp [*]; done) | (simp [go_sem, *]; done)); have c2_1 : w2.cell? ⟨w.heap.size + 1 + 1, 1, none⟩ = some (.int .i64 0) := (by rw [hcl _ _ (by first | omega | (simp; done) | (simp; omega))]; first | (go_simp; done) | (simp [*]; done) | (simp [go_sem, *]; done)); have f2_1 : w2.frozen? ⟨w.heap.size + 1 + 1, 1, none⟩ = false := (by rw [hfz _ _ (by first | omega | (simp; done) | (simp; omega))]; first | (go_simp; done) | (simp [*]; done) | (simp [go_sem, *]; done)); have r0 : rowAt w2 ⟨w.heap.size + 1, 0, none⟩ 37 = some (rcL r) := (by rw [rowAt_below hb2 (by first | omega | (simp; done) | (simp; omega))]; first | (go_simp; done) | (simp [*]; done) | (simp [go_sem, *]; done)); have HO2 := Aside0.mk (Kd.R_lower (base' := w.heap.size + 1 + 1 + 1) ho (by simp)); have HB2 := Aside0.mk (Below.trans (below_alloc (below_alloc (below_alloc (Below.refl w.heap.size w) _) _) _) (hb2.mono (by simp; omega))); clear hb2 hcl hfz ho) | (go_at_call 80; refine (idx_id A2 c2 l r.id _ _ (Kd.R_reads' (flat_put (flat_put HO2.out (by omega)) (by omega))).2.2 (Nat.le_trans hlen (by decide)) ?hc1).mono ?_; (case hc1 => first | (go_simp; done) | (simp [go_sem, *]; done)); rintro e w3 ⟨rfl, hb3⟩; obtain ⟨hcl, hfz⟩ := bcell hb3; have zi0 : ¬ (w.heap.size = w3.heap.size) := (by have h_ := hb3.size; simp at h_; omega); have yi0 : w.heap.size < w3.heap.size := (by have h_ := hb3.size; simp at h_; omega); have ci0_0 : w3.cell? ⟨w.heap.size, 0, none⟩ = some (.slice A2 l.length c2) := (by rw [hcl _ _ (by first | omega | (simp; done) | (simp; omega))]; first | (go_simp; done) | (simp [*]; done) | (simp [go_sem, *]; done)); have fi0_0 : w3.frozen? ⟨w.heap.size, 0, none⟩ = false := (by rw [hfz _ _ (by first | omega | (simp; done) | (simp; omega))]; first | (go_simp; done) | (simp [*]; done) | (simp [go_sem, *]; done)); have ci0_1 : w3.cell? ⟨w.heap.size, 1, none⟩ = some (.int .i64 nx) := (by rw [hcl _ _ (by first | omega | (simp; done) | (simp; omega))]; first | (go_simp; done) | (simp [*]; done) | (simp [go_sem, *]; done)); have fi0_1 : w3.frozen? ⟨w.heap.size, 1, none⟩ = false := (by rw [hfz _ _ (by first | omega | (simp; done) | (simp; omega))]; first | (go_simp; done) | (simp [*]; done) | (simp [go_sem, *]; done)); have zi1 : ¬ (w.heap.size + 1 = w3.heap.size) := (by have h_ := hb3.size; simp at h_; omega); have yi1 : w.heap.size + 1 < w3.heap.size := (by have h_ := hb3.size; simp at h_; omega); have ci1_0 : w3.cell? ⟨w.heap.size + 1, 0, none⟩ = some (.int .u8 r.kind) := (by rw [hcl _ _ (by first | omega | (simp; done) | (simp; omega))]; first | (go_simp; done) | (simp [*]; done) | (simp [go_sem, *]; done)); have ci1_1 : w3.cell? ⟨w.heap.size + 1, 1, none⟩ = some (.int .i64 r.id) := (by rw [hcl _ _ (by first | omega | (simp; done) | (simp; omega))]; first | (go_simp; done) | (simp [*]; done) | (simp [go_sem, *]; done)); have ci1_36 : w3.cell? ⟨w.heap.size + 1, 36, none⟩ = some (.int .i64 r.off) := (by rw [hcl _ _ (by first | omega | (simp; done) | (simp; omega))]; first | (go_simp; done) | (simp [*]; done) | (simp [go_sem, *]; done)); have zi2 : ¬ (w.heap.size + 1 + 1 = w3.heap.size) := (by have h_ := hb3.size; simp at h_; omega); have yi2 : w.heap.size + 1 + 1 < w3.heap.size := (by have h_ := hb3.size; simp at h_; omega); have ci2_0 : w3.cell? ⟨w.heap.size + 1 + 1, 0, none⟩ = some (.slice none 0 0) := (by rw [hcl _ _ (by first | omega | (simp; done) | (simp; omega))]; first | (go_simp; done) | (simp [*]; done) | (simp [go_sem, *]; done)); have fi2_0 : w3.frozen? ⟨w.heap.size + 1 + 1, 0, none⟩ = false := (by rw [hfz _ _ (by first | omega | (simp; done) | (simp; omega))]; first | (go_simp; done) | (simp [*]; done) | (simp [go_sem, *]; done)); have ci2_1 : w3.cell? ⟨w.heap.size + 1 + 1, 1, none⟩ = some (.int .i64 0) := (by rw [hcl _ _ (by first | omega | (simp; done) | (simp; omega))]; first | (go_simp; done) | (simp [*]; done) | (simp [go_sem, *]; done)); have fi2_1 : w3.frozen? ⟨w.heap.size + 1 + 1, 1, none⟩ = false := (by rw [hfz _ _ (by first | omega | (simp; done) | (simp; omega))]; first | (go_simp; done) | (simp [*]; done) | (simp [go_sem, *]; done)); have ri0 : rowAt w3 ⟨w.heap.size + 1, 0, none⟩ 37 = some (rcL r) := (by rw [rowAt_below hb3 (by first | omega | (simp; done) | (simp; omega))]; first | (go_simp; done) | (simp [*]; done) | (simp [go_sem, *]; done)); have HO3 := Aside0.mk (Kd.R_below (flat_put (flat_put HO2.out (by omega)) (by omega)) hb3); have HB3 := Aside0.mk (Below.trans (below_setCell (below_setCell HB2.out (by omega) _) (by omega) _) (hb3.mono (by simp; omega))); clear hb3 hcl hfz; rw [HI.out]; obtain ⟨g, rfl, hg1, hg2⟩ := R_some HO3.out (Nat.lt_of_le_of_lt (Nat.zero_le _) HIL.out); have HG := Aside0.mk (And.intro hg1 hg2); clear hg1 hg2; obtain ⟨x4, x5⟩ := part_cells HO3.out HX.out; have HG0 := Aside0.mk HB3.out.size))
  refine still_tail_at 23 (by kernel_rfl) (by kernel_rfl) ?_
  intro W hW
  have HOW := Aside0.mk (show Kd.R kPt 75 W (w.heap.size + 1 + 1 + 1) (fun _ => True) (.slice (some ⟨g, 0, none⟩) l.length c2) l from by rw [hW]; exact Kd.R_drew HO3.out)
  have HBW := Aside0.mk (show Below w.heap.size w W from by rw [hW]; exact below_drew HB3.out)
  have hd1 : decide ((i : Int) < 0) = false := by simp
  have hd2 : decide (r.off < p.off) = false := by simp; omega
  have hd3 : decide (p.size < r.off) = true := by simp; omega
  have k0 : W.cell? ⟨w.heap.size, 0, none⟩ = some (.slice (some ⟨g, 0, none⟩) l.length c2) := by rw [hW]; exact ci0_0
  have k1 : W.cell? ⟨w.heap.size + 1, 36, none⟩ = some (.int .i64 r.off) := by rw [hW]; exact ci1_36
  have k2 : W.cell? ⟨g, i * 36 + 34, none⟩ = some (.int .i64 p.size) := by rw [hW]; exact x4
  have k3 : W.cell? ⟨g, i * 36 + 35, none⟩ = some (.int .i64 p.off) := by rw [hW]; exact x5
  have HZ := Aside0.mk (show W.cell? ⟨w.heap.size, 0, none⟩ = some (.slice (some ⟨g, 0, none⟩) l.length c2) ∧ W.cell? ⟨w.heap.size, 1, none⟩ = some (.int .i64 nx) ∧ W.frozen? ⟨w.heap.size, 0, none⟩ = false ∧ W.frozen? ⟨w.heap.size, 1, none⟩ = false ∧ W.cell? ⟨w.heap.size + 1 + 1, 0, none⟩ = some (.slice none 0 0) ∧ W.cell? ⟨w.heap.size + 1 + 1, 1, none⟩ = some (.int .i64 0) ∧ W.frozen? ⟨w.heap.size + 1 + 1, 0, none⟩ = false ∧ W.frozen? ⟨w.heap.size + 1 + 1, 1, none⟩ = false from by rw [hW]; exact ⟨ci0_0, ci0_1, fi0_0, fi0_1, ci2_0, ci2_1, fi2_0, fi2_1⟩)
  clear hW z0 y0 c0_0 f0_0 c0_1 f0_1 z1 y1 c1_0 c1_1 c1_36 z2 y2 c2_0 f2_0 c2_1 f2_1 r0 zi0 yi0 ci0_0 fi0_0 ci0_1 fi0_1 zi1 yi1 ci1_0 ci1_1 ci1_36 zi2 yi2 ci2_0 fi2_0 ci2_1 fi2_1 ri0 x4 x5 h1 h2
  simp only [List.take_succ_cons, List.take_zero, List.drop_succ_cons, List.drop_zero]
  repeat (first | ((with_reducible refine wpStill_plain ?hg (fun K hK => ?_)); (case hg => with_reducible rfl); go_simp; refine still_back hK ?_; clear hK K) | ((with_reducible refine wpStill_skip ?hg (fun K hK => ?_)); (case hg => exact rfl); go_simp; refine still_back hK ?_; clear hK K) | ((with_reducible refine wpStill_held ?hg (fun K hK => ?_)); (case hg => exact rfl); go_simp; refine still_back hK ?_; clear hK K))
  refine wpStill_nil ?_
  obtain ⟨j0, j1, j2, j3, j4, j5, j6, j7⟩ := HZ.out
  go_wp2
  refine bodyPost_ret (v := .tuple #[.agg #[.slice (some ⟨g, 0, none⟩) l.length c2, .int .i64 nx], .bool false]) (by simp [results, Tryd.results27, go_sem, *]) rfl ⟨_, by rw [HP.out], ?_, ?_⟩
  · rw [HP.out]; exact Kd.R_lower (flat_put (flat_put (HOW.out) (by omega)) (by omega)) (by omega)
  · have hs3 := HG0.out; (repeat' (first | exact HBW.out | (with_reducible refine below_setCell ?_ ?_ _) | (with_reducible refine below_setRow ?_ ?_ _) | (with_reducible refine Below.alloc ?_ ?_ _) | (with_reducible refine below_drew ?_) | (with_reducible refine pw_below_drewN ?_ _) | (with_reducible exact Below.refl _ _) | omega | (simp; done) | (simp; omega)))
set_option linter.unusedVariables false in
set_option maxHeartbeats 8000000 in
set_option maxRecDepth 100000 in
theorem Step_mark3 (A : Option Addr) (c : Nat) (l : List Pt) (nx : Int) (r : Rc) (w : World) (hC : Kd.C kPt w A l.length l) (hc : l.length ≤ c) (hlen : l.length ≤ 64) (hid : r.id ≤ 2199023255552) (hid0 : -9223372036854775808 ≤ r.id) (hk : r.kind = 1) (i : Nat) (p : Pt) (hn : l.findIdx? (fun x => decide (x.id = r.id)) = some i) (hx : l[i]? = some p) (h1 : ¬ r.off < p.off) (h2 : ¬ p.size < r.off) :
    Calls Tryd.prog 27 #[.agg #[.slice A l.length c, .int .i64 nx], .agg (rcL r).toArray] w fun e w' => ∃ v : Value, e = .returned (.tuple #[.agg #[v, .int .i64 (stepP ⟨l, nx⟩ r).1.next], .bool (stepP ⟨l, nx⟩ r).2]) ∧ Kd.R kPt 75 w' w.heap.size (fun _ => True) v (stepP ⟨l, nx⟩ r).1.parts ∧ Below w.heap.size w w' := by
  have HC := Aside0.mk hC
  clear hC
  obtain ⟨hil, hid2, hid3⟩ := List.findIdx?_eq_some_iff_getElem.1 hn
  clear hid3
  have hi := show fstI (fun x : Pt => decide (x.id = r.id)) l = (i : Int) by unfold fstI; rw [hn]
  have HI := Aside0.mk hi
  have HIL := Aside0.mk hil
  have HX := Aside0.mk hx
  have HP := Aside0.mk (show stepP ⟨l, nx⟩ r = (⟨l.set i { p with off := r.off }, nx⟩, true) by simp only [stepP]; rw [if_neg (by rw [hk]; decide), if_neg (by rw [hk]; decide), if_pos hk]; simp only [hn, hx]; rw [if_neg (fun h => h.elim h1 h2)])
  have hw2 : (i : Int) < (l.length : Int) := by omega
  clear hi hn hil hid2 hx
  go_enter Tryd.func27, Tryd.ntmps27
  go_wp2_with (first | (go_at_call 79; refine (ownS_calls A c l nx _ (Kd.C_below HC.out ?_) hc (Nat.le_trans hlen (by decide))).mono ?_; (exact below_alloc (below_alloc (below_alloc (Below.refl _ _) _) _) _); rintro e w2 ⟨v, rfl, ho, hb2⟩; obtain ⟨A2, c2, rfl⟩ := Kd.R_slice ho; obtain ⟨hcl, hfz⟩ := bcell hb2; have z0 : ¬ (w.heap.size = w2.heap.size) := (by have h_ := hb2.size; simp at h_; omega); have y0 : w.heap.size < w2.heap.size := (by have h_ := hb2.size; simp at h_; omega); have c0_0 : w2.cell? ⟨w.heap.size, 0, none⟩ = some (.slice A l.length c) := (by rw [hcl _ _ (by first | omega | (simp; done) | (simp; omega))]; first | (go_simp; done) | (simp [*]; done) | (simp [go_sem, *]; done)); have f0_0 : w2.frozen? ⟨w.heap.size, 0, none⟩ = false := (by rw [hfz _ _ (by first | omega | (simp; done) | (simp; omega))]; first | (go_simp; done) | (simp [*]; done) | (simp [go_sem, *]; done)); have c0_1 : w2.cell? ⟨w.heap.size, 1, none⟩ = some (.int .i64 nx) := (by rw [hcl _ _ (by first | omega | (simp; done) | (simp; omega))]; first | (go_simp; done) | (simp [*]; done) | (simp [go_sem, *]; done)); have f0_1 : w2.frozen? ⟨w.heap.size, 1, none⟩ = false := (by rw [hfz _ _ (by first | omega | (simp; done) | (simp; omega))]; first | (go_simp; done) | (simp [*]; done) | (simp [go_sem, *]; done)); have z1 : ¬ (w.heap.size + 1 = w2.heap.size) := (by have h_ := hb2.size; simp at h_; omega); have y1 : w.heap.size + 1 < w2.heap.size := (by have h_ := hb2.size; simp at h_; omega); have c1_0 : w2.cell? ⟨w.heap.size + 1, 0, none⟩ = some (.int .u8 r.kind) := (by rw [hcl _ _ (by first | omega | (simp; done) | (simp; omega))]; first | (go_simp; done) | (simp [*]; done) | (simp [go_sem, *]; done)); have c1_1 : w2.cell? ⟨w.heap.size + 1, 1, none⟩ = some (.int .i64 r.id) := (by rw [hcl _ _ (by first | omega | (simp; done) | (simp; omega))]; first | (go_simp; done) | (simp [*]; done) | (simp [go_sem, *]; done)); have c1_36 : w2.cell? ⟨w.heap.size + 1, 36, none⟩ = some (.int .i64 r.off) := (by rw [hcl _ _ (by first | omega | (simp; done) | (simp; omega))]; first | (go_simp; done) | (simp [*]; done) | (simp [go_sem, *]; done)); have z2 : ¬ (w.heap.size + 1 + 1 = w2.heap.size) := (by have h_ := hb2.size; simp at h_; omega); have y2 : w.heap.size + 1 + 1 < w2.heap.size := (by have h_ := hb2.size; simp at h_; omega); have c2_0 : w2.cell? ⟨w.heap.size + 1 + 1, 0, none⟩ = some (.slice none 0 0) := (by rw [hcl _ _ (by first | omega | (simp; done) | (simp; omega))]; first | (go_simp; done) | (simp [*]; done) | (simp [go_sem, *]; done)); have f2_0 : w2.frozen? ⟨w.heap.size + 1 + 1, 0, none⟩ = false := (by rw [hfz _ _ (by first | omega | (simp; done) | (simp; omega))]; first | (go_simp; done) | (simp [*]; done) | (simp [go_sem, *]; done)); have c2_1 : w2.cell? ⟨w.heap.size + 1 + 1, 1, none⟩ = some (.int .i64 0) := (by rw [hcl _ _ (by first | omega | (simp; done) | (simp; omega))]; first | (go_simp; done) | (simp [*]; done) | (simp [go_sem, *]; done)); have f2_1 : w2.frozen? ⟨w.heap.size + 1 + 1, 1, none⟩ = false := (by rw [hfz _ _ (by first | omega | (simp; done) | (simp; omega))]; first | (go_simp; done) | (simp [*]; done) | (simp [go_sem, *]; done)); have r0 : rowAt w2 ⟨w.heap.size + 1, 0, none⟩ 37 = some (rcL r) := (by rw [rowAt_below hb2 (by first | omega | (simp; done) | (simp; omega))]; first | (go_simp; done) | (simp [*]; done) | (simp [go_sem, *]; done)); have HO2 := Aside0.mk (Kd.R_lower (base' := w.heap.size + 1 + 1 + 1) ho (by simp)); have HB2 := Aside0.mk (Below.trans (below_alloc (below_alloc (below_alloc (Below.refl w.heap.size w) _) _) _) (hb2.mono (by simp; omega))); clear hb2 hcl hfz ho) | (go_at_call 80; refine (idx_id A2 c2 l r.id _ _ (Kd.R_reads' (flat_put (flat_put HO2.out (by omega)) (by omega))).2.2 (Nat.le_trans hlen (by decide)) ?hc1).mono ?_; (case hc1 => first | (go_simp; done) | (simp [go_sem, *]; done)); rintro e w3 ⟨rfl, hb3⟩; obtain ⟨hcl, hfz⟩ := bcell hb3; have zi0 : ¬ (w.heap.size = w3.heap.size) := (by have h_ := hb3.size; simp at h_; omega); have yi0 : w.heap.size < w3.heap.size := (by have h_ := hb3.size; simp at h_; omega); have ci0_0 : w3.cell? ⟨w.heap.size, 0, none⟩ = some (.slice A2 l.length c2) := (by rw [hcl _ _ (by first | omega | (simp; done) | (simp; omega))]; first | (go_simp; done) | (simp [*]; done) | (simp [go_sem, *]; done)); have fi0_0 : w3.frozen? ⟨w.heap.size, 0, none⟩ = false := (by rw [hfz _ _ (by first | omega | (simp; done) | (simp; omega))]; first | (go_simp; done) | (simp [*]; done) | (simp [go_sem, *]; done)); have ci0_1 : w3.cell? ⟨w.heap.size, 1, none⟩ = some (.int .i64 nx) := (by rw [hcl _ _ (by first | omega | (simp; done) | (simp; omega))]; first | (go_simp; done) | (simp [*]; done) | (simp [go_sem, *]; done)); have fi0_1 : w3.frozen? ⟨w.heap.size, 1, none⟩ = false := (by rw [hfz _ _ (by first | omega | (simp; done) | (simp; omega))]; first | (go_simp; done) | (simp [*]; done) | (simp [go_sem, *]; done)); have zi1 : ¬ (w.heap.size + 1 = w3.heap.size) := (by have h_ := hb3.size; simp at h_; omega); have yi1 : w.heap.size + 1 < w3.heap.size := (by have h_ := hb3.size; simp at h_; omega); have ci1_0 : w3.cell? ⟨w.heap.size + 1, 0, none⟩ = some (.int .u8 r.kind) := (by rw [hcl _ _ (by first | omega | (simp; done) | (simp; omega))]; first | (go_simp; done) | (simp [*]; done) | (simp [go_sem, *]; done)); have ci1_1 : w3.cell? ⟨w.heap.size + 1, 1, none⟩ = some (.int .i64 r.id) := (by rw [hcl _ _ (by first | omega | (simp; done) | (simp; omega))]; first | (go_simp; done) | (simp [*]; done) | (simp [go_sem, *]; done)); have ci1_36 : w3.cell? ⟨w.heap.size + 1, 36, none⟩ = some (.int .i64 r.off) := (by rw [hcl _ _ (by first | omega | (simp; done) | (simp; omega))]; first | (go_simp; done) | (simp [*]; done) | (simp [go_sem, *]; done)); have zi2 : ¬ (w.heap.size + 1 + 1 = w3.heap.size) := (by have h_ := hb3.size; simp at h_; omega); have yi2 : w.heap.size + 1 + 1 < w3.heap.size := (by have h_ := hb3.size; simp at h_; omega); have ci2_0 : w3.cell? ⟨w.heap.size + 1 + 1, 0, none⟩ = some (.slice none 0 0) := (by rw [hcl _ _ (by first | omega | (simp; done) | (simp; omega))]; first | (go_simp; done) | (simp [*]; done) | (simp [go_sem, *]; done)); have fi2_0 : w3.frozen? ⟨w.heap.size + 1 + 1, 0, none⟩ = false := (by rw [hfz _ _ (by first | omega | (simp; done) | (simp; omega))]; first | (go_simp; done) | (simp [*]; done) | (simp [go_sem, *]; done)); have ci2_1 : w3.cell? ⟨w.heap.size + 1 + 1, 1, none⟩ = some (.int .i64 0) := (by rw [hcl _ _ (by first | omega | (simp; done) | (simp; omega))]; first | (go_simp; done) | (simp [*]; done) | (simp [go_sem, *]; done)); have fi2_1 : w3.frozen? ⟨w.heap.size + 1 + 1, 1, none⟩ = false := (by rw [hfz _ _ (by first | omega | (simp; done) | (simp; omega))]; first | (go_simp; done) | (simp [*]; done) | (simp [go_sem, *]; done)); have ri0 : rowAt w3 ⟨w.heap.size + 1, 0, none⟩ 37 = some (rcL r) := (by rw [rowAt_below hb3 (by first | omega | (simp; done) | (simp; omega))]; first | (go_simp; done) | (simp [*]; done) | (simp [go_sem, *]; done)); have HO3 := Aside0.mk (Kd.R_below (flat_put (flat_put HO2.out (by omega)) (by omega)) hb3); have HB3 := Aside0.mk (Below.trans (below_setCell (below_setCell HB2.out (by omega) _) (by omega) _) (hb3.mono (by simp; omega))); clear hb3 hcl hfz; rw [HI.out]; obtain ⟨g, rfl, hg1, hg2⟩ := R_some HO3.out (Nat.lt_of_le_of_lt (Nat.zero_le _) HIL.out); have HG := Aside0.mk (And.intro hg1 hg2); clear hg1 hg2; obtain ⟨x4, x5⟩ := part_cells HO3.out HX.out; have HG0 := Aside0.mk HB3.out.size))
  refine still_tail_at 23 (by kernel_rfl) (by kernel_rfl) ?_
  intro W hW
  have HOW := Aside0.mk (show Kd.R kPt 75 W (w.heap.size + 1 + 1 + 1) (fun _ => True) (.slice (some ⟨g, 0, none⟩) l.length c2) l from by rw [hW]; exact Kd.R_drew HO3.out)
  have HBW := Aside0.mk (show Below w.heap.size w W from by rw [hW]; exact below_drew HB3.out)
  have hd1 : decide ((i : Int) < 0) = false := by simp
  have hd2 : decide (r.off < p.off) = false := by simp; omega
  have hd3 : decide (p.size < r.off) = false := by simp; omega
  have k0 : W.cell? ⟨w.heap.size, 0, none⟩ = some (.slice (some ⟨g, 0, none⟩) l.length c2) := by rw [hW]; exact ci0_0
  have k1 : W.cell? ⟨w.heap.size + 1, 36, none⟩ = some (.int .i64 r.off) := by rw [hW]; exact ci1_36
  have k2 : W.cell? ⟨g, i * 36 + 34, none⟩ = some (.int .i64 p.size) := by rw [hW]; exact x4
  have k3 : W.cell? ⟨g, i * 36 + 35, none⟩ = some (.int .i64 p.off) := by rw [hW]; exact x5
  have HZ := Aside0.mk (show W.cell? ⟨w.heap.size, 0, none⟩ = some (.slice (some ⟨g, 0, none⟩) l.length c2) ∧ W.cell? ⟨w.heap.size, 1, none⟩ = some (.int .i64 nx) ∧ W.frozen? ⟨w.heap.size, 0, none⟩ = false ∧ W.frozen? ⟨w.heap.size, 1, none⟩ = false ∧ W.cell? ⟨w.heap.size + 1 + 1, 0, none⟩ = some (.slice none 0 0) ∧ W.cell? ⟨w.heap.size + 1 + 1, 1, none⟩ = some (.int .i64 0) ∧ W.frozen? ⟨w.heap.size + 1 + 1, 0, none⟩ = false ∧ W.frozen? ⟨w.heap.size + 1 + 1, 1, none⟩ = false ∧ W.cell? ⟨g, i * 36 + 35, none⟩ = some (.int .i64 p.off) ∧ W.frozen? ⟨g, i * 36 + 35, none⟩ = false from by rw [hW]; exact ⟨ci0_0, ci0_1, fi0_0, fi0_1, ci2_0, ci2_1, fi2_0, fi2_1, x5, part_frozen HO3.out _⟩)
  clear hW z0 y0 c0_0 f0_0 c0_1 f0_1 z1 y1 c1_0 c1_1 c1_36 z2 y2 c2_0 f2_0 c2_1 f2_1 r0 zi0 yi0 ci0_0 fi0_0 ci0_1 fi0_1 zi1 yi1 ci1_0 ci1_1 ci1_36 zi2 yi2 ci2_0 fi2_0 ci2_1 fi2_1 ri0 x4 x5 h1 h2
  simp only [List.take_succ_cons, List.take_zero, List.drop_succ_cons, List.drop_zero]
  repeat (first | ((with_reducible refine wpStill_plain ?hg (fun K hK => ?_)); (case hg => with_reducible rfl); go_simp; refine still_back hK ?_; clear hK K) | ((with_reducible refine wpStill_skip ?hg (fun K hK => ?_)); (case hg => exact rfl); go_simp; refine still_back hK ?_; clear hK K) | ((with_reducible refine wpStill_held ?hg (fun K hK => ?_)); (case hg => exact rfl); go_simp; refine still_back hK ?_; clear hK K))
  refine wpStill_nil ?_
  obtain ⟨j0, j1, j2, j3, j4, j5, j6, j7, j8, j9⟩ := HZ.out
  have n1 : ¬ (w.heap.size = g) := by have := HG.out.1; omega
  have n2 : ¬ (g = w.heap.size) := by have := HG.out.1; omega
  have n3 : ¬ (w.heap.size + 1 = g) := by have := HG.out.1; omega
  have n4 : ¬ (w.heap.size + 1 + 1 = g) := by have := HG.out.1; omega
  go_wp2
  refine bodyPost_ret (v := .tuple #[.agg #[.slice (some ⟨g, 0, none⟩) l.length c2, .int .i64 nx], .bool true]) (by simp [results, Tryd.results27, go_sem, *]) rfl ⟨_, by rw [HP.out], ?_, ?_⟩
  · have hg3 := HG.out.1; rw [HP.out]; exact Kd.R_lower (flat_put (flat_put (part_off HOW.out HX.out r.off) (by omega)) (by omega)) (by omega)
  · have hs3 := HG0.out; have hg3 := HG.out.1; (repeat' (first | exact HBW.out | (with_reducible refine below_setCell ?_ ?_ _) | (with_reducible refine below_setRow ?_ ?_ _) | (with_reducible refine Below.alloc ?_ ?_ _) | (with_reducible refine below_drew ?_) | (with_reducible refine pw_below_drewN ?_ _) | (with_reducible exact Below.refl _ _) | omega | (simp; done) | (simp; omega)))
set_option linter.unusedVariables false in
set_option maxHeartbeats 8000000 in
set_option maxRecDepth 100000 in
theorem Step_mark0 (A : Option Addr) (c : Nat) (l : List Pt) (nx : Int) (r : Rc) (w : World) (hC : Kd.C kPt w A l.length l) (hc : l.length ≤ c) (hlen : l.length ≤ 64) (hid : r.id ≤ 2199023255552) (hid0 : -9223372036854775808 ≤ r.id) (hk : r.kind = 1) (hn : l.findIdx? (fun x => decide (x.id = r.id)) = none) :
    Calls Tryd.prog 27 #[.agg #[.slice A l.length c, .int .i64 nx], .agg (rcL r).toArray] w fun e w' => ∃ v : Value, e = .returned (.tuple #[.agg #[v, .int .i64 (stepP ⟨l, nx⟩ r).1.next], .bool (stepP ⟨l, nx⟩ r).2]) ∧ Kd.R kPt 75 w' w.heap.size (fun _ => True) v (stepP ⟨l, nx⟩ r).1.parts ∧ Below w.heap.size w w' := by
  have HC := Aside0.mk hC
  clear hC
  have hi := show fstI (fun x : Pt => decide (x.id = r.id)) l = -1 by unfold fstI; rw [hn]
  have HI := Aside0.mk hi
  have HP := Aside0.mk (show stepP ⟨l, nx⟩ r = (⟨l, nx⟩, false) by simp [stepP, hk, hn])
  clear hi hn
  go_enter Tryd.func27, Tryd.ntmps27
  go_wp2_with (first | (go_at_call 79; refine (ownS_calls A c l nx _ (Kd.C_below HC.out ?_) hc (Nat.le_trans hlen (by decide))).mono ?_; (exact below_alloc (below_alloc (below_alloc (Below.refl _ _) _) _) _); rintro e w2 ⟨v, rfl, ho, hb2⟩; obtain ⟨A2, c2, rfl⟩ := Kd.R_slice ho; obtain ⟨hcl, hfz⟩ := bcell hb2; have z0 : ¬ (w.heap.size = w2.heap.size) := (by have h_ := hb2.size; simp at h_; omega); have y0 : w.heap.size < w2.heap.size := (by have h_ := hb2.size; simp at h_; omega); have c0_0 : w2.cell? ⟨w.heap.size, 0, none⟩ = some (.slice A l.length c) := (by rw [hcl _ _ (by first | omega | (simp; done) | (simp; omega))]; first | (go_simp; done) | (simp [*]; done) | (simp [go_sem, *]; done)); have f0_0 : w2.frozen? ⟨w.heap.size, 0, none⟩ = false := (by rw [hfz _ _ (by first | omega | (simp; done) | (simp; omega))]; first | (go_simp; done) | (simp [*]; done) | (simp [go_sem, *]; done)); have c0_1 : w2.cell? ⟨w.heap.size, 1, none⟩ = some (.int .i64 nx) := (by rw [hcl _ _ (by first | omega | (simp; done) | (simp; omega))]; first | (go_simp; done) | (simp [*]; done) | (simp [go_sem, *]; done)); have f0_1 : w2.frozen? ⟨w.heap.size, 1, none⟩ = false := (by rw [hfz _ _ (by first | omega | (simp; done) | (simp; omega))]; first | (go_simp; done) | (simp [*]; done) | (simp [go_sem, *]; done)); have z1 : ¬ (w.heap.size + 1 = w2.heap.size) := (by have h_ := hb2.size; simp at h_; omega); have y1 : w.heap.size + 1 < w2.heap.size := (by have h_ := hb2.size; simp at h_; omega); have c1_0 : w2.cell? ⟨w.heap.size + 1, 0, none⟩ = some (.int .u8 r.kind) := (by rw [hcl _ _ (by first | omega | (simp; done) | (simp; omega))]; first | (go_simp; done) | (simp [*]; done) | (simp [go_sem, *]; done)); have c1_1 : w2.cell? ⟨w.heap.size + 1, 1, none⟩ = some (.int .i64 r.id) := (by rw [hcl _ _ (by first | omega | (simp; done) | (simp; omega))]; first | (go_simp; done) | (simp [*]; done) | (simp [go_sem, *]; done)); have c1_36 : w2.cell? ⟨w.heap.size + 1, 36, none⟩ = some (.int .i64 r.off) := (by rw [hcl _ _ (by first | omega | (simp; done) | (simp; omega))]; first | (go_simp; done) | (simp [*]; done) | (simp [go_sem, *]; done)); have z2 : ¬ (w.heap.size + 1 + 1 = w2.heap.size) := (by have h_ := hb2.size; simp at h_; omega); have y2 : w.heap.size + 1 + 1 < w2.heap.size := (by have h_ := hb2.size; simp at h_; omega); have c2_0 : w2.cell? ⟨w.heap.size + 1 + 1, 0, none⟩ = some (.slice none 0 0) := (by rw [hcl _ _ (by first | omega | (simp; done) | (simp; omega))]; first | (go_simp; done) | (simp [*]; done) | (simp [go_sem, *]; done)); have f2_0 : w2.frozen? ⟨w.heap.size + 1 + 1, 0, none⟩ = false := (by rw [hfz _ _ (by first | omega | (simp; done) | (simp; omega))]; first | (go_simp; done) | (simp [*]; done) | (simp [go_sem, *]; done)); have c2_1 : w2.cell? ⟨w.heap.size + 1 + 1, 1, none⟩ = some (.int .i64 0) := (by rw [hcl _ _ (by first | omega | (simp; done) | (simp; omega))]; first | (go_simp; done) | (simp [*]; done) | (simp [go_sem, *]; done)); have f2_1 : w2.frozen? ⟨w.heap.size + 1 + 1, 1, none⟩ = false := (by rw [hfz _ _ (by first | omega | (simp; done) | (simp; omega))]; first | (go_simp; done) | (simp [*]; done) | (simp [go_sem, *]; done)); have r0 : rowAt w2 ⟨w.heap.size + 1, 0, none⟩ 37 = some (rcL r) := (by rw [rowAt_below hb2 (by first | omega | (simp; done) | (simp; omega))]; first | (go_simp; done) | (simp [*]; done) | (simp [go_sem, *]; done)); have HO2 := Aside0.mk (Kd.R_lower (base' := w.heap.size + 1 + 1 + 1) ho (by simp)); have HB2 := Aside0.mk (Below.trans (below_alloc (below_alloc (below_alloc (Below.refl w.heap.size w) _) _) _) (hb2.mono (by simp; omega))); clear hb2 hcl hfz ho) | (go_at_call 80; refine (idx_id A2 c2 l r.id _ _ (Kd.R_reads' (flat_put (flat_put HO2.out (by omega)) (by omega))).2.2 (Nat.le_trans hlen (by decide)) ?hc1).mono ?_; (case hc1 => first | (go_simp; done) | (simp [go_sem, *]; done)); rintro e w3 ⟨rfl, hb3⟩; obtain ⟨hcl, hfz⟩ := bcell hb3; have zi0 : ¬ (w.heap.size = w3.heap.size) := (by have h_ := hb3.size; simp at h_; omega); have yi0 : w.heap.size < w3.heap.size := (by have h_ := hb3.size; simp at h_; omega); have ci0_0 : w3.cell? ⟨w.heap.size, 0, none⟩ = some (.slice A2 l.length c2) := (by rw [hcl _ _ (by first | omega | (simp; done) | (simp; omega))]; first | (go_simp; done) | (simp [*]; done) | (simp [go_sem, *]; done)); have fi0_0 : w3.frozen? ⟨w.heap.size, 0, none⟩ = false := (by rw [hfz _ _ (by first | omega | (simp; done) | (simp; omega))]; first | (go_simp; done) | (simp [*]; done) | (simp [go_sem, *]; done)); have ci0_1 : w3.cell? ⟨w.heap.size, 1, none⟩ = some (.int .i64 nx) := (by rw [hcl _ _ (by first | omega | (simp; done) | (simp; omega))]; first | (go_simp; done) | (simp [*]; done) | (simp [go_sem, *]; done)); have fi0_1 : w3.frozen? ⟨w.heap.size, 1, none⟩ = false := (by rw [hfz _ _ (by first | omega | (simp; done) | (simp; omega))]; first | (go_simp; done) | (simp [*]; done) | (simp [go_sem, *]; done)); have zi1 : ¬ (w.heap.size + 1 = w3.heap.size) := (by have h_ := hb3.size; simp at h_; omega); have yi1 : w.heap.size + 1 < w3.heap.size := (by have h_ := hb3.size; simp at h_; omega); have ci1_0 : w3.cell? ⟨w.heap.size + 1, 0, none⟩ = some (.int .u8 r.kind) := (by rw [hcl _ _ (by first | omega | (simp; done) | (simp; omega))]; first | (go_simp; done) | (simp [*]; done) | (simp [go_sem, *]; done)); have ci1_1 : w3.cell? ⟨w.heap.size + 1, 1, none⟩ = some (.int .i64 r.id) := (by rw [hcl _ _ (by first | omega | (simp; done) | (simp; omega))]; first | (go_simp; done) | (simp [*]; done) | (simp [go_sem, *]; done)); have ci1_36 : w3.cell? ⟨w.heap.size + 1, 36, none⟩ = some (.int .i64 r.off) := (by rw [hcl _ _ (by first | omega | (simp; done) | (simp; omega))]; first | (go_simp; done) | (simp [*]; done) | (simp [go_sem, *]; done)); have zi2 : ¬ (w.heap.size + 1 + 1 = w3.heap.size) := (by have h_ := hb3.size; simp at h_; omega); have yi2 : w.heap.size + 1 + 1 < w3.heap.size := (by have h_ := hb3.size; simp at h_; omega); have ci2_0 : w3.cell? ⟨w.heap.size + 1 + 1, 0, none⟩ = some (.slice none 0 0) := (by rw [hcl _ _ (by first | omega | (simp; done) | (simp; omega))]; first | (go_simp; done) | (simp [*]; done) | (simp [go_sem, *]; done)); have fi2_0 : w3.frozen? ⟨w.heap.size + 1 + 1, 0, none⟩ = false := (by rw [hfz _ _ (by first | omega | (simp; done) | (simp; omega))]; first | (go_simp; done) | (simp [*]; done) | (simp [go_sem, *]; done)); have ci2_1 : w3.cell? ⟨w.heap.size + 1 + 1, 1, none⟩ = some (.int .i64 0) := (by rw [hcl _ _ (by first | omega | (simp; done) | (simp; omega))]; first | (go_simp; done) | (simp [*]; done) | (simp [go_sem, *]; done)); have fi2_1 : w3.frozen? ⟨w.heap.size + 1 + 1, 1, none⟩ = false := (by rw [hfz _ _ (by first | omega | (simp; done) | (simp; omega))]; first | (go_simp; done) | (simp [*]; done) | (simp [go_sem, *]; done)); have ri0 : rowAt w3 ⟨w.heap.size + 1, 0, none⟩ 37 = some (rcL r) := (by rw [rowAt_below hb3 (by first | omega | (simp; done) | (simp; omega))]; first | (go_simp; done) | (simp [*]; done) | (simp [go_sem, *]; done)); have HO3 := Aside0.mk (Kd.R_below (flat_put (flat_put HO2.out (by omega)) (by omega)) hb3); have HB3 := Aside0.mk (Below.trans (below_setCell (below_setCell HB2.out (by omega) _) (by omega) _) (hb3.mono (by simp; omega))); clear hb3 hcl hfz; rw [HI.out]; have HG0 := Aside0.mk HB3.out.size))
  refine still_tail_at 23 (by kernel_rfl) (by kernel_rfl) ?_
  intro W hW
  have HOW := Aside0.mk (show Kd.R kPt 75 W (w.heap.size + 1 + 1 + 1) (fun _ => True) (.slice A2 l.length c2) l from by rw [hW]; exact Kd.R_drew HO3.out)
  have HBW := Aside0.mk (show Below w.heap.size w W from by rw [hW]; exact below_drew HB3.out)
  have HZ := Aside0.mk (show W.cell? ⟨w.heap.size, 0, none⟩ = some (.slice A2 l.length c2) ∧ W.cell? ⟨w.heap.size, 1, none⟩ = some (.int .i64 nx) ∧ W.frozen? ⟨w.heap.size, 0, none⟩ = false ∧ W.frozen? ⟨w.heap.size, 1, none⟩ = false ∧ W.cell? ⟨w.heap.size + 1 + 1, 0, none⟩ = some (.slice none 0 0) ∧ W.cell? ⟨w.heap.size + 1 + 1, 1, none⟩ = some (.int .i64 0) ∧ W.frozen? ⟨w.heap.size + 1 + 1, 0, none⟩ = false ∧ W.frozen? ⟨w.heap.size + 1 + 1, 1, none⟩ = false from by rw [hW]; exact ⟨ci0_0, ci0_1, fi0_0, fi0_1, ci2_0, ci2_1, fi2_0, fi2_1⟩)
  clear hW z0 y0 c0_0 f0_0 c0_1 f0_1 z1 y1 c1_0 c1_1 c1_36 z2 y2 c2_0 f2_0 c2_1 f2_1 r0 zi0 yi0 ci0_0 fi0_0 ci0_1 fi0_1 zi1 yi1 ci1_0 ci1_1 ci1_36 zi2 yi2 ci2_0 fi2_0 ci2_1 fi2_1 ri0 
  simp only [List.take_succ_cons, List.take_zero, List.drop_succ_cons, List.drop_zero]
  repeat (first | ((with_reducible refine wpStill_plain ?hg (fun K hK => ?_)); (case hg => with_reducible rfl); go_simp; refine still_back hK ?_; clear hK K) | ((with_reducible refine wpStill_skip ?hg (fun K hK => ?_)); (case hg => exact rfl); go_simp; refine still_back hK ?_; clear hK K) | ((with_reducible refine wpStill_held ?hg (fun K hK => ?_)); (case hg => exact rfl); go_simp; refine still_back hK ?_; clear hK K))
  refine wpStill_nil ?_
  obtain ⟨j0, j1, j2, j3, j4, j5, j6, j7⟩ := HZ.out
  go_wp2
  refine bodyPost_ret (v := .tuple #[.agg #[.slice A2 l.length c2, .int .i64 nx], .bool false]) (by simp [results, Tryd.results27, go_sem, *]) rfl ⟨_, by rw [HP.out], ?_, ?_⟩
  · rw [HP.out]; exact Kd.R_lower (flat_put (flat_put (HOW.out) (by omega)) (by omega)) (by omega)
  · have hs3 := HG0.out; (repeat' (first | exact HBW.out | (with_reducible refine below_setCell ?_ ?_ _) | (with_reducible refine below_setRow ?_ ?_ _) | (with_reducible refine Below.alloc ?_ ?_ _) | (with_reducible refine below_drew ?_) | (with_reducible refine pw_below_drewN ?_ _) | (with_reducible exact Below.refl _ _) | omega | (simp; done) | (simp; omega)))
end Go.Proofs.YtiohgpcbdefokaaDoor.B
/- record.Step, whole. No condition. -/
namespace Go.Proofs.YtiohgpcbdefokaaDoor.B
open Go.RowKit Go.Proofs.YtiohgpcbdefokaaDoorW.PrintWords Go.Proofs.YtiohgpcbdefokaaDoor.RowLaws
attribute [local go_sem ↓ high] lvO_hs ldO_hs stO_hs lvO_pt ldO_pt stO_pt zero_pt eqA_pt lvO_ptR ldO_ptR stO_ptR zero_ptR eqA_ptR lvO_rc ldO_rc stO_rc zero_rc eqA_rc lvO_rcR ldO_rcR stO_rcR zero_rcR eqA_rcR lvO_tk ldO_tk stO_tk zero_tk eqA_tk lvO_tkR ldO_tkR stO_tkR zero_tkR eqA_tkR lvO_it ldO_it stO_it zero_it eqA_it blO_pt blO_ptR blO_rc blO_rcR blO_tk blO_tkR blO_it bsO_pt bsO_ptR bsO_rc bsO_rcR bsO_it
attribute [local go_sem high] rowAt_setCell rowAt_setRow cell_setRow_ne isRow_setRow_ne rowAt_alloc rowAt_drew isRow_alloc isRow_drew isRow_setCell rowRun_some okL_hs ldV_hs ldA_hs stA_hs setRow_alloc get_pt_id get_pt_path cut_pt_sum get_pt_size get_pt_off cut_pt okL_pt size_pt lenb_pt eta_pt ldV_pt ldA_pt stA_pt ldV_ptR ldA_ptR stA_ptR get_rc_kind get_rc_id get_rc_path cut_rc_sum get_rc_size get_rc_off cut_rc okL_rc size_rc lenb_rc eta_rc ldV_rc ldA_rc stA_rc ldV_rcR ldA_rcR stA_rcR get_tk_path cut_tk_sum get_tk_size get_tk_off cut_tk_old cut_tk okL_tk size_tk lenb_tk eta_tk ldV_tk ldA_tk stA_tk ldV_tkR ldA_tkR stA_tkR get_it_path get_it_dir get_it_size cut_it_sum cut_it okL_it size_it lenb_it eta_it ldV_it ldA_it stA_it bld_pt_01234 bld_pt_0123 bld_pt_z bld_ptR_01234 bld_ptR_0123 bld_ptR_z bld_rc_012345 bld_rc_015 bld_rc_01 bld_rc_z bld_rc_01234 bld_rc_24 bld_rc_05 bld_rc_0 bld_rcR_012345 bld_rcR_015 bld_rcR_01 bld_rcR_z bld_rcR_01234 bld_rcR_24 bld_rcR_05 bld_rcR_0 bld_tk_01234 bld_tk_0 bld_tk_z bld_tkR_01234 bld_tkR_0 bld_tkR_z bld_it_0123 bld_it_023 bld_it_01 bld_it_0 bld_it_z bs0_pt bs1_pt bs0_ptR bs1_ptR bs0_rc bs1_rc bs0_rcR bs1_rcR bs0_it bs1_it
set_option linter.unusedVariables false in
set_option maxHeartbeats 8000000 in
set_option maxRecDepth 100000 in
theorem Step_begin (A : Option Addr) (c : Nat) (l : List Pt) (nx : Int) (r : Rc) (w : World) (hC : Kd.C kPt w A l.length l) (hc : l.length ≤ c) (hlen : l.length ≤ 64) (hid : r.id ≤ 2199023255552) (hid0 : -9223372036854775808 ≤ r.id) (hk : r.kind = 0) :
    Calls Tryd.prog 27 #[.agg #[.slice A l.length c, .int .i64 nx], .agg (rcL r).toArray] w fun e w' => ∃ v : Value, e = .returned (.tuple #[.agg #[v, .int .i64 (stepP ⟨l, nx⟩ r).1.next], .bool (stepP ⟨l, nx⟩ r).2]) ∧ Kd.R kPt 75 w' w.heap.size (fun _ => True) v (stepP ⟨l, nx⟩ r).1.parts ∧ Below w.heap.size w w' := by
  have HC := Aside0.mk hC
  clear hC
  obtain ⟨q, hq⟩ : ∃ q, beginP ⟨l, nx⟩ r = q := ⟨_, rfl⟩
  have HQ := Aside0.mk hq
  have HP := Aside0.mk (show stepP ⟨l, nx⟩ r = q by unfold stepP; rw [if_pos hk, hq])
  clear hq
  obtain ⟨⟨ql, qn⟩, qb⟩ := q
  go_enter Tryd.func27, Tryd.ntmps27
  go_wp2_with (first | (go_at_call 79; refine (ownS_calls A c l nx _ (Kd.C_below HC.out ?_) hc (Nat.le_trans hlen (by decide))).mono ?_; (exact below_alloc (below_alloc (below_alloc (Below.refl _ _) _) _) _); rintro e w2 ⟨v, rfl, ho, hb2⟩; obtain ⟨A2, c2, rfl⟩ := Kd.R_slice ho; obtain ⟨hcl, hfz⟩ := bcell hb2; have z0 : ¬ (w.heap.size = w2.heap.size) := (by have h_ := hb2.size; simp at h_; omega); have y0 : w.heap.size < w2.heap.size := (by have h_ := hb2.size; simp at h_; omega); have c0_0 : w2.cell? ⟨w.heap.size, 0, none⟩ = some (.slice A l.length c) := (by rw [hcl _ _ (by first | omega | (simp; done) | (simp; omega))]; first | (go_simp; done) | (simp [*]; done) | (simp [go_sem, *]; done)); have f0_0 : w2.frozen? ⟨w.heap.size, 0, none⟩ = false := (by rw [hfz _ _ (by first | omega | (simp; done) | (simp; omega))]; first | (go_simp; done) | (simp [*]; done) | (simp [go_sem, *]; done)); have c0_1 : w2.cell? ⟨w.heap.size, 1, none⟩ = some (.int .i64 nx) := (by rw [hcl _ _ (by first | omega | (simp; done) | (simp; omega))]; first | (go_simp; done) | (simp [*]; done) | (simp [go_sem, *]; done)); have f0_1 : w2.frozen? ⟨w.heap.size, 1, none⟩ = false := (by rw [hfz _ _ (by first | omega | (simp; done) | (simp; omega))]; first | (go_simp; done) | (simp [*]; done) | (simp [go_sem, *]; done)); have z1 : ¬ (w.heap.size + 1 = w2.heap.size) := (by have h_ := hb2.size; simp at h_; omega); have y1 : w.heap.size + 1 < w2.heap.size := (by have h_ := hb2.size; simp at h_; omega); have c1_0 : w2.cell? ⟨w.heap.size + 1, 0, none⟩ = some (.int .u8 r.kind) := (by rw [hcl _ _ (by first | omega | (simp; done) | (simp; omega))]; first | (go_simp; done) | (simp [*]; done) | (simp [go_sem, *]; done)); have c1_1 : w2.cell? ⟨w.heap.size + 1, 1, none⟩ = some (.int .i64 r.id) := (by rw [hcl _ _ (by first | omega | (simp; done) | (simp; omega))]; first | (go_simp; done) | (simp [*]; done) | (simp [go_sem, *]; done)); have c1_36 : w2.cell? ⟨w.heap.size + 1, 36, none⟩ = some (.int .i64 r.off) := (by rw [hcl _ _ (by first | omega | (simp; done) | (simp; omega))]; first | (go_simp; done) | (simp [*]; done) | (simp [go_sem, *]; done)); have z2 : ¬ (w.heap.size + 1 + 1 = w2.heap.size) := (by have h_ := hb2.size; simp at h_; omega); have y2 : w.heap.size + 1 + 1 < w2.heap.size := (by have h_ := hb2.size; simp at h_; omega); have c2_0 : w2.cell? ⟨w.heap.size + 1 + 1, 0, none⟩ = some (.slice none 0 0) := (by rw [hcl _ _ (by first | omega | (simp; done) | (simp; omega))]; first | (go_simp; done) | (simp [*]; done) | (simp [go_sem, *]; done)); have f2_0 : w2.frozen? ⟨w.heap.size + 1 + 1, 0, none⟩ = false := (by rw [hfz _ _ (by first | omega | (simp; done) | (simp; omega))]; first | (go_simp; done) | (simp [*]; done) | (simp [go_sem, *]; done)); have c2_1 : w2.cell? ⟨w.heap.size + 1 + 1, 1, none⟩ = some (.int .i64 0) := (by rw [hcl _ _ (by first | omega | (simp; done) | (simp; omega))]; first | (go_simp; done) | (simp [*]; done) | (simp [go_sem, *]; done)); have f2_1 : w2.frozen? ⟨w.heap.size + 1 + 1, 1, none⟩ = false := (by rw [hfz _ _ (by first | omega | (simp; done) | (simp; omega))]; first | (go_simp; done) | (simp [*]; done) | (simp [go_sem, *]; done)); have r0 : rowAt w2 ⟨w.heap.size + 1, 0, none⟩ 37 = some (rcL r) := (by rw [rowAt_below hb2 (by first | omega | (simp; done) | (simp; omega))]; first | (go_simp; done) | (simp [*]; done) | (simp [go_sem, *]; done)); have HO2 := Aside0.mk (Kd.R_lower (base' := w.heap.size + 1 + 1 + 1) ho (by simp)); have HB2 := Aside0.mk (Below.trans (below_alloc (below_alloc (below_alloc (Below.refl w.heap.size w) _) _) _) (hb2.mono (by simp; omega))); clear hb2 hcl hfz ho) | (go_at_call 80; refine (idx_id A2 c2 l r.id _ _ (Kd.R_reads' (flat_put (flat_put HO2.out (by omega)) (by omega))).2.2 (Nat.le_trans hlen (by decide)) ?hc1).mono ?_; (case hc1 => first | (go_simp; done) | (simp [go_sem, *]; done)); rintro e w3 ⟨rfl, hb3⟩; obtain ⟨hcl, hfz⟩ := bcell hb3; have zi0 : ¬ (w.heap.size = w3.heap.size) := (by have h_ := hb3.size; simp at h_; omega); have yi0 : w.heap.size < w3.heap.size := (by have h_ := hb3.size; simp at h_; omega); have ci0_0 : w3.cell? ⟨w.heap.size, 0, none⟩ = some (.slice A2 l.length c2) := (by rw [hcl _ _ (by first | omega | (simp; done) | (simp; omega))]; first | (go_simp; done) | (simp [*]; done) | (simp [go_sem, *]; done)); have fi0_0 : w3.frozen? ⟨w.heap.size, 0, none⟩ = false := (by rw [hfz _ _ (by first | omega | (simp; done) | (simp; omega))]; first | (go_simp; done) | (simp [*]; done) | (simp [go_sem, *]; done)); have ci0_1 : w3.cell? ⟨w.heap.size, 1, none⟩ = some (.int .i64 nx) := (by rw [hcl _ _ (by first | omega | (simp; done) | (simp; omega))]; first | (go_simp; done) | (simp [*]; done) | (simp [go_sem, *]; done)); have fi0_1 : w3.frozen? ⟨w.heap.size, 1, none⟩ = false := (by rw [hfz _ _ (by first | omega | (simp; done) | (simp; omega))]; first | (go_simp; done) | (simp [*]; done) | (simp [go_sem, *]; done)); have zi1 : ¬ (w.heap.size + 1 = w3.heap.size) := (by have h_ := hb3.size; simp at h_; omega); have yi1 : w.heap.size + 1 < w3.heap.size := (by have h_ := hb3.size; simp at h_; omega); have ci1_0 : w3.cell? ⟨w.heap.size + 1, 0, none⟩ = some (.int .u8 r.kind) := (by rw [hcl _ _ (by first | omega | (simp; done) | (simp; omega))]; first | (go_simp; done) | (simp [*]; done) | (simp [go_sem, *]; done)); have ci1_1 : w3.cell? ⟨w.heap.size + 1, 1, none⟩ = some (.int .i64 r.id) := (by rw [hcl _ _ (by first | omega | (simp; done) | (simp; omega))]; first | (go_simp; done) | (simp [*]; done) | (simp [go_sem, *]; done)); have ci1_36 : w3.cell? ⟨w.heap.size + 1, 36, none⟩ = some (.int .i64 r.off) := (by rw [hcl _ _ (by first | omega | (simp; done) | (simp; omega))]; first | (go_simp; done) | (simp [*]; done) | (simp [go_sem, *]; done)); have zi2 : ¬ (w.heap.size + 1 + 1 = w3.heap.size) := (by have h_ := hb3.size; simp at h_; omega); have yi2 : w.heap.size + 1 + 1 < w3.heap.size := (by have h_ := hb3.size; simp at h_; omega); have ci2_0 : w3.cell? ⟨w.heap.size + 1 + 1, 0, none⟩ = some (.slice none 0 0) := (by rw [hcl _ _ (by first | omega | (simp; done) | (simp; omega))]; first | (go_simp; done) | (simp [*]; done) | (simp [go_sem, *]; done)); have fi2_0 : w3.frozen? ⟨w.heap.size + 1 + 1, 0, none⟩ = false := (by rw [hfz _ _ (by first | omega | (simp; done) | (simp; omega))]; first | (go_simp; done) | (simp [*]; done) | (simp [go_sem, *]; done)); have ci2_1 : w3.cell? ⟨w.heap.size + 1 + 1, 1, none⟩ = some (.int .i64 0) := (by rw [hcl _ _ (by first | omega | (simp; done) | (simp; omega))]; first | (go_simp; done) | (simp [*]; done) | (simp [go_sem, *]; done)); have fi2_1 : w3.frozen? ⟨w.heap.size + 1 + 1, 1, none⟩ = false := (by rw [hfz _ _ (by first | omega | (simp; done) | (simp; omega))]; first | (go_simp; done) | (simp [*]; done) | (simp [go_sem, *]; done)); have ri0 : rowAt w3 ⟨w.heap.size + 1, 0, none⟩ 37 = some (rcL r) := (by rw [rowAt_below hb3 (by first | omega | (simp; done) | (simp; omega))]; first | (go_simp; done) | (simp [*]; done) | (simp [go_sem, *]; done)); have HO3 := Aside0.mk (Kd.R_below (flat_put (flat_put HO2.out (by omega)) (by omega)) hb3); have HB3 := Aside0.mk (Below.trans (below_setCell (below_setCell HB2.out (by omega) _) (by omega) _) (hb3.mono (by simp; omega))); clear hb3 hcl hfz; have HG0 := Aside0.mk HB3.out.size) | (go_at_call 82; refine (begins_calls A2 c2 l nx r (w.heap.size + 1 + 1 + 1) _ HO3.out hlen (by omega) hid hid0).mono ?_; rintro e w4 ⟨v4, he4, ho4, hb4⟩; rw [HQ.out] at he4 ho4; subst he4; obtain ⟨A4, c4, rfl⟩ := Kd.R_slice ho4; have hcl : ∀ b o, b < w.heap.size + 1 + 1 + 1 → w4.cell? ⟨b, o, none⟩ = w3.cell? ⟨b, o, none⟩ := fun b o h => hb4.cell (p := ⟨b, o, none⟩) h; have hfz : ∀ b o, b < w.heap.size + 1 + 1 + 1 → w4.frozen? ⟨b, o, none⟩ = w3.frozen? ⟨b, o, none⟩ := fun b o h => hb4.frozen (p := ⟨b, o, none⟩) h; have cd0_0 : w4.cell? ⟨w.heap.size + 1 + 1, 0, none⟩ = some (.slice none 0 0) := (by rw [hcl _ _ (by first | omega | (simp; done) | (simp; omega))]; first | (go_simp; done) | (simp [*]; done) | (simp [go_sem, *]; done)); have fd0_0 : w4.frozen? ⟨w.heap.size + 1 + 1, 0, none⟩ = false := (by rw [hfz _ _ (by first | omega | (simp; done) | (simp; omega))]; first | (go_simp; done) | (simp [*]; done) | (simp [go_sem, *]; done)); have cd0_1 : w4.cell? ⟨w.heap.size + 1 + 1, 1, none⟩ = some (.int .i64 0) := (by rw [hcl _ _ (by first | omega | (simp; done) | (simp; omega))]; first | (go_simp; done) | (simp [*]; done) | (simp [go_sem, *]; done)); have fd0_1 : w4.frozen? ⟨w.heap.size + 1 + 1, 1, none⟩ = false := (by rw [hfz _ _ (by first | omega | (simp; done) | (simp; omega))]; first | (go_simp; done) | (simp [*]; done) | (simp [go_sem, *]; done)); have HO4 := Aside0.mk ho4; have HB4 := Aside0.mk (HB3.out.trans (hb4.mono (by omega))); clear ho4 hb4 hcl hfz))
  refine bodyPost_ret (v := .tuple #[.agg #[.slice A4 ql.length c4, .int .i64 qn], .bool qb]) (by simp [results, Tryd.results27, go_sem, *]) rfl ⟨_, by rw [HP.out], ?_, ?_⟩
  · rw [HP.out]; exact Kd.R_lower (flat_put (flat_put (HO4.out) (by omega)) (by omega)) (by omega)
  · (repeat' (first | exact HB4.out | (with_reducible refine below_setCell ?_ ?_ _) | (with_reducible refine below_setRow ?_ ?_ _) | (with_reducible refine Below.alloc ?_ ?_ _) | (with_reducible refine below_drew ?_) | (with_reducible refine pw_below_drewN ?_ _) | (with_reducible exact Below.refl _ _) | omega | (simp; done) | (simp; omega)))
theorem Step_calls (A : Option Addr) (c : Nat) (l : List Pt) (nx : Int) (r : Rc) (w : World) (hC : Kd.C kPt w A l.length l) (hc : l.length ≤ c) (hlen : l.length ≤ 64) (hid : r.id ≤ 2199023255552) (hid0 : -9223372036854775808 ≤ r.id) :
    Calls Tryd.prog 27 #[.agg #[.slice A l.length c, .int .i64 nx], .agg (rcL r).toArray] w fun e w' => ∃ v : Value, e = .returned (.tuple #[.agg #[v, .int .i64 (stepP ⟨l, nx⟩ r).1.next], .bool (stepP ⟨l, nx⟩ r).2]) ∧ Kd.R kPt 75 w' w.heap.size (fun _ => True) v (stepP ⟨l, nx⟩ r).1.parts ∧ Below w.heap.size w w' := by
  by_cases h0 : r.kind = 0
  · exact Step_begin A c l nx r w hC hc hlen hid hid0 h0
  by_cases h4 : r.kind = 4
  · by_cases h : r.id < nx
    · exact Step_skip0 A c l nx r w hC hc hlen hid hid0 h4 h
    · exact Step_skip1 A c l nx r w hC hc hlen hid hid0 h4 h
  by_cases h1 : r.kind = 1
  · cases hn : l.findIdx? (fun x => decide (x.id = r.id)) with
    | none => exact Step_mark0 A c l nx r w hC hc hlen hid hid0 h1 hn
    | some i =>
      obtain ⟨hil, _, _⟩ := List.findIdx?_eq_some_iff_getElem.1 hn
      have hx : l[i]? = some l[i] := List.getElem?_eq_getElem hil
      by_cases h2 : r.off < l[i].off
      · exact Step_mark1 A c l nx r w hC hc hlen hid hid0 h1 i _ hn hx h2
      by_cases h3 : l[i].size < r.off
      · exact Step_mark2 A c l nx r w hC hc hlen hid hid0 h1 i _ hn hx h2 h3
      · exact Step_mark3 A c l nx r w hC hc hlen hid hid0 h1 i _ hn hx h2 h3
  by_cases h2 : r.kind = 2 ∨ r.kind = 3
  · cases hn : l.findIdx? (fun x => decide (x.id = r.id)) with
    | none => exact Step_del0 A c l nx r w hC hc hlen hid hid0 h2 hn
    | some i => exact Step_del1 A c l nx r w hC hc hlen hid hid0 i h2 hn
  · exact Step_other A c l nx r w hC hc hlen hid hid0 h0 h1 (fun h => h2 (.inl h)) (fun h => h2 (.inr h)) h4
#print axioms Step_calls
end Go.Proofs.YtiohgpcbdefokaaDoor.B
/- What RecordRises asks, in plain words: what a record that may be makes of a state keeps its order. No condition. -/
namespace Go.Proofs.YtiohgpcbdefokaaDoor.B
end Go.Proofs.YtiohgpcbdefokaaDoor.B
/- What RecordImaged asks, in plain words: the image of a good state plays just that. No condition. -/
namespace Go.Proofs.YtiohgpcbdefokaaDoor.B
/-- What records make of a state, and how many were taken. -/
def playAt (s : St) : List Rc → St × Nat
  | [] => (s, 0)
  | r :: l => if (stepP s r).2 = true then (let q := playAt (stepP s r).1 l; (q.1, q.2 + 1)) else (s, 0)
def playP (l : List Rc) : St × Nat := playAt St.zero l
theorem playAt_one {s : St} {r : Rc} {l : List Rc} (h : (stepP s r).2 = true) : playAt s (r :: l) = ((playAt (stepP s r).1 l).1, (playAt (stepP s r).1 l).2 + 1) := by
  show (if (stepP s r).2 = true then _ else _) = _
  rw [if_pos h]
theorem playAt_nil (s : St) : playAt s [] = (s, 0) := rfl
end Go.Proofs.YtiohgpcbdefokaaDoor.B
/- record.Play: what records make. No condition. -/
namespace Go.Proofs.YtiohgpcbdefokaaDoor.B
open Go.RowKit Go.Proofs.YtiohgpcbdefokaaDoorW.PrintWords Go.Proofs.YtiohgpcbdefokaaDoor.RowLaws
attribute [local go_sem ↓ high] lvO_hs ldO_hs stO_hs lvO_pt ldO_pt stO_pt zero_pt eqA_pt lvO_ptR ldO_ptR stO_ptR zero_ptR eqA_ptR lvO_rc ldO_rc stO_rc zero_rc eqA_rc lvO_rcR ldO_rcR stO_rcR zero_rcR eqA_rcR lvO_tk ldO_tk stO_tk zero_tk eqA_tk lvO_tkR ldO_tkR stO_tkR zero_tkR eqA_tkR lvO_it ldO_it stO_it zero_it eqA_it blO_pt blO_ptR blO_rc blO_rcR blO_tk blO_tkR blO_it bsO_pt bsO_ptR bsO_rc bsO_rcR bsO_it
attribute [local go_sem high] rowAt_setCell rowAt_setRow cell_setRow_ne isRow_setRow_ne rowAt_alloc rowAt_drew isRow_alloc isRow_drew isRow_setCell rowRun_some okL_hs ldV_hs ldA_hs stA_hs setRow_alloc get_pt_id get_pt_path cut_pt_sum get_pt_size get_pt_off cut_pt okL_pt size_pt lenb_pt eta_pt ldV_pt ldA_pt stA_pt ldV_ptR ldA_ptR stA_ptR get_rc_kind get_rc_id get_rc_path cut_rc_sum get_rc_size get_rc_off cut_rc okL_rc size_rc lenb_rc eta_rc ldV_rc ldA_rc stA_rc ldV_rcR ldA_rcR stA_rcR get_tk_path cut_tk_sum get_tk_size get_tk_off cut_tk_old cut_tk okL_tk size_tk lenb_tk eta_tk ldV_tk ldA_tk stA_tk ldV_tkR ldA_tkR stA_tkR get_it_path get_it_dir get_it_size cut_it_sum cut_it okL_it size_it lenb_it eta_it ldV_it ldA_it stA_it bld_pt_01234 bld_pt_0123 bld_pt_z bld_ptR_01234 bld_ptR_0123 bld_ptR_z bld_rc_012345 bld_rc_015 bld_rc_01 bld_rc_z bld_rc_01234 bld_rc_24 bld_rc_05 bld_rc_0 bld_rcR_012345 bld_rcR_015 bld_rcR_01 bld_rcR_z bld_rcR_01234 bld_rcR_24 bld_rcR_05 bld_rcR_0 bld_tk_01234 bld_tk_0 bld_tk_z bld_tkR_01234 bld_tkR_0 bld_tkR_z bld_it_0123 bld_it_023 bld_it_01 bld_it_0 bld_it_z bs0_pt bs1_pt bs0_ptR bs1_ptR bs0_rc bs1_rc bs0_rcR bs1_rcR bs0_it bs1_it
theorem beginP_len (s : St) (r : Rc) (h : s.parts.length ≤ 64) : (beginP s r).1.parts.length ≤ 64 := by
  unfold beginP
  split
  · exact h
  · rename_i hn
    show (s.parts ++ [_]).length ≤ 64
    rw [List.length_append, List.length_singleton]
    have : ¬ 64 ≤ s.parts.length := fun e => hn (.inr (.inr e))
    omega
theorem stepP_len (s : St) (r : Rc) (h : s.parts.length ≤ 64) : (stepP s r).1.parts.length ≤ 64 := by
  unfold stepP
  split
  · exact beginP_len s r h
  split
  · split <;> exact h
  split
  · split
    · exact h
    · split
      · exact h
      · split
        · exact h
        · show (s.parts.set _ _).length ≤ 64
          rw [List.length_set]; exact h
  split
  · split
    · exact h
    · exact Nat.le_trans (List.length_eraseIdx_le _ _) h
  · exact h
/-- IDs that Step can take. -/
def okId (r : Rc) : Prop := r.id ≤ 2199023255552 ∧ -9223372036854775808 ≤ r.id
/-- The boxes of Play, at the loop's head. -/
structure PlayW (w : World) (ps : List Pt) (nx : Int) (wr : World) : Prop where
  b : Below w.heap.size w wr
  z : w.heap.size + 1 + 1 ≤ wr.heap.size
  len : ps.length ≤ 64
  at_ : ∃ A2 c2, wr.cell? ⟨w.heap.size, 0, none⟩ = some (.slice none 0 0) ∧ wr.cell? ⟨w.heap.size, 1, none⟩ = some (.int .i64 0) ∧ wr.cell? ⟨w.heap.size + 1, 0, none⟩ = some (.slice A2 ps.length c2) ∧ wr.cell? ⟨w.heap.size + 1, 1, none⟩ = some (.int .i64 nx) ∧
    wr.frozen? ⟨w.heap.size, 0, none⟩ = false ∧ wr.frozen? ⟨w.heap.size, 1, none⟩ = false ∧ wr.frozen? ⟨w.heap.size + 1, 0, none⟩ = false ∧ wr.frozen? ⟨w.heap.size + 1, 1, none⟩ = false ∧ Kd.R kPt 75 wr (w.heap.size + 1 + 1) (fun _ => True) (.slice A2 ps.length c2) ps
set_option maxHeartbeats 4000000 in
theorem playW_next {w w4 : World} {ql : List Pt} {qn : Int} {A4 : Option Addr} {c4 : Nat} {x y : Value} {o : Obj} (hb : Below w.heap.size w w4) (hz : w.heap.size + 1 + 1 ≤ w4.heap.size) (hl : ql.length ≤ 64)
    (h0 : w4.cell? ⟨w.heap.size, 0, none⟩ = some (.slice none 0 0)) (h1 : w4.cell? ⟨w.heap.size, 1, none⟩ = some (.int .i64 0)) (h2 : w4.cell? ⟨w.heap.size + 1, 0, none⟩ = some x) (h3 : w4.cell? ⟨w.heap.size + 1, 1, none⟩ = some y)
    (f0 : w4.frozen? ⟨w.heap.size, 0, none⟩ = false) (f1 : w4.frozen? ⟨w.heap.size, 1, none⟩ = false) (f2 : w4.frozen? ⟨w.heap.size + 1, 0, none⟩ = false) (f3 : w4.frozen? ⟨w.heap.size + 1, 1, none⟩ = false)
    (hO : Kd.R kPt 75 w4 (w.heap.size + 1 + 1) (fun _ => True) (.slice A4 ql.length c4) ql) :
    PlayW w ql qn (((w4.setCell ⟨w.heap.size + 1, 0, none⟩ (.slice A4 ql.length c4)).setCell ⟨w.heap.size + 1, 1, none⟩ (.int .i64 qn)).alloc o) := by
  have n0 : ¬ (w.heap.size = w4.heap.size) := by omega
  have n1 : ¬ (w.heap.size + 1 = w4.heap.size) := by omega
  have n2 : w.heap.size < w4.heap.size := by omega
  have n3 : w.heap.size + 1 < w4.heap.size := by omega
  refine ⟨below_alloc (below_setCell (below_setCell hb (by omega) _) (by omega) _) _, by simp; omega, hl, A4, c4, ?_, ?_, ?_, ?_, ?_, ?_, ?_, ?_, Kd.R_below (flat_put (flat_put hO (by omega)) (by omega)) (below_alloc (Below.refl _ _) _)⟩ <;> clear hO hb <;> first | (go_simp; done) | (simp [*]; done) | (simp [go_sem, *]; done)
theorem play_step {s t : St} {l : List Rc} {k : Nat} {x : Rc} (hx : l[k]? = some x) (h : stepP s x = (t, true)) : playAt s (l.drop k) = ((playAt t (l.drop (k + 1))).1, (playAt t (l.drop (k + 1))).2 + 1) := by
  obtain ⟨hk, hx⟩ := List.getElem?_eq_some_iff.1 hx
  rw [List.drop_eq_getElem_cons hk, hx, playAt_one (by rw [h]), h]
theorem play_stop {s t : St} {l : List Rc} {k : Nat} {x : Rc} (hx : l[k]? = some x) (h : stepP s x = (t, false)) : playAt s (l.drop k) = (s, 0) := by
  obtain ⟨hk, hx⟩ := List.getElem?_eq_some_iff.1 hx
  rw [List.drop_eq_getElem_cons hk, hx]
  show (if (stepP s x).2 = true then _ else _) = _
  rw [if_neg (by rw [h]; exact Bool.false_ne_true)]
set_option linter.unusedVariables false in
set_option maxHeartbeats 8000000 in
set_option maxRecDepth 100000 in
theorem Play_calls (A : Option Addr) (c : Nat) (l : List Rc) (w : World) (hC : Kd.C kRc w A l.length l) (hlen : l.length ≤ 1000) (hid : ∀ r ∈ l, okId r) :
    Calls Tryd.prog 31 #[.slice A l.length c] w fun e w' => ∃ v : Value, e = .returned (.tuple #[.agg #[v, .int .i64 (playP l).1.next], .int .i64 ((playP l).2 : Nat)]) ∧ Kd.R kPt 75 w' w.heap.size (fun _ => True) v (playP l).1.parts ∧ Below w.heap.size w w' := by
  have HC := Aside0.mk hC
  have HID := Aside0.mk hid
  clear hC hid
  go_enter Tryd.func31, Tryd.ntmps31
  go_wp2
  go_loopw [11] (fun iv wr => ∃ (k : Nat) (ps : List Pt) (nx : Int), k ≤ l.length ∧ iv = .int .i64 k ∧ Aside0 (PlayW w ps nx wr) ∧ Aside0 (playP l = ((playAt ⟨ps, nx⟩ (l.drop k)).1, (playAt ⟨ps, nx⟩ (l.drop k)).2 + k))) (fun iv _ => l.length - (intOf iv).toNat)
  case atStart =>
    refine ⟨0, [], 0, Nat.zero_le _, rfl, ⟨?_⟩, ⟨by rw [List.drop_zero]; rfl⟩⟩
    refine ⟨below_alloc (below_alloc (Below.refl _ _) _) _, by simp, by decide, none, 0, ?_, ?_, ?_, ?_, ?_, ?_, ?_, ?_, Kd.R_nil _ _ _ _ _⟩ <;> first | (go_simp; done) | (simp; done)
  case round =>
    obtain ⟨k, ps, nx, hk, rfl, HW, HP⟩ := hrel
    obtain ⟨A2, c2, m0, m1, m2, m3, m4, m5, m6, m7, hO⟩ := HW.out.at_
    have HB := Aside0.mk HW.out.b
    have hz := HW.out.z
    have HO := Aside0.mk hO
    have HCR := Aside0.mk (Kd.R_reads' hO).2.2
    have HL := Aside0.mk (And.intro HW.out.len (Kd.R_reads' hO).2.1)
    clear hO
    have n2 : w.heap.size < wr.heap.size := by omega
    have n3 : w.heap.size + 1 < wr.heap.size := by omega
    have n0 : ¬ (w.heap.size = wr.heap.size) := by omega
    have n1 : ¬ (w.heap.size + 1 = wr.heap.size) := by omega
    by_cases hlt : k < l.length
    · obtain ⟨b, o, hA, hb, hr⟩ := flat_at HC.out (by decide) (by omega)
      subst hA
      obtain ⟨hrow, _⟩ := hr k hlt
      rw [← rowAt_below HB.out hb] at hrow
      have HX := Aside0.mk (show l[k]? = some l[k] from List.getElem?_eq_getElem hlt)
      have HX1 := Aside0.mk (HID.out l[k] (List.getElem_mem hlt))
      obtain ⟨x, hx⟩ : ∃ x, x = l[k] := ⟨_, rfl⟩
      rw [← hx] at hrow HX HX1
      clear hr hx
      have hlt2 : (k : Int) < (l.length : Int) := by omega
      have HBB := Aside0.mk (show b < wr.heap.size from by have := HB.out.size; omega)
      obtain ⟨q, hq⟩ : ∃ q, stepP ⟨ps, nx⟩ x = q := ⟨_, rfl⟩
      have HLQ := Aside0.mk (stepP_len ⟨ps, nx⟩ x HL.out.1)
      rw [hq] at HLQ
      have HQ := Aside0.mk hq
      clear hq
      obtain ⟨⟨ql, qn⟩, qb⟩ := q
      cases qb with
      | true =>
        go_wp2_with (go_at_call 27; refine (Step_calls A2 c2 ps nx x _ ?hc1 HL.out.2 HL.out.1 HX1.out.1 HX1.out.2).mono ?_; (case hc1 => exact Kd.C_below HCR.out (below_alloc (Below.refl _ _) _)); rintro e w4 ⟨v4, he4, ho4, hb4⟩; rw [HQ.out] at he4 ho4; subst he4; obtain ⟨A4, c4, rfl⟩ := Kd.R_slice ho4; obtain ⟨hcl, hfz⟩ := bcell hb4; have zd0 : ¬ (w.heap.size = w4.heap.size) := (by have h_ := hb4.size; simp at h_; omega); have yd0 : w.heap.size < w4.heap.size := (by have h_ := hb4.size; simp at h_; omega); have cd0_0 : w4.cell? ⟨w.heap.size, 0, none⟩ = some (.slice none 0 0) := (by rw [hcl _ _ (by first | omega | (simp; done) | (simp; omega))]; first | (go_simp; done) | (simp [*]; done) | (simp [go_sem, *]; done)); have fd0_0 : w4.frozen? ⟨w.heap.size, 0, none⟩ = false := (by rw [hfz _ _ (by first | omega | (simp; done) | (simp; omega))]; first | (go_simp; done) | (simp [*]; done) | (simp [go_sem, *]; done)); have cd0_1 : w4.cell? ⟨w.heap.size, 1, none⟩ = some (.int .i64 0) := (by rw [hcl _ _ (by first | omega | (simp; done) | (simp; omega))]; first | (go_simp; done) | (simp [*]; done) | (simp [go_sem, *]; done)); have fd0_1 : w4.frozen? ⟨w.heap.size, 1, none⟩ = false := (by rw [hfz _ _ (by first | omega | (simp; done) | (simp; omega))]; first | (go_simp; done) | (simp [*]; done) | (simp [go_sem, *]; done)); have zd1 : ¬ (w.heap.size + 1 = w4.heap.size) := (by have h_ := hb4.size; simp at h_; omega); have yd1 : w.heap.size + 1 < w4.heap.size := (by have h_ := hb4.size; simp at h_; omega); have cd1_0 : w4.cell? ⟨w.heap.size + 1, 0, none⟩ = some (.slice A2 ps.length c2) := (by rw [hcl _ _ (by first | omega | (simp; done) | (simp; omega))]; first | (go_simp; done) | (simp [*]; done) | (simp [go_sem, *]; done)); have fd1_0 : w4.frozen? ⟨w.heap.size + 1, 0, none⟩ = false := (by rw [hfz _ _ (by first | omega | (simp; done) | (simp; omega))]; first | (go_simp; done) | (simp [*]; done) | (simp [go_sem, *]; done)); have cd1_1 : w4.cell? ⟨w.heap.size + 1, 1, none⟩ = some (.int .i64 nx) := (by rw [hcl _ _ (by first | omega | (simp; done) | (simp; omega))]; first | (go_simp; done) | (simp [*]; done) | (simp [go_sem, *]; done)); have fd1_1 : w4.frozen? ⟨w.heap.size + 1, 1, none⟩ = false := (by rw [hfz _ _ (by first | omega | (simp; done) | (simp; omega))]; first | (go_simp; done) | (simp [*]; done) | (simp [go_sem, *]; done)); have HO4 := Aside0.mk (Kd.R_lower (base' := w.heap.size + 1 + 1) ho4 (by simp; omega)); have HB4 := Aside0.mk (Below.trans (below_alloc HB.out _) (hb4.mono (by simp; omega))); have HS4 := Aside0.mk (show wr.heap.size + 1 ≤ w4.heap.size from by have h_ := hb4.size; simpa using h_); have HBS := Aside0.mk hb4; clear ho4 hb4 hcl hfz)
        go_roundw
        case rel =>
          refine ⟨k + 1, ql, qn, by omega, by simp, ⟨?_⟩, ⟨by rw [HP.out, play_step HX.out HQ.out]; simp only; congr 1; omega⟩⟩
          exact playW_next HB4.out (by have := HS4.out; omega) HLQ.out cd0_0 cd0_1 cd1_0 cd1_1 fd0_0 fd0_1 fd1_0 fd1_1 HO4.out
        case measure => simp [intOf]; omega
      | false =>
        go_wp2_with (go_at_call 27; refine (Step_calls A2 c2 ps nx x _ ?hc1 HL.out.2 HL.out.1 HX1.out.1 HX1.out.2).mono ?_; (case hc1 => exact Kd.C_below HCR.out (below_alloc (Below.refl _ _) _)); rintro e w4 ⟨v4, he4, ho4, hb4⟩; rw [HQ.out] at he4 ho4; subst he4; obtain ⟨A4, c4, rfl⟩ := Kd.R_slice ho4; obtain ⟨hcl, hfz⟩ := bcell hb4; have zd0 : ¬ (w.heap.size = w4.heap.size) := (by have h_ := hb4.size; simp at h_; omega); have yd0 : w.heap.size < w4.heap.size := (by have h_ := hb4.size; simp at h_; omega); have cd0_0 : w4.cell? ⟨w.heap.size, 0, none⟩ = some (.slice none 0 0) := (by rw [hcl _ _ (by first | omega | (simp; done) | (simp; omega))]; first | (go_simp; done) | (simp [*]; done) | (simp [go_sem, *]; done)); have fd0_0 : w4.frozen? ⟨w.heap.size, 0, none⟩ = false := (by rw [hfz _ _ (by first | omega | (simp; done) | (simp; omega))]; first | (go_simp; done) | (simp [*]; done) | (simp [go_sem, *]; done)); have cd0_1 : w4.cell? ⟨w.heap.size, 1, none⟩ = some (.int .i64 0) := (by rw [hcl _ _ (by first | omega | (simp; done) | (simp; omega))]; first | (go_simp; done) | (simp [*]; done) | (simp [go_sem, *]; done)); have fd0_1 : w4.frozen? ⟨w.heap.size, 1, none⟩ = false := (by rw [hfz _ _ (by first | omega | (simp; done) | (simp; omega))]; first | (go_simp; done) | (simp [*]; done) | (simp [go_sem, *]; done)); have zd1 : ¬ (w.heap.size + 1 = w4.heap.size) := (by have h_ := hb4.size; simp at h_; omega); have yd1 : w.heap.size + 1 < w4.heap.size := (by have h_ := hb4.size; simp at h_; omega); have cd1_0 : w4.cell? ⟨w.heap.size + 1, 0, none⟩ = some (.slice A2 ps.length c2) := (by rw [hcl _ _ (by first | omega | (simp; done) | (simp; omega))]; first | (go_simp; done) | (simp [*]; done) | (simp [go_sem, *]; done)); have fd1_0 : w4.frozen? ⟨w.heap.size + 1, 0, none⟩ = false := (by rw [hfz _ _ (by first | omega | (simp; done) | (simp; omega))]; first | (go_simp; done) | (simp [*]; done) | (simp [go_sem, *]; done)); have cd1_1 : w4.cell? ⟨w.heap.size + 1, 1, none⟩ = some (.int .i64 nx) := (by rw [hcl _ _ (by first | omega | (simp; done) | (simp; omega))]; first | (go_simp; done) | (simp [*]; done) | (simp [go_sem, *]; done)); have fd1_1 : w4.frozen? ⟨w.heap.size + 1, 1, none⟩ = false := (by rw [hfz _ _ (by first | omega | (simp; done) | (simp; omega))]; first | (go_simp; done) | (simp [*]; done) | (simp [go_sem, *]; done)); have HO4 := Aside0.mk (Kd.R_lower (base' := w.heap.size + 1 + 1) ho4 (by simp; omega)); have HB4 := Aside0.mk (Below.trans (below_alloc HB.out _) (hb4.mono (by simp; omega))); have HS4 := Aside0.mk (show wr.heap.size + 1 ≤ w4.heap.size from by have h_ := hb4.size; simpa using h_); have HBS := Aside0.mk hb4; clear ho4 hb4 hcl hfz)
        refine bodyPost_ret (v := .tuple #[.agg #[.slice A2 ps.length c2, .int .i64 nx], .int .i64 k]) (by simp [results, Tryd.results31, go_sem, *]) rfl ⟨.slice A2 ps.length c2, ?_, ?_, ?_⟩
        · rw [HP.out, play_stop HX.out HQ.out]; simp
        · rw [HP.out, play_stop HX.out HQ.out]
          exact Kd.R_lower (Kd.R_below (flat_put (flat_put (Kd.R_below (Kd.R_below HO.out (below_alloc (Below.refl _ _) _)) HBS.out) (by omega)) (by omega)) (below_alloc (Below.refl _ _) _)) (by omega)
        · have hs4 := HS4.out; (repeat' (first | exact HB4.out | (with_reducible refine below_setCell ?_ ?_ _) | (with_reducible refine below_setRow ?_ ?_ _) | (with_reducible refine Below.alloc ?_ ?_ _) | (with_reducible refine below_drew ?_) | (with_reducible refine pw_below_drewN ?_ _) | (with_reducible exact Below.refl _ _) | omega | (simp; done) | (simp; omega)))
    · have hk2 : k = l.length := by omega
      subst hk2
      go_wp2
      refine bodyPost_ret (v := .tuple #[.agg #[.slice A2 ps.length c2, .int .i64 nx], .int .i64 l.length]) (by simp [results, Tryd.results31, go_sem, *]) rfl ⟨.slice A2 ps.length c2, ?_, ?_, ?_⟩
      · rw [HP.out, List.drop_length, playAt_nil]; simp
      · rw [HP.out, List.drop_length, playAt_nil]
        exact Kd.R_lower (flat_put (flat_put HO.out (by omega)) (by omega)) (by omega)
      · exact below_setCell (below_setCell HB.out (by omega) _) (by omega) _
end Go.Proofs.YtiohgpcbdefokaaDoor.B
/- sumpterlaw15.awake. No condition. -/
namespace Go.Proofs.YtiohgpcbdefokaaDoor.B
open Go.RowKit Go.Proofs.YtiohgpcbdefokaaDoorW.PrintWords Go.Proofs.YtiohgpcbdefokaaDoor.RowLaws
attribute [local go_sem ↓ high] lvO_hs ldO_hs stO_hs lvO_pt ldO_pt stO_pt zero_pt eqA_pt lvO_ptR ldO_ptR stO_ptR zero_ptR eqA_ptR lvO_rc ldO_rc stO_rc zero_rc eqA_rc lvO_rcR ldO_rcR stO_rcR zero_rcR eqA_rcR lvO_tk ldO_tk stO_tk zero_tk eqA_tk lvO_tkR ldO_tkR stO_tkR zero_tkR eqA_tkR lvO_it ldO_it stO_it zero_it eqA_it blO_pt blO_ptR blO_rc blO_rcR blO_tk blO_tkR blO_it bsO_pt bsO_ptR bsO_rc bsO_rcR bsO_it
attribute [local go_sem high] rowAt_setCell rowAt_setRow cell_setRow_ne isRow_setRow_ne rowAt_alloc rowAt_drew isRow_alloc isRow_drew isRow_setCell rowRun_some okL_hs ldV_hs ldA_hs stA_hs setRow_alloc get_pt_id get_pt_path cut_pt_sum get_pt_size get_pt_off cut_pt okL_pt size_pt lenb_pt eta_pt ldV_pt ldA_pt stA_pt ldV_ptR ldA_ptR stA_ptR get_rc_kind get_rc_id get_rc_path cut_rc_sum get_rc_size get_rc_off cut_rc okL_rc size_rc lenb_rc eta_rc ldV_rc ldA_rc stA_rc ldV_rcR ldA_rcR stA_rcR get_tk_path cut_tk_sum get_tk_size get_tk_off cut_tk_old cut_tk okL_tk size_tk lenb_tk eta_tk ldV_tk ldA_tk stA_tk ldV_tkR ldA_tkR stA_tkR get_it_path get_it_dir get_it_size cut_it_sum cut_it okL_it size_it lenb_it eta_it ldV_it ldA_it stA_it bld_pt_01234 bld_pt_0123 bld_pt_z bld_ptR_01234 bld_ptR_0123 bld_ptR_z bld_rc_012345 bld_rc_015 bld_rc_01 bld_rc_z bld_rc_01234 bld_rc_24 bld_rc_05 bld_rc_0 bld_rcR_012345 bld_rcR_015 bld_rcR_01 bld_rcR_z bld_rcR_01234 bld_rcR_24 bld_rcR_05 bld_rcR_0 bld_tk_01234 bld_tk_0 bld_tk_z bld_tkR_01234 bld_tkR_0 bld_tkR_z bld_it_0123 bld_it_023 bld_it_01 bld_it_0 bld_it_z bs0_pt bs1_pt bs0_ptR bs1_ptR bs0_rc bs1_rc bs0_rcR bs1_rcR bs0_it bs1_it
def rA : Rc := ⟨1, 5, ByteArray.empty, Hs.zero, 0, 9⟩
def sA : List Int := (crc_Seal.f 40 (([1] ++ [5]) ++ [9])).getD []
def tA : List Int := (field_Text.f 40 (strOfNums sA)).getD []
theorem sA_eq : crc_Seal.f 40 (([1] ++ [5]) ++ [9]) = some sA := by decide +kernel
theorem tA_eq : field_Text.f 40 (strOfNums sA) = some tA := by decide +kernel
theorem chkA : chkE rA = 0 := by
  unfold chkE
  rw [if_neg (by decide), if_neg (by decide), if_pos (show rA = bareRc rA from rfl)]
  decide
theorem eightA : Eight 40 tA rA where
  len := by decide +kernel
  num := by decide +kernel
  open_ := by decide +kernel
  one := by decide +kernel
  two := by decide +kernel
  lo := by decide
  lo2 := by decide
  is := rfl
  chk := chkA
theorem takeA : tA.take 4 = [7, 1, 5, 9] := by decide +kernel
def r1A : Rc := ⟨0, 0, ⟨#[97]⟩, Hs.zero, 9, 0⟩
def r2A : Rc := ⟨1, 0, ByteArray.empty, Hs.zero, 0, 3⟩
def r3A : Rc := ⟨2, 0, ByteArray.empty, Hs.zero, 0, 0⟩
theorem playA : playP [r1A, r2A, r3A] = (⟨[], 1⟩, 3) := by decide +kernel
theorem numA5 : field_Num.f 40 5 = some [5] := by decide +kernel
theorem numA9 : field_Num.f 40 9 = some [9] := by decide +kernel
theorem bs3_rc (w : World) : (bslRow 57 3 #[(0, .agg (rcL ⟨0, 0, ⟨#[97]⟩, Hs.zero, 9, 0⟩).toArray), (1, .agg (rcL ⟨1, 0, ByteArray.empty, Hs.zero, 0, 3⟩).toArray), (2, .agg (rcL ⟨2, 0, ByteArray.empty, Hs.zero, 0, 0⟩).toArray)]).run Tryd.prog w = .ok (.slice (some ⟨w.heap.size, 0, none⟩) 3 3) (w.alloc (.cells (rcL r1A ++ (rcL r2A ++ rcL r3A)).toArray 51)) := by kernel_rfl
theorem C3 (w : World) (a b c : Rc) (t : TypeId) : Kd.C kRc (w.alloc (.cells (rcL a ++ (rcL b ++ rcL c)).toArray t)) (some ⟨w.heap.size, 0, none⟩) 3 [a, b, c] := by
  refine ⟨rfl, by decide, fun _ => ⟨_, rfl, fun j p hp => ⟨rcL p, rcL_len p, rfl, fun i u hu => ?_⟩⟩⟩
  have hi : i < 37 := by have := (List.getElem?_eq_some_iff.1 hu).1; rwa [rcL_len] at this
  have hz : kRc.sz = 37 := rfl
  rw [hz, Addr.add_mid, cell_of_row _ _ _ _ _ _ (heap_alloc_new _ _)]
  rw [List.getElem?_toArray, Nat.zero_add]
  match j, hp with
  | 0, hp =>
    obtain rfl : a = p := by simpa using hp
    rw [List.getElem?_append_left (by rw [rcL_len]; omega)]
    simpa using hu
  | 1, hp =>
    obtain rfl : b = p := by simpa using hp
    rw [List.getElem?_append_right (by rw [rcL_len]; omega), List.getElem?_append_left (by rw [rcL_len, rcL_len]; omega), rcL_len]
    rw [show 1 * 37 + i - 37 = i by omega]; exact hu
  | 2, hp =>
    obtain rfl : c = p := by simpa using hp
    rw [List.getElem?_append_right (by rw [rcL_len]; omega), List.getElem?_append_right (by rw [rcL_len, rcL_len]; omega), rcL_len, rcL_len]
    rw [show 2 * 37 + i - 37 - 37 = i by omega]; exact hu
attribute [local go_sem high] bs3_rc
set_option linter.unusedVariables false in
set_option maxHeartbeats 8000000 in
set_option maxRecDepth 100000 in
theorem awake_calls (w : World) (hT : TabOK w) : Calls Tryd.prog 22 #[] w fun e w' => e = .returned (.bool true) ∧ Below w.heap.size w w' := by
  have HT := Aside0.mk hT
  have HT8 := Aside0.mk eightA.len
  clear hT
  go_enter Tryd.func22, Tryd.ntmps22
  go_wp2_with (first
    | (go_at_call 23; refine (PutMark_calls 40 rA [5] [9] sA tA _ HT.out rfl chkA numA5 numA9 (by decide) sA_eq tA_eq).mono ?_; rintro e w2 ⟨v2, rfl, ho2, hb2⟩; obtain ⟨A2, c2, rfl⟩ := Kd.R_slice ho2; have HR2 := Aside0.mk (Kd.R_reads' ho2); rw [HT8.out]; rw [HT8.out] at HR2; have HB2 := Aside0.mk hb2; clear ho2 hb2)
    | (go_at_call 35; refine (Scan_calls 40 A2 c2 tA rA _ (HT.out.below HB2.out) HR2.out.2.2 HR2.out.2.1 eightA).mono ?_; rintro e w3 ⟨v3, rfl, ho3, hb3⟩; obtain ⟨A3, c3, rfl⟩ := Kd.R_slice ho3; have HR3 := Aside0.mk (Kd.R_reads' ho3).2.2; have HC3 := Aside0.mk (Kd.C_below HR2.out.2.2 hb3); have HB3 := Aside0.mk (below_step HB2.out hb3); clear ho3 hb3)
    | (go_at_call 31; have hq := Play_calls (some ⟨w3.heap.size, 0, none⟩) 3 [r1A, r2A, r3A] (w3.alloc (.cells (rcL r1A ++ (rcL r2A ++ rcL r3A)).toArray 51)) (C3 w3 r1A r2A r3A _) (by decide) (by intro r hr; simp only [List.mem_cons, List.not_mem_nil, or_false] at hr; rcases hr with rfl | rfl | rfl <;> exact ⟨by decide, by decide⟩); rw [playA] at hq; refine Calls.mono (show Calls _ _ #[.slice (some ⟨w3.heap.size, 0, none⟩) 3 3] _ _ from hq) ?_; clear hq; rintro e w4 ⟨v4, rfl, ho4, hb4⟩; obtain ⟨A4, c4, rfl⟩ := Kd.R_slice ho4; have HB4 := Aside0.mk (below_step (below_alloc HB3.out _) hb4); have HC4 := Aside0.mk (Kd.C_below (Kd.C_below HC3.out (below_alloc (Below.refl _ _) _)) hb4); have hr4 := Kd.C_below (Kd.C_below HR3.out (below_alloc (Below.refl _ _) _)) hb4;
        obtain ⟨b, o, rfl, hb, hcl⟩ := flat_at hr4 (by decide) (by decide);
        have q36 := (hcl 0 (by decide)).2 36 _ (get_rc_off rA);
        rw [Nat.zero_mul, Nat.add_zero] at q36;
        have q36' : w4.cell? ⟨b, o + 36, none⟩ = some (.int .i64 9) := q36;
        have hbn : ¬ (b = w4.heap.size) := (by omega);
        have ht := print_take_of (P := Tryd.prog) (Value.int .u8) 0 22 5 .i64 Tryd.underlying22 (info_parts info5).choose_spec.1 (info_parts info5).choose_spec.2.2.1 A2 c2 tA 4 (by decide) (by rw [HT8.out]; decide) (by have := HR2.out.2.1; rw [HT8.out]; exact this);
        rw [show ((4 : Int)).toNat = 4 from rfl, takeA, HT8.out] at ht;
        have hcut := ht.1 (w4.alloc (.cells #[.slice A4 0 c4, .int .i64 1] 60));
        have hcv := Kd.C_string (P := Tryd.prog) (src := 22) (dst := 9) (c := c2) Tryd.underlying22 Tryd.underlying5 Tryd.underlying9 (Kd.C_below (Kd.C_of_reads (h1 := fun _ => rfl) (ht.2.1 w4 (Kd.reads_of_C HC4.out))) (below_alloc (Below.refl _ _) (.cells #[.slice A4 0 c4, .int .i64 1] 60)));
        rw [show strOfNums [7, 1, 5, 9] = ⟨#[7, 1, 5, 9]⟩ from rfl, show ([7, 1, 5, 9] : List Int).length = 4 from rfl] at hcv;
        rw [show ([7, 1, 5, 9] : List Int).length = 4 from rfl] at hcut;
        clear ho4 hb4 hr4 hcl ht q36))
  go_ret
  exact ⟨rfl, below_alloc HB4.out _⟩
end Go.Proofs.YtiohgpcbdefokaaDoor.B
/- A record of the one side is a record of the other. No condition. -/
namespace Go.Proofs.YtiohgpcbdefokaaDoor.B
open Go.RowKit Go.Proofs.YtiohgpcbdefokaaDoorW.PrintWords
attribute [local go_sem ↓ high] lvO_hs ldO_hs stO_hs lvO_pt ldO_pt stO_pt zero_pt eqA_pt lvO_ptR ldO_ptR stO_ptR zero_ptR eqA_ptR lvO_rc ldO_rc stO_rc zero_rc eqA_rc lvO_rcR ldO_rcR stO_rcR zero_rcR eqA_rcR lvO_tk ldO_tk stO_tk zero_tk eqA_tk lvO_tkR ldO_tkR stO_tkR zero_tkR eqA_tkR lvO_it ldO_it stO_it zero_it eqA_it blO_pt blO_ptR blO_rc blO_rcR blO_tk blO_tkR blO_it bsO_pt bsO_ptR bsO_rc bsO_rcR bsO_it
attribute [local go_sem high] rowAt_setCell rowAt_setRow cell_setRow_ne isRow_setRow_ne rowAt_alloc rowAt_drew isRow_alloc isRow_drew isRow_setCell rowRun_some okL_hs ldV_hs ldA_hs stA_hs setRow_alloc get_pt_id get_pt_path cut_pt_sum get_pt_size get_pt_off cut_pt okL_pt size_pt lenb_pt eta_pt ldV_pt ldA_pt stA_pt ldV_ptR ldA_ptR stA_ptR get_rc_kind get_rc_id get_rc_path cut_rc_sum get_rc_size get_rc_off cut_rc okL_rc size_rc lenb_rc eta_rc ldV_rc ldA_rc stA_rc ldV_rcR ldA_rcR stA_rcR get_tk_path cut_tk_sum get_tk_size get_tk_off cut_tk_old cut_tk okL_tk size_tk lenb_tk eta_tk ldV_tk ldA_tk stA_tk ldV_tkR ldA_tkR stA_tkR get_it_path get_it_dir get_it_size cut_it_sum cut_it okL_it size_it lenb_it eta_it ldV_it ldA_it stA_it bld_pt_01234 bld_pt_0123 bld_pt_z bld_ptR_01234 bld_ptR_0123 bld_ptR_z bld_rc_012345 bld_rc_015 bld_rc_01 bld_rc_z bld_rc_01234 bld_rc_24 bld_rc_05 bld_rc_0 bld_rcR_012345 bld_rcR_015 bld_rcR_01 bld_rcR_z bld_rcR_01234 bld_rcR_24 bld_rcR_05 bld_rcR_0 bld_tk_01234 bld_tk_0 bld_tk_z bld_tkR_01234 bld_tkR_0 bld_tkR_z bld_it_0123 bld_it_023 bld_it_01 bld_it_0 bld_it_z bs0_pt bs1_pt bs0_ptR bs1_ptR bs0_rc bs1_rc bs0_rcR bs1_rcR bs0_it bs1_it
set_option maxRecDepth 100000 in
set_option maxHeartbeats 4000000 in
theorem own_calls (r : Rc) (w : World) :
    Calls Tryd.prog 24 #[.agg (rcL r).toArray] w fun e w' => e = .returned (.agg (rcL r).toArray) ∧ Below w.heap.size w w' := by
  go_enter Tryd.func24, Tryd.ntmps24
  go_wp2
  exact bodyPost_ret (v := .agg (rcL r).toArray) (res1 rfl rfl (lv_rc (by simp [rowAt_alloc, cut_rc]))) rfl ⟨rfl, below_alloc (below_alloc (Below.refl _ _) _) _⟩
end Go.Proofs.YtiohgpcbdefokaaDoor.B
/- RecordPuts: its walk. No condition. -/
namespace Go.Proofs.YtiohgpcbdefokaaDoor.B
open Go.RowKit Go.Proofs.YtiohgpcbdefokaaDoorW.PrintWords Go.Proofs.YtiohgpcbdefokaaDoor.RowLaws
attribute [local go_sem ↓ high] lvO_hs ldO_hs stO_hs lvO_pt ldO_pt stO_pt zero_pt eqA_pt lvO_ptR ldO_ptR stO_ptR zero_ptR eqA_ptR lvO_rc ldO_rc stO_rc zero_rc eqA_rc lvO_rcR ldO_rcR stO_rcR zero_rcR eqA_rcR lvO_tk ldO_tk stO_tk zero_tk eqA_tk lvO_tkR ldO_tkR stO_tkR zero_tkR eqA_tkR lvO_it ldO_it stO_it zero_it eqA_it blO_pt blO_ptR blO_rc blO_rcR blO_tk blO_tkR blO_it bsO_pt bsO_ptR bsO_rc bsO_rcR bsO_it
attribute [local go_sem high] rowAt_setCell rowAt_setRow cell_setRow_ne isRow_setRow_ne rowAt_alloc rowAt_drew isRow_alloc isRow_drew isRow_setCell rowRun_some okL_hs ldV_hs ldA_hs stA_hs setRow_alloc get_pt_id get_pt_path cut_pt_sum get_pt_size get_pt_off cut_pt okL_pt size_pt lenb_pt eta_pt ldV_pt ldA_pt stA_pt ldV_ptR ldA_ptR stA_ptR get_rc_kind get_rc_id get_rc_path cut_rc_sum get_rc_size get_rc_off cut_rc okL_rc size_rc lenb_rc eta_rc ldV_rc ldA_rc stA_rc ldV_rcR ldA_rcR stA_rcR get_tk_path cut_tk_sum get_tk_size get_tk_off cut_tk_old cut_tk okL_tk size_tk lenb_tk eta_tk ldV_tk ldA_tk stA_tk ldV_tkR ldA_tkR stA_tkR get_it_path get_it_dir get_it_size cut_it_sum cut_it okL_it size_it lenb_it eta_it ldV_it ldA_it stA_it bld_pt_01234 bld_pt_0123 bld_pt_z bld_ptR_01234 bld_ptR_0123 bld_ptR_z bld_rc_012345 bld_rc_015 bld_rc_01 bld_rc_z bld_rc_01234 bld_rc_24 bld_rc_05 bld_rc_0 bld_rcR_012345 bld_rcR_015 bld_rcR_01 bld_rcR_z bld_rcR_01234 bld_rcR_24 bld_rcR_05 bld_rcR_0 bld_tk_01234 bld_tk_0 bld_tk_z bld_tkR_01234 bld_tkR_0 bld_tkR_z bld_it_0123 bld_it_023 bld_it_01 bld_it_0 bld_it_z bs0_pt bs1_pt bs0_ptR bs1_ptR bs0_rc bs1_rc bs0_rcR bs1_rcR bs0_it bs1_it
set_option linter.unusedVariables false in
set_option maxHeartbeats 8000000 in
set_option maxRecDepth 100000 in
theorem Puts_walk (r : Rc) (w : World) (hT : TabOK w) :
    Calls Tryd.prog 7 #[.agg (rcL r).toArray] w fun e w' => e = .returned (.bool true) ∧ Below w.heap.size w w' := by
  have HT := Aside0.mk hT
  clear hT
  by_cases hp : (300 : Int) < (r.path.size : Int)
  · have hd2 : decide ((300 : Int) < (r.path.size : Int)) = true := decide_eq_true hp
    clear hp
    go_enter Tryd.func7, Tryd.ntmps7
    go_wp2_with (go_at_call 22; refine (awake_calls _ (HT.out.below (below_alloc (Below.refl _ _) _))).mono ?_; rintro e w2 ⟨rfl, hb2⟩; have HB2 := Aside0.mk (Below.trans (below_alloc (Below.refl w.heap.size w) _) (hb2.mono (by simp))); clear hb2)
    go_ret
    exact ⟨rfl, HB2.out⟩
  have hd2 : decide ((300 : Int) < (r.path.size : Int)) = false := decide_eq_false hp
  obtain ⟨E, hE⟩ : ∃ E, chkE r = E := ⟨_, rfl⟩
  obtain ⟨V, hV⟩ : ∃ V, putV r = V := ⟨_, rfl⟩
  have hP : ∀ w, TabOK w → _ := fun w hT => Put_calls r w hT
  have hR : ∀ w, _ := fun w => RPut_calls r w
  have hK : ∀ w, TabOK w → _ := fun w hT => Check_calls r w hT
  simp only [hE, hV] at hP hR hK
  have HP := Aside0.mk hP
  have HR := Aside0.mk hR
  have HK := Aside0.mk hK
  clear hp hP hR hK hE hV
  go_enter Tryd.func7, Tryd.ntmps7
  go_wp2_with (first
    | (go_at_call 24; refine (own_calls r _).mono ?_; rintro e w4 ⟨rfl, hb4⟩; have HB4 := Aside0.mk (Below.trans HB3.out (hb4.mono (by have h_ := HB3.out.size; have := HS2.out; omega))); clear hb4)
    | (go_at_call 24; refine (own_calls r _).mono ?_; rintro e w1 ⟨rfl, hb1⟩; have hr1 : rowAt w1 ⟨w.heap.size, 0, none⟩ 37 = some (rcL r) := (by rw [rowAt_below hb1 (by simp)]; first | (go_simp; done) | (simp [*]; done)); have HB1 := Aside0.mk (Below.trans (below_alloc (Below.refl w.heap.size w) _) (hb1.mono (by simp))); have HS2 := Aside0.mk (show w.heap.size + 1 ≤ w1.heap.size from by have h_ := hb1.size; simpa using h_); clear hb1)
    | (go_at_call 23; refine (HP.out _ (HT.out.below HB1.out)).mono ?_; rintro e w2 ⟨v2, rfl, ho2, hb2⟩; obtain ⟨A2, n2, rfl⟩ := Kd.R_slice ho2; have hr2 : rowAt w2 ⟨w.heap.size, 0, none⟩ 37 = some (rcL r) := (by rw [rowAt_below hb2 (by have := HS2.out; show w.heap.size < _; omega)]; exact hr1); have HC2 := Aside0.mk (Kd.R_reads' ho2).2.2; have HB2 := Aside0.mk (Below.trans HB1.out (hb2.mono (by have := HS2.out; omega))); have hs2 := hb2.size; clear ho2 hb2)
    | (go_at_call 25; refine (HR.out _).mono ?_; rintro e w3 ⟨v3, rfl, ho3, hb3⟩; obtain ⟨A3, n3, rfl⟩ := Kd.R_slice ho3; have hr3 : rowAt w3 ⟨w.heap.size, 0, none⟩ 37 = some (rcL r) := (by rw [rowAt_below hb3 (by have := HS2.out; show w.heap.size < _; omega)]; exact hr2); have hcv3 := Kd.C_string (P := Tryd.prog) (src := 22) (dst := 9) (c := n3) Tryd.underlying22 Tryd.underlying5 Tryd.underlying9 (Kd.R_reads' ho3).2.2; have hcv2 := Kd.C_string (P := Tryd.prog) (src := 22) (dst := 9) (c := n2) Tryd.underlying22 Tryd.underlying5 Tryd.underlying9 (Kd.C_below HC2.out hb3); have HB3 := Aside0.mk (Below.trans HB2.out (hb3.mono (by have := HS2.out; omega))); clear ho3 hb3)
    | (go_at_call 26; refine (HK.out _ (HT.out.below HB4.out)).mono ?_; rintro e w5 ⟨rfl, hb5⟩; have HB5 := Aside0.mk (Below.trans HB4.out (hb5.mono (by have h_ := HB4.out.size; omega))); clear hb5)
    | (go_at_call 22; refine (awake_calls _ (HT.out.below HB5.out)).mono ?_; rintro e w6 ⟨rfl, hb6⟩; have HB6 := Aside0.mk (Below.trans HB5.out (hb6.mono (by have h_ := HB5.out.size; omega))); clear hb6))
  go_ret
  exact ⟨rfl, HB6.out⟩
end Go.Proofs.YtiohgpcbdefokaaDoor.B
