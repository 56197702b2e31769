/- Contracts and plain laws for the statement RecordBack, part c: several texts of this session behind one another. No condition. -/
import Derived.Test.YtiohgpcbdefokaaDoorMRecordBackb
import Derived.Deep.DeepCutAuto
import Derived.Deep.QuietTactic
import Derived.BigQuiet
import Derived.Lib.Hide
import Derived.StillTailTactics
import Derived.WalkSpells
/- record.read of a Begin's body. No condition. -/
namespace Go.Proofs.YtiohgpcbdefokaaDoor.B
open Go.RowKit Go.Proofs.YtiohgpcbdefokaaDoorW.PrintWords Go.Proofs.YtiohgpcbdefokaaDoor.RowLaws
attribute [local go_sem ↓ high] lvO_hs ldO_hs stO_hs lvO_pt ldO_pt stO_pt zero_pt eqA_pt lvO_ptR ldO_ptR stO_ptR zero_ptR eqA_ptR lvO_rc ldO_rc stO_rc zero_rc eqA_rc lvO_rcR ldO_rcR stO_rcR zero_rcR eqA_rcR lvO_tk ldO_tk stO_tk zero_tk eqA_tk lvO_tkR ldO_tkR stO_tkR zero_tkR eqA_tkR lvO_it ldO_it stO_it zero_it eqA_it blO_pt blO_ptR blO_rc blO_rcR blO_tk blO_tkR blO_it bsO_pt bsO_ptR bsO_rc bsO_rcR bsO_it
attribute [local go_sem high] rowAt_setCell rowAt_setRow cell_setRow_ne isRow_setRow_ne rowAt_alloc rowAt_drew isRow_alloc isRow_drew isRow_setCell rowRun_some okL_hs ldV_hs ldA_hs stA_hs setRow_alloc get_pt_id get_pt_path cut_pt_sum get_pt_size get_pt_off cut_pt okL_pt size_pt lenb_pt eta_pt ldV_pt ldA_pt stA_pt ldV_ptR ldA_ptR stA_ptR get_rc_kind get_rc_id get_rc_path cut_rc_sum get_rc_size get_rc_off cut_rc okL_rc size_rc lenb_rc eta_rc ldV_rc ldA_rc stA_rc ldV_rcR ldA_rcR stA_rcR get_tk_path cut_tk_sum get_tk_size get_tk_off cut_tk_old cut_tk okL_tk size_tk lenb_tk eta_tk ldV_tk ldA_tk stA_tk ldV_tkR ldA_tkR stA_tkR get_it_path get_it_dir get_it_size cut_it_sum cut_it okL_it size_it lenb_it eta_it ldV_it ldA_it stA_it bld_pt_01234 bld_pt_0123 bld_pt_z bld_ptR_01234 bld_ptR_0123 bld_ptR_z bld_rc_012345 bld_rc_015 bld_rc_01 bld_rc_z bld_rc_01234 bld_rc_24 bld_rc_05 bld_rc_0 bld_rcR_012345 bld_rcR_015 bld_rcR_01 bld_rcR_z bld_rcR_01234 bld_rcR_24 bld_rcR_05 bld_rcR_0 bld_tk_01234 bld_tk_0 bld_tk_z bld_tkR_01234 bld_tkR_0 bld_tkR_z bld_it_0123 bld_it_023 bld_it_01 bld_it_0 bld_it_z bs0_pt bs1_pt bs0_ptR bs1_ptR bs0_rc bs1_rc bs0_rcR bs1_rcR bs0_it bs1_it
set_option linter.unusedVariables false in
set_option maxHeartbeats 8000000 in
set_option maxRecDepth 100000 in
theorem ReadBegin_calls (k : Nat) (A : Option Addr) (c : Nat) (l1 l2 l3 l4 : List Int) (id u1 ps u2 size u3 : Int) (path : ByteArray) (sum : Hs) (w : World) (hT : TabOK w) (hC : Kd.C (Kd.int .u8) w A (0 :: l1).length (0 :: l1)) (hc : (0 :: l1).length ≤ c)
    (h1 : varint_Shortest.f k l1 = some (id, u1, 0)) (hu1 : 0 ≤ u1 ∧ u1 ≤ l1.length) (hid : ¬ 1099511627776 < id) (hl2 : l1.drop u1.toNat = l2)
    (h2 : varint_Shortest.f k l2 = some (ps, u2, 0)) (hu2 : 0 ≤ u2 ∧ u2 ≤ l2.length) (hl : l2.length ≤ 1000000) (hps : ¬ 128 < ps) (hps0 : 0 ≤ ps) (hpl : ps ≤ ((l2.drop u2.toNat).length : Int)) (hp : strOfNums ((l2.drop u2.toNat).take ps.toNat) = path) (hl3 : (l2.drop u2.toNat).drop ps.toNat = l3)
    (h3 : rawF l3 0 32 = (hsN sum, l4, 0))
    (h4 : varint_Shortest.f k l4 = some (size, u3, 0)) (hu3 : 0 ≤ u3 ∧ u3 ≤ l4.length) (hsz : ¬ 65536 < size) (hn : l4.drop u3.toNat = [])
    (hk : chkE ⟨0, id, path, sum, size, 0⟩ = 0) :
    Calls Tryd.prog 127 #[.slice A (0 :: l1).length c] w fun e w' => e = .returned (.tuple #[.agg (rcL ⟨0, id, path, sum, size, 0⟩).toArray, .bool true]) ∧ Below w.heap.size w w' := by
  have HT := Aside0.mk hT
  have HC := Aside0.mk (And.intro hC hc)
  have HN1 := Aside0.mk (show numP id u1 0 l1 1099511627776 = (id, l2, 0) by have e : lookF id u1 0 1099511627776 = (id, u1, 0) := if_neg (fun h => hid h.2); unfold numP; rw [e]; simp only; rw [if_true, hl2])
  have HN2 := Aside0.mk (show numP size u3 0 l4 65536 = (size, [], 0) by have e : lookF size u3 0 65536 = (size, u3, 0) := if_neg (fun h => hsz h.2); unfold numP; rw [e]; simp only; rw [if_true, hn])
  have H1 := Aside0.mk (And.intro h1 hu1)
  have H4 := Aside0.mk (And.intro h4 hu3)
  have HTX := Aside0.mk (fun (w0 v : World) (h : RdB w0 v (w.heap.size + 1) l2 0) => TextB_calls k (w.heap.size + 1) l2 128 ps u2 v h h2 hu2 hl hps hps0 hpl)
  rw [hp, hl3] at HTX
  have HRW := Aside0.mk h3
  have HK := Aside0.mk hk
  obtain ⟨S, hS0⟩ : ∃ S, strOfNums (hsN sum) = S := ⟨_, rfl⟩
  have HSC := Aside0.mk (hsN_cells sum S hS0.symm)
  have HS0 := Aside0.mk hS0
  obtain ⟨n, hn0⟩ : ∃ n, (0 :: l1).length = n := ⟨_, rfl⟩
  rw [hn0]
  have HN := Aside0.mk hn0
  clear hT hC hc h1 hu1 hid h2 hu2 hl2 hl hps hps0 hpl hp hl3 h3 h4 hu3 hsz hn hk hn0 hS0
  go_enter Tryd.func127, Tryd.ntmps127
  go_upto_region 6 with (first
    | (go_at_call 62; rw [← HN.out]; refine (New_calls A c (0 :: l1) _ (Kd.C_below HC.out.1 ?_) HC.out.2).mono ?_; (exact below_alloc (Below.refl _ _) _); rintro e w2 ⟨rfl, hr2, hb2⟩; rw [World.size_alloc] at hr2; have HR2 := Aside0.mk (RdB.of hr2); have HB2 := Aside0.mk (Below.trans (below_alloc (Below.refl w.heap.size w) _) (hb2.mono (by simp))); have i2 : isRow w2 w.heap.size 37 = true := (by rw [isRow_below hb2 (by simp)]; first | (go_simp; done) | (simp [*]; done)); have HLT := Aside0.mk hr2.lt; clear hr2 hb2)
    | (go_at_call 89; refine (ByteB_calls (w.heap.size + 1) 0 l1 _ HR2.out (by decide) (by decide)).mono ?_; rintro e w3 ⟨rfl, hr3, ho3⟩; have HR3 := Aside0.mk hr3; have i3 : isRow w3 w.heap.size 37 = true := (by rw [isRow_only ho3 (by have := HLT.out; omega) (by omega)]; exact i2); have HB3 := Aside0.mk (Below.trans HB2.out (ho3.below (n := w.heap.size) (by omega) (by have := HLT.out; omega))); clear hr3 ho3)
    | (go_at_call 65; (with_reducible refine Calls.mono (NumB_calls k (w.heap.size + 1) l1 1099511627776 id u1 0 w3 HR3.out H1.out.1 (fun _ => H1.out.2)) ?_); rw [HN1.out]; rintro e w4 ⟨rfl, hr4, ho4⟩; have HR4 := Aside0.mk hr4; have HLT4 := Aside0.mk (And.intro hr4.lt hr4.1.size); have i4 : isRow w4 w.heap.size 37 = true := (by rw [isRow_only ho4 (by have := HR3.out.lt; omega) (by omega)]; exact i3); have HB4 := Aside0.mk (Below.trans HB3.out (ho4.below (n := w.heap.size) (by omega) (by have := HR3.out.lt; omega))); clear hr4 ho4)
    | (go_at_call 63; (with_reducible refine Calls.mono (HTX.out w2 _ (HR4.out.below (below_alloc (Below.refl _ _) _))) ?_); rintro e w5 ⟨rfl, hr5, ho5⟩; have HR5 := Aside0.mk hr5;
        have HX5 := Aside0.mk ((BoxRc.new w4 ⟨0, id, ByteArray.empty, Hs.zero, 0, 0⟩).only ho5 (by have := HLT4.out; omega));
        have c5 : w5.cell? ⟨w4.heap.size, 2, none⟩ = some (.string ByteArray.empty) := HX5.out.cell (get_rc_path _);
        have z5 : w5.frozen? ⟨w4.heap.size, 2, none⟩ = false := HX5.out.froz _;
        have k5 : w5.cell? ⟨w4.heap.size, 0, none⟩ = some (.int .u8 0) := HX5.out.cell (get_rc_kind _);
        have i5 : isRow w5 w.heap.size 37 = true := (by rw [isRow_only ho5 (by have := HLT4.out; simp; omega) (by omega), isRow_below (below_alloc (Below.refl w4.heap.size w4) _) (by have := HLT4.out; omega)]; exact i4);
        have HB5 := Aside0.mk (Below.trans HB4.out (Below.trans ((below_alloc (Below.refl w4.heap.size w4) _).mono (by have := HLT4.out; omega)) (ho5.below (n := w.heap.size) (by omega) (by have := HLT4.out; simp; omega)))); have HS5 := Aside0.mk (show w4.heap.size + 1 ≤ w5.heap.size from by have := ho5.size; simpa using this); clear hr5 ho5))
  have HX6 := Aside0.mk (HX5.out.path path)
  have HR6 := Aside0.mk (HR5.out.set (b := w4.heap.size) (o := 2) (by have := HLT4.out; omega) (.string path))
  have i6 : isRow (w5.setCell ⟨w4.heap.size, 2, none⟩ (.string path)) w.heap.size 37 = true := by rw [isRow_setCell]; exact i5
  have HB6 := Aside0.mk (show Below w.heap.size w (w5.setCell ⟨w4.heap.size, 2, none⟩ (.string path)) from below_setCell HB5.out (by have := HLT4.out; omega) _)
  have HS6 := Aside0.mk (show w4.heap.size + 1 ≤ (w5.setCell ⟨w4.heap.size, 2, none⟩ (.string path)).heap.size by have := HS5.out; simpa using this)
  generalize w5.setCell ⟨w4.heap.size, 2, none⟩ (.string path) = w6 at HX6 HR6 i6 HB6 HS6 ⊢
  clear c5 z5 k5 i2 i3 i4 i5
  go_region_held3 (fun w' => isRow w' w.heap.size 37 = true) (first | assumption | (rw [isRow_drew]; assumption) | exact i8)
    (first
      | (go_at_call 90; (first | (have hq := RawB_calls (w.heap.size + 1) l3 0 32 _ (HR6.out.below (below_drew (Below.refl _ _)))) | (have hq := RawB_calls (w.heap.size + 1) l3 0 32 _ (HR6.out))); rw [HRW.out] at hq; simp only [HS0.out] at hq; refine hq.mono ?_; clear hq; rintro e w7 ⟨rfl, hr7, ho7⟩; have HR7 := Aside0.mk hr7; have ho7' : Only (w.heap.size + 1) w6 w7 := (Only.of_below (by first | exact Below.refl _ _ | exact below_drew (Below.refl _ _))).trans ho7; have HX7 := Aside0.mk (HX6.out.only ho7' (by have := HLT4.out; omega)); have i7 : isRow w7 w.heap.size 37 = true := (by rw [isRow_only ho7' (by have := HS6.out; have := HLT4.out; omega) (by omega)]; exact i6); have HB7 := Aside0.mk (Below.trans HB6.out (ho7'.below (n := w.heap.size) (by omega) (by have := HS6.out; have := HLT4.out; omega))); have HS7 := Aside0.mk (Nat.le_trans HS6.out ho7'.size); clear hr7 ho7 ho7')
      | ((with_reducible refine gate_stepb (b := .copy) (xs := #[.tmp 21, .tmp 23]) rfl ?_);
          refine step_copy_str rfl (.tmp 21) (.tmp 23) 22 9 rfl 5 Tryd.underlying22 (by kernel_rfl) w4.heap.size 3 32 32 S rfl rfl HSC.out.2 _ _ HX7.out _ HSC.out.1 (by rw [rcL_len]; decide) ?_;
          rw [rcL_sum];
          intro w8 hx8 ho8;
          have HX8 := Aside0.mk (show BoxRc w8 w4.heap.size ⟨0, id, path, sum, 0, 0⟩ from hx8);
          have HR8 := Aside0.mk (HR7.out.far (by have := HLT4.out; omega) ho8);
          have i8 : isRow w8 w.heap.size 37 = true := (by rw [isRow_only ho8 (by have := HS7.out; have := HLT4.out; omega) (by have := HLT4.out; omega)]; exact i7);
          have HB8 := Aside0.mk (Below.trans HB7.out (ho8.below (n := w.heap.size) (by have := HLT4.out; omega) (by have := HS7.out; have := HLT4.out; omega)));
          have HS8 := Aside0.mk (Nat.le_trans HS7.out ho8.size);
          clear hx8 ho8))
  all_goals
    have k8 : w8.cell? ⟨w4.heap.size, 0, none⟩ = some (.int .u8 0) := HX8.out.cell (get_rc_kind _)
    go_upto_region 10 with (first
      | (go_at_call 65; (with_reducible refine Calls.mono (NumB_calls k (w.heap.size + 1) l4 65536 size u3 0 _ HR8.out H4.out.1 (fun _ => H4.out.2)) ?_); rw [HN2.out]; rintro e w9 ⟨rfl, hr9, ho9⟩; have HR9 := Aside0.mk hr9; have HX9 := Aside0.mk (HX8.out.only ho9 (by have := HLT4.out; omega));
          have c9 : w9.cell? ⟨w4.heap.size, 35, none⟩ = some (.int .i64 0) := HX9.out.cell (get_rc_size _);
          have z9 : w9.frozen? ⟨w4.heap.size, 35, none⟩ = false := HX9.out.froz _;
          have i9 : isRow w9 w.heap.size 37 = true := (by rw [isRow_only ho9 (by have := HS8.out; have := HLT4.out; omega) (by omega)]; exact i8);
          have HB9 := Aside0.mk (Below.trans HB8.out (ho9.below (n := w.heap.size) (by omega) (by have := HS8.out; have := HLT4.out; omega)));
          have HS9 := Aside0.mk (Nat.le_trans HS8.out ho9.size); clear hr9 ho9))
    have hS : rowAt (w9.setCell ⟨w4.heap.size, 35, none⟩ (.int .i64 size)) ⟨w4.heap.size, 0, none⟩ 37 = some (rcL ⟨0, id, path, sum, size, 0⟩) ∧ isRow (w9.setCell ⟨w4.heap.size, 35, none⟩ (.int .i64 size)) w.heap.size 37 = true ∧ RdAt (w9.setCell ⟨w4.heap.size, 35, none⟩ (.int .i64 size)) (w.heap.size + 1) [] 0 ∧ TabOK (w9.setCell ⟨w4.heap.size, 35, none⟩ (.int .i64 size)) := ⟨(HX9.out.size size).row, by rw [isRow_setCell]; exact i9, (HR9.out.set (by have := HLT4.out; omega) _).at_, HT.out.below (below_setCell HB9.out (by have := HLT4.out; omega) _)⟩
    have HB10 := Aside0.mk (show Below w.heap.size w (w9.setCell ⟨w4.heap.size, 35, none⟩ (.int .i64 size)) from below_setCell HB9.out (by have := HLT4.out; omega) _)
    generalize w9.setCell ⟨w4.heap.size, 35, none⟩ (.int .i64 size) = wA at hS HB10 ⊢
    clear c9 z9 k8 i6 i7 i8 i9
    go_region_held3 (fun w' => rowAt w' ⟨w4.heap.size, 0, none⟩ 37 = some (rcL ⟨0, id, path, sum, size, 0⟩) ∧ isRow w' w.heap.size 37 = true ∧ RdAt w' (w.heap.size + 1) [] 0 ∧ TabOK w') (first | assumption | exact keepRd (by assumption) (below_drew (Below.refl _ _)) | exact keepRd2 (by assumption) (by have := HLT4.out; omega) (by omega) (HT.out.below (below_setRow HBC.out (Nat.le_refl _) _)))
      (first
        | (go_at_call 66; refine (Done_calls (w.heap.size + 1) [] 0 _ (rdOf (by assumption))).mono ?_; rintro e wB ⟨rfl, hbB⟩; have hSB := keepRd (by assumption) hbB; have HBB := Aside0.mk (below_step (by first | exact HB10.out | exact below_drew HB10.out) hbB); clear hbB)
        | (go_at_call 26; refine (Check_calls ⟨0, id, path, sum, size, 0⟩ _ (tabOf (by assumption))).mono ?_; rintro e wC ⟨rfl, hbC⟩; rw [HK.out]; have hSC := keepRd (by assumption) hbC; have HBC := Aside0.mk (below_step (by first | exact HBB.out | exact below_drew HBB.out) hbC); clear hbC))
    go_wp2
    refine bodyPost_ret (v := .tuple #[.agg (rcL ⟨0, id, path, sum, size, 0⟩).toArray, .bool true]) (res2 rfl rfl (lv_rc (by rw [rowAt_setRow_same hSC.2.1 _ _ _ (by decide), cut_rc])) rfl) rfl ⟨rfl, below_setRow HBC.out (Nat.le_refl _) _⟩
end Go.Proofs.YtiohgpcbdefokaaDoor.B
/- record.read of a body that holds a kind and a number. No condition. -/
namespace Go.Proofs.YtiohgpcbdefokaaDoor.B
open Go.RowKit Go.Proofs.YtiohgpcbdefokaaDoorW.PrintWords Go.Proofs.YtiohgpcbdefokaaDoor.RowLaws
attribute [local go_sem ↓ high] lvO_hs ldO_hs stO_hs lvO_pt ldO_pt stO_pt zero_pt eqA_pt lvO_ptR ldO_ptR stO_ptR zero_ptR eqA_ptR lvO_rc ldO_rc stO_rc zero_rc eqA_rc lvO_rcR ldO_rcR stO_rcR zero_rcR eqA_rcR lvO_tk ldO_tk stO_tk zero_tk eqA_tk lvO_tkR ldO_tkR stO_tkR zero_tkR eqA_tkR lvO_it ldO_it stO_it zero_it eqA_it blO_pt blO_ptR blO_rc blO_rcR blO_tk blO_tkR blO_it bsO_pt bsO_ptR bsO_rc bsO_rcR bsO_it
attribute [local go_sem high] rowAt_setCell rowAt_setRow cell_setRow_ne isRow_setRow_ne rowAt_alloc rowAt_drew isRow_alloc isRow_drew isRow_setCell rowRun_some okL_hs ldV_hs ldA_hs stA_hs setRow_alloc get_pt_id get_pt_path cut_pt_sum get_pt_size get_pt_off cut_pt okL_pt size_pt lenb_pt eta_pt ldV_pt ldA_pt stA_pt ldV_ptR ldA_ptR stA_ptR get_rc_kind get_rc_id get_rc_path cut_rc_sum get_rc_size get_rc_off cut_rc okL_rc size_rc lenb_rc eta_rc ldV_rc ldA_rc stA_rc ldV_rcR ldA_rcR stA_rcR get_tk_path cut_tk_sum get_tk_size get_tk_off cut_tk_old cut_tk okL_tk size_tk lenb_tk eta_tk ldV_tk ldA_tk stA_tk ldV_tkR ldA_tkR stA_tkR get_it_path get_it_dir get_it_size cut_it_sum cut_it okL_it size_it lenb_it eta_it ldV_it ldA_it stA_it bld_pt_01234 bld_pt_0123 bld_pt_z bld_ptR_01234 bld_ptR_0123 bld_ptR_z bld_rc_012345 bld_rc_015 bld_rc_01 bld_rc_z bld_rc_01234 bld_rc_24 bld_rc_05 bld_rc_0 bld_rcR_012345 bld_rcR_015 bld_rcR_01 bld_rcR_z bld_rcR_01234 bld_rcR_24 bld_rcR_05 bld_rcR_0 bld_tk_01234 bld_tk_0 bld_tk_z bld_tkR_01234 bld_tkR_0 bld_tkR_z bld_it_0123 bld_it_023 bld_it_01 bld_it_0 bld_it_z bs0_pt bs1_pt bs0_ptR bs1_ptR bs0_rc bs1_rc bs0_rcR bs1_rcR bs0_it bs1_it
set_option linter.unusedVariables false in
set_option maxHeartbeats 4000000 in
set_option maxRecDepth 100000 in
theorem ReadBare_calls (k : Nat) (A : Option Addr) (c : Nat) (l1 : List Int) (kd id u1 : Int) (w : World) (hT : TabOK w) (hC : Kd.C (Kd.int .u8) w A (kd :: l1).length (kd :: l1)) (hc : (kd :: l1).length ≤ c)
    (h1 : varint_Shortest.f k l1 = some (id, u1, 0)) (hu1 : 0 ≤ u1 ∧ u1 ≤ l1.length) (hid : ¬ 1099511627776 < id) (hkd : 2 ≤ kd ∧ kd ≤ 4)
    (hn : l1.drop u1.toNat = []) (hk : chkE ⟨kd, id, ByteArray.empty, Hs.zero, 0, 0⟩ = 0) :
    Calls Tryd.prog 127 #[.slice A (kd :: l1).length c] w fun e w' => e = .returned (.tuple #[.agg (rcL ⟨kd, id, ByteArray.empty, Hs.zero, 0, 0⟩).toArray, .bool true]) ∧ Below w.heap.size w w' := by
  have HT := Aside0.mk hT
  have HC := Aside0.mk (And.intro hC hc)
  have HN1 := Aside0.mk (show numP id u1 0 l1 1099511627776 = (id, [], 0) by have e : lookF id u1 0 1099511627776 = (id, u1, 0) := if_neg (fun h => hid h.2); unfold numP; rw [e]; simp only; rw [if_true, hn])
  have H1 := Aside0.mk (And.intro h1 hu1)
  have hd0 : decide (kd = 0) = false := decide_eq_false (by omega)
  have hd1 : decide (kd = 1) = false := decide_eq_false (by omega)
  have he0 : (kd == 0) = false := by simp; omega
  have he1 : (kd == 1) = false := by simp; omega
  have HKD := Aside0.mk hkd
  have HK := Aside0.mk hk
  obtain ⟨n, hn0⟩ : ∃ n, (kd :: l1).length = n := ⟨_, rfl⟩
  rw [hn0]
  have HN := Aside0.mk hn0
  clear hT hC hc h1 hu1 hid hkd hn hk hn0
  go_enter Tryd.func127, Tryd.ntmps127
  go_upto_region 10 with (first
    | (go_at_call 62; rw [← HN.out]; refine (New_calls A c (kd :: l1) _ (Kd.C_below HC.out.1 ?_) HC.out.2).mono ?_; (exact below_alloc (Below.refl _ _) _); rintro e w2 ⟨rfl, hr2, hb2⟩; rw [World.size_alloc] at hr2; have HR2 := Aside0.mk hr2; have HB2 := Aside0.mk (Below.trans (below_alloc (Below.refl w.heap.size w) _) (hb2.mono (by simp))); have i2 : isRow w2 w.heap.size 37 = true := (by rw [isRow_below hb2 (by simp)]; first | (go_simp; done) | (simp [*]; done)); have HLT := Aside0.mk hr2.lt; clear hr2 hb2)
    | (go_at_call 89; refine (Byte_calls (w.heap.size + 1) kd l1 _ HR2.out (by have := HKD.out; omega) (by have := HKD.out; omega)).mono ?_; rintro e w3 ⟨rfl, hr3, ho3⟩; have HR3 := Aside0.mk hr3; have HO3 := Aside0.mk ho3; have i3 : isRow w3 w.heap.size 37 = true := (by rw [isRow_only ho3 (by have := HLT.out; omega) (by omega)]; exact i2); have HB3 := Aside0.mk (Below.trans HB2.out (ho3.below (n := w.heap.size) (by omega) (by have := HLT.out; omega))); clear hr3 ho3)
    | (go_at_call 65; with_reducible refine Calls.mono (Num_calls k (w.heap.size + 1) l1 1099511627776 id u1 0 w3 HR3.out H1.out.1 (fun _ => H1.out.2)) ?_; rw [HN1.out]; rintro e w4 ⟨rfl, hr4, ho4⟩; have HR4 := Aside0.mk hr4; have HLT4 := Aside0.mk hr4.lt; have i4 : isRow w4 w.heap.size 37 = true := (by rw [isRow_only ho4 (by have := HR3.out.lt; omega) (by omega)]; exact i3); have HB4 := Aside0.mk (Below.trans HB3.out (ho4.below (n := w.heap.size) (by omega) (by have := HR3.out.lt; omega))); clear hr4 ho4))
  have hS : rowAt (w4.alloc (.cells (rcL ⟨kd, id, ByteArray.empty, Hs.zero, 0, 0⟩).toArray 51)) ⟨w4.heap.size, 0, none⟩ 37 = some (rcL ⟨kd, id, ByteArray.empty, Hs.zero, 0, 0⟩) ∧ isRow (w4.alloc (.cells (rcL ⟨kd, id, ByteArray.empty, Hs.zero, 0, 0⟩).toArray 51)) w.heap.size 37 = true ∧ RdAt (w4.alloc (.cells (rcL ⟨kd, id, ByteArray.empty, Hs.zero, 0, 0⟩).toArray 51)) (w.heap.size + 1) [] 0 ∧ TabOK (w4.alloc (.cells (rcL ⟨kd, id, ByteArray.empty, Hs.zero, 0, 0⟩).toArray 51)) := ⟨(BoxRc.new w4 ⟨kd, id, ByteArray.empty, Hs.zero, 0, 0⟩).row, by rw [isRow_below (below_alloc (Below.refl w4.heap.size w4) _) (by have := HLT4.out; omega)]; exact i4, HR4.out.below (below_alloc (Below.refl _ _) _), HT.out.below (Below.alloc HB4.out (by have := HLT4.out; omega) _)⟩
  have HB6 := Aside0.mk (show Below w.heap.size w (w4.alloc (.cells (rcL ⟨kd, id, ByteArray.empty, Hs.zero, 0, 0⟩).toArray 51)) from Below.alloc HB4.out (by have := HLT4.out; omega) _)
  generalize (w4.alloc (.cells (rcL ⟨kd, id, ByteArray.empty, Hs.zero, 0, 0⟩).toArray 51)) = w6 at hS HB6 ⊢
  clear i2 i3 i4
  go_region_held3 (fun w' => rowAt w' ⟨w4.heap.size, 0, none⟩ 37 = some (rcL ⟨kd, id, ByteArray.empty, Hs.zero, 0, 0⟩) ∧ isRow w' w.heap.size 37 = true ∧ RdAt w' (w.heap.size + 1) [] 0 ∧ TabOK w') (first | assumption | exact keepRd (by assumption) (below_drew (Below.refl _ _)) | exact keepRd2 (by assumption) (by have := HLT4.out; omega) (by omega) (HT.out.below (below_setRow HB8.out (Nat.le_refl _) _)))
    (first
      | (go_at_call 66; refine (Done_calls (w.heap.size + 1) [] 0 _ (rdOf (by assumption))).mono ?_; rintro e w7 ⟨rfl, hb7⟩; have hS7 := keepRd (by assumption) hb7; have HB7 := Aside0.mk (below_step (by first | exact HB6.out | exact below_drew HB6.out) hb7); clear hb7)
      | (go_at_call 26; refine (Check_calls ⟨kd, id, ByteArray.empty, Hs.zero, 0, 0⟩ _ (tabOf (by assumption))).mono ?_; rintro e w8 ⟨rfl, hb8⟩; rw [HK.out]; have hS8 := keepRd (by assumption) hb8; have HB8 := Aside0.mk (below_step (by first | exact HB7.out | exact below_drew HB7.out) hb8); clear hb8))
  go_wp2
  refine bodyPost_ret (v := .tuple #[.agg (rcL ⟨kd, id, ByteArray.empty, Hs.zero, 0, 0⟩).toArray, .bool true]) (res2 rfl rfl (lv_rc (by rw [rowAt_setRow_same hS8.2.1 _ _ _ (by decide), cut_rc])) rfl) rfl ⟨rfl, below_setRow HB8.out (Nat.le_refl _) _⟩
end Go.Proofs.YtiohgpcbdefokaaDoor.B
/- record.first, record.Scan of eight bytes that hold a mark. No condition. -/
namespace Go.Proofs.YtiohgpcbdefokaaDoor.B
open Go.RowKit Go.Proofs.YtiohgpcbdefokaaDoorW.PrintWords Go.Proofs.YtiohgpcbdefokaaDoor.RowLaws
attribute [local go_sem ↓ high] lvO_hs ldO_hs stO_hs lvO_pt ldO_pt stO_pt zero_pt eqA_pt lvO_ptR ldO_ptR stO_ptR zero_ptR eqA_ptR lvO_rc ldO_rc stO_rc zero_rc eqA_rc lvO_rcR ldO_rcR stO_rcR zero_rcR eqA_rcR lvO_tk ldO_tk stO_tk zero_tk eqA_tk lvO_tkR ldO_tkR stO_tkR zero_tkR eqA_tkR lvO_it ldO_it stO_it zero_it eqA_it blO_pt blO_ptR blO_rc blO_rcR blO_tk blO_tkR blO_it bsO_pt bsO_ptR bsO_rc bsO_rcR bsO_it
attribute [local go_sem high] rowAt_setCell rowAt_setRow cell_setRow_ne isRow_setRow_ne rowAt_alloc rowAt_drew isRow_alloc isRow_drew isRow_setCell rowRun_some okL_hs ldV_hs ldA_hs stA_hs setRow_alloc get_pt_id get_pt_path cut_pt_sum get_pt_size get_pt_off cut_pt okL_pt size_pt lenb_pt eta_pt ldV_pt ldA_pt stA_pt ldV_ptR ldA_ptR stA_ptR get_rc_kind get_rc_id get_rc_path cut_rc_sum get_rc_size get_rc_off cut_rc okL_rc size_rc lenb_rc eta_rc ldV_rc ldA_rc stA_rc ldV_rcR ldA_rcR stA_rcR get_tk_path cut_tk_sum get_tk_size get_tk_off cut_tk_old cut_tk okL_tk size_tk lenb_tk eta_tk ldV_tk ldA_tk stA_tk ldV_tkR ldA_tkR stA_tkR get_it_path get_it_dir get_it_size cut_it_sum cut_it okL_it size_it lenb_it eta_it ldV_it ldA_it stA_it bld_pt_01234 bld_pt_0123 bld_pt_z bld_ptR_01234 bld_ptR_0123 bld_ptR_z bld_rc_012345 bld_rc_015 bld_rc_01 bld_rc_z bld_rc_01234 bld_rc_24 bld_rc_05 bld_rc_0 bld_rcR_012345 bld_rcR_015 bld_rcR_01 bld_rcR_z bld_rcR_01234 bld_rcR_24 bld_rcR_05 bld_rcR_0 bld_tk_01234 bld_tk_0 bld_tk_z bld_tkR_01234 bld_tkR_0 bld_tkR_z bld_it_0123 bld_it_023 bld_it_01 bld_it_0 bld_it_z bs0_pt bs1_pt bs0_ptR bs1_ptR bs0_rc bs1_rc bs0_rcR bs1_rcR bs0_it bs1_it
/-- Eight bytes that hold the mark r. -/
structure Eight (k : Nat) (l : List Int) (r : Rc) : Prop where
  len : l.length = 8
  num : varint_Shortest.f k l = some (7, 1, 0)
  open_ : crc_Open.f k ((l.take 8).drop 1) = some ([1, r.id, r.off], 0)
  one : varint_Shortest.f k [r.id, r.off] = some (r.id, 1, 0)
  two : varint_Shortest.f k [r.off] = some (r.off, 1, 0)
  lo : ¬ 1099511627776 < r.id
  lo2 : ¬ 65536 < r.off
  is : r = ⟨1, r.id, ByteArray.empty, Hs.zero, 0, r.off⟩
  chk : chkE r = 0
set_option linter.unusedVariables false in
set_option maxHeartbeats 4000000 in
set_option maxRecDepth 100000 in
theorem First_calls (k : Nat) (A : Option Addr) (c : Nat) (l : List Int) (r : Rc) (w : World) (hT : TabOK w) (hC : Kd.C (Kd.int .u8) w A 8 l) (hc : 8 ≤ c) (h : Eight k l r) :
    Calls Tryd.prog 85 #[.slice A 8 c] w fun e w' => e = .returned (.tuple #[.agg (rcL r).toArray, .int .i64 8, .int .i64 0]) ∧ Below w.heap.size w w' := by
  have HT := Aside0.mk hT
  have HH := Aside0.mk h
  have hC' : Kd.C (Kd.int .u8) w A l.length l := by rw [h.len]; exact hC
  obtain ⟨A2, hm1, hm2, hm3⟩ := print_mid_of (P := Tryd.prog) (Value.int .u8) 0 22 5 .i64 .i64 Tryd.underlying22 (info_parts info5).choose_spec.1 (info_parts info5).choose_spec.2.2.1 A c l 1 8 (by decide) (by decide) (by rw [h.len]; decide) (by rw [h.len]; exact hc)
  rw [show ((8 : Int)).toNat = 8 from rfl, show ((1 : Int)).toNat = 1 from rfl] at hm1 hm2 hm3
  obtain ⟨y, hy⟩ : ∃ y, (l.take 8).drop 1 = y := ⟨_, rfl⟩
  have ho := h.open_
  rw [hy] at hm1 hm2 hm3 ho
  rw [h.len] at hm1
  have hyl : y.length = 7 := by rw [← hy, List.length_drop, List.length_take, h.len]; decide
  have HM := Aside0.mk (And.intro hm1 (And.intro hm2 hm3))
  have HYL := Aside0.mk hyl
  have HO := Aside0.mk ho
  have HC := Aside0.mk hC'
  have HC8 := Aside0.mk (show l.length ≤ c by rw [h.len]; exact hc)
  have HL := Aside0.mk h.len
  have HNUM := Aside0.mk h.num
  clear hT hC hc hC' hm1 hm2 hm3 hy ho hyl h
  go_enter Tryd.func85, Tryd.ntmps85
  go_wp2_with (first
    | (go_at_call 125; rw [← HL.out]; refine (varint_Shortest.calls k A c l 7 1 0 _ (Kd.C_below HC.out ?_) HC8.out HNUM.out).mono ?_; (exact below_alloc (Below.refl _ _) _); rintro e w2 ⟨rfl, hb2⟩; rw [HL.out]; have i2 : isRow w2 w.heap.size 37 = true := (by rw [isRow_below hb2 (by simp)]; first | (go_simp; done) | (simp [*]; done)); have HB2 := Aside0.mk (Below.trans (below_alloc (Below.refl w.heap.size w) _) (hb2.mono (by simp))); have hcut := HM.out.1 w2; rw [HYL.out] at hcut; have HLT := Aside0.mk (isRow_lt i2); clear hb2)
    | (go_at_call 126; rw [← HYL.out]; refine (crc_Open.calls k A2 _ y [1, r.id, r.off] 0 w2 (Kd.C_of_reads (h1 := fun _ => rfl) (HM.out.2.1 w2 (Kd.reads_of_C (Kd.C_below HC.out HB2.out)))) HM.out.2.2 (HT.out.below HB2.out) HO.out).mono ?_; rintro e w3 ⟨v3, rfl, ho3, hb3⟩; rw [HYL.out]; obtain ⟨A3, c3, rfl⟩ := Kd.R_slice ho3; have i3 : isRow w3 w.heap.size 37 = true := (by rw [isRow_below hb3 HLT.out]; exact i2); have HB3 := Aside0.mk (below_step HB2.out hb3); have HR3 := Aside0.mk (Kd.R_reads' ho3); clear ho3 hb3)
    | (go_at_call 127; have hq := ReadMark_calls k A3 c3 [r.id, r.off] r.id 1 r.off 1 w3 (HT.out.below HB3.out) HR3.out.2.2 HR3.out.2.1 HH.out.one ⟨by decide, by simp only [List.length_cons]; omega⟩ HH.out.lo HH.out.two ⟨by decide, by simp⟩ HH.out.lo2 rfl (by rw [← HH.out.is]; exact HH.out.chk); rw [← HH.out.is] at hq; refine Calls.mono (show Calls _ _ #[.slice A3 3 c3] w3 _ from hq) ?_; clear hq; rintro e w4 ⟨rfl, hb4⟩; have i4 : isRow w4 w.heap.size 37 = true := (by rw [isRow_below hb4 (isRow_lt i3)]; exact i3); have HB4 := Aside0.mk (below_step HB3.out hb4); have HLT4 := Aside0.mk (isRow_lt i4); have n4 : ¬ (w.heap.size = w4.heap.size) := (by have := isRow_lt i4; omega); clear hb4))
  refine bodyPost_ret (v := .tuple #[.agg (rcL r).toArray, .int .i64 8, .int .i64 0]) (res3 rfl rfl (lv_rc (by rw [rowAt_below (below_alloc (Below.refl _ _) _) (by simpa using HLT4.out), rowAt_setRow_same i4 _ _ _ (by decide), cut_rc])) rfl rfl) rfl ⟨rfl, below_alloc (below_setRow HB4.out (Nat.le_refl _) _) _⟩
theorem infoRc : (Tryd.prog.info? 51).map (fun i => (i.zero, i.size, i.bytes)) = some (some (.agg (rcL Rc.zero).toArray), 37, 80) := by kernel_rfl
theorem zcRc : (Value.agg (rcL Rc.zero).toArray).cells.size = 37 := by simp [Value.cells, rcL_len]
set_option linter.unusedVariables false in
set_option maxHeartbeats 4000000 in
set_option maxRecDepth 100000 in
theorem Scan_calls (k : Nat) (A : Option Addr) (c : Nat) (l : List Int) (r : Rc) (w : World) (hT : TabOK w) (hC : Kd.C (Kd.int .u8) w A 8 l) (hc : 8 ≤ c) (h : Eight k l r) :
    Calls Tryd.prog 35 #[.slice A 8 c] w fun e w' => ∃ v : Value, e = .returned (.tuple #[v, .int .i64 8, .int .i64 0]) ∧ Kd.R kRc 51 w' w.heap.size (fun _ => True) v [r] ∧ Below w.heap.size w w' := by
  have HT := Aside0.mk hT
  have HH := Aside0.mk h
  have hC' : Kd.C (Kd.int .u8) w A l.length l := by rw [h.len]; exact hC
  obtain ⟨A2, hm1, hm2, hm3⟩ := print_drop_of (P := Tryd.prog) (Value.int .u8) 0 22 5 .i64 Tryd.underlying22 (info_parts info5).choose_spec.1 (info_parts info5).choose_spec.2.2.1 A c l 0 (by decide) (by rw [h.len]; decide) (by rw [h.len]; exact hc)
  rw [show ((0 : Int)).toNat = 0 from rfl, List.drop_zero] at hm1 hm2 hm3
  rw [Nat.sub_zero] at hm1 hm3
  rw [h.len] at hm1 hm2 hm3
  have HM := Aside0.mk (And.intro hm1 (And.intro hm2 hm3))
  have HC := Aside0.mk hC
  clear hT hC hc hC' hm1 hm2 hm3 h
  go_enter Tryd.func35, Tryd.ntmps35
  go_wp2
  go_loopw [5, 6] (fun ov av wr => (ov = .slice none 0 0 ∧ av = .int .i64 0 ∧ Aside0 (Below w.heap.size w wr)) ∨ (∃ (A3 : Option Addr) (c3 : Nat), ov = .slice A3 1 c3 ∧ av = .int .i64 8 ∧ Aside0 (Below w.heap.size w wr) ∧ Aside0 (Kd.R kRc 51 wr w.heap.size (fun _ => True) (.slice A3 1 c3) [r]))) (fun _ av _ => 8 - (intOf av).toNat)
  case atStart => exact .inl ⟨rfl, rfl, ⟨Below.refl _ _⟩⟩
  case round =>
    rcases hrel with ⟨rfl, rfl, HB⟩ | ⟨A3, c3, rfl, rfl, HB, HR⟩
    · have hcut := HM.out.1 wr
      go_wp2_with (first
        | (go_at_call 85; refine (First_calls k A2 c l r _ (HT.out.below HB.out) (Kd.C_of_reads (h1 := fun _ => rfl) (HM.out.2.1 wr (Kd.reads_of_C (Kd.C_below HC.out HB.out)))) HM.out.2.2 HH.out).mono ?_; rintro e w2 ⟨rfl, hb2⟩; have HB2 := Aside0.mk (below_step HB.out hb2); clear hb2)
        | ((with_reducible refine gate_builtin (b := .append) (xs := #[.tmp 27, .tmp 29]) rfl ?_); at_builtin; refine Kd.R_append kRc (w0 := w) w.heap.size rfl (.tmp 27) (.tmp 29) 57 51 _ 80 rfl Tryd.underlying57 infoRc zcRc (by decide) (by decide) (.slice none 0 0) [] r (rcL r) (fun _ => True) (fun _ => False) rfl ?aX rfl (fun _ h => h.elim) (fun _ _ => trivial) (Kd.R_nil _ _ _ _ _) ?aB ?aS (by decide) ?_; (case aX => rw [World.size_alloc]; rfl); (case aB => exact below_alloc HB2.out _); (case aS => have h_ := HB2.out.size; simp; omega); intro v5 w5 ho5 hb5 hg5 hat5; obtain ⟨A5, c5, rfl⟩ := Kd.R_slice ho5; have HO5 := Aside0.mk ho5; have HB5 := Aside0.mk hb5; clear ho5 hb5 hg5 hat5))
      go_roundw
      case rel => exact .inr ⟨A5, c5, rfl, rfl, HB5, HO5⟩
      case measure => simp [intOf]
    · go_wp2
      go_ret3
      exact ⟨_, rfl, HR.out, HB.out⟩
end Go.Proofs.YtiohgpcbdefokaaDoor.B
/- record.first: of bytes that begin with a whole record, and of a record that is cut. No condition. -/
namespace Go.Proofs.YtiohgpcbdefokaaDoor.B
open Go.RowKit Go.Proofs.YtiohgpcbdefokaaDoorW.PrintWords Go.Proofs.YtiohgpcbdefokaaDoor.RowLaws
attribute [local go_sem ↓ high] lvO_hs ldO_hs stO_hs lvO_pt ldO_pt stO_pt zero_pt eqA_pt lvO_ptR ldO_ptR stO_ptR zero_ptR eqA_ptR lvO_rc ldO_rc stO_rc zero_rc eqA_rc lvO_rcR ldO_rcR stO_rcR zero_rcR eqA_rcR lvO_tk ldO_tk stO_tk zero_tk eqA_tk lvO_tkR ldO_tkR stO_tkR zero_tkR eqA_tkR lvO_it ldO_it stO_it zero_it eqA_it blO_pt blO_ptR blO_rc blO_rcR blO_tk blO_tkR blO_it bsO_pt bsO_ptR bsO_rc bsO_rcR bsO_it
attribute [local go_sem high] rowAt_setCell rowAt_setRow cell_setRow_ne isRow_setRow_ne rowAt_alloc rowAt_drew isRow_alloc isRow_drew isRow_setCell rowRun_some okL_hs ldV_hs ldA_hs stA_hs setRow_alloc get_pt_id get_pt_path cut_pt_sum get_pt_size get_pt_off cut_pt okL_pt size_pt lenb_pt eta_pt ldV_pt ldA_pt stA_pt ldV_ptR ldA_ptR stA_ptR get_rc_kind get_rc_id get_rc_path cut_rc_sum get_rc_size get_rc_off cut_rc okL_rc size_rc lenb_rc eta_rc ldV_rc ldA_rc stA_rc ldV_rcR ldA_rcR stA_rcR get_tk_path cut_tk_sum get_tk_size get_tk_off cut_tk_old cut_tk okL_tk size_tk lenb_tk eta_tk ldV_tk ldA_tk stA_tk ldV_tkR ldA_tkR stA_tkR get_it_path get_it_dir get_it_size cut_it_sum cut_it okL_it size_it lenb_it eta_it ldV_it ldA_it stA_it bld_pt_01234 bld_pt_0123 bld_pt_z bld_ptR_01234 bld_ptR_0123 bld_ptR_z bld_rc_012345 bld_rc_015 bld_rc_01 bld_rc_z bld_rc_01234 bld_rc_24 bld_rc_05 bld_rc_0 bld_rcR_012345 bld_rcR_015 bld_rcR_01 bld_rcR_z bld_rcR_01234 bld_rcR_24 bld_rcR_05 bld_rcR_0 bld_tk_01234 bld_tk_0 bld_tk_z bld_tkR_01234 bld_tkR_0 bld_tkR_z bld_it_0123 bld_it_023 bld_it_01 bld_it_0 bld_it_z bs0_pt bs1_pt bs0_ptR bs1_ptR bs0_rc bs1_rc bs0_rcR bs1_rcR bs0_it bs1_it
/-- read tells r of these bytes. -/
def ReadOK (body : List Int) (r : Rc) : Prop := ∀ (A : Option Addr) (c : Nat) (w : World), TabOK w → Kd.C (Kd.int .u8) w A body.length body → body.length ≤ c →
  Calls Tryd.prog 127 #[.slice A body.length c] w fun e w' => e = .returned (.tuple #[.agg (rcL r).toArray, .bool true]) ∧ Below w.heap.size w w'
set_option linter.unusedVariables false in
set_option maxHeartbeats 4000000 in
set_option maxRecDepth 100000 in
theorem First_ok (k : Nat) (A : Option Addr) (c : Nat) (l body : List Int) (n u : Int) (r : Rc) (w : World) (hT : TabOK w) (hC : Kd.C (Kd.int .u8) w A l.length l) (hc : l.length ≤ c)
    (hnum : varint_Shortest.f k l = some (n, u, 0)) (hn : 0 ≤ n ∧ n ≤ 512) (hu : 0 ≤ u) (hl : u + n ≤ (l.length : Int)) (hl2 : l.length ≤ 1000000) (hop : crc_Open.f k ((l.take (u + n).toNat).drop u.toNat) = some (body, 0)) (hread : ReadOK body r) :
    Calls Tryd.prog 85 #[.slice A l.length c] w fun e w' => e = .returned (.tuple #[.agg (rcL r).toArray, .int .i64 (u + n), .int .i64 0]) ∧ Below w.heap.size w w' := by
  have HT := Aside0.mk hT
  have HREAD := Aside0.mk hread
  obtain ⟨A2, hm1, hm2, hm3⟩ := print_mid_of (P := Tryd.prog) (Value.int .u8) 0 22 5 .i64 .i64 Tryd.underlying22 (info_parts info5).choose_spec.1 (info_parts info5).choose_spec.2.2.1 A c l u (u + n) hu (by omega) hl hc
  obtain ⟨y, hy⟩ : ∃ y, (l.take (u + n).toNat).drop u.toNat = y := ⟨_, rfl⟩
  rw [hy] at hm1 hm2 hm3 hop
  have e1 : IntKind.i64.wrap (u + n) = u + n := IntWalk.i64_in _ (by omega)
  have e2 : IntKind.i64.wrap ((l.length : Int) - u) = (l.length : Int) - u := IntWalk.i64_in _ (by omega)
  have d1 : decide ((512 : Int) < n) = false := decide_eq_false (by omega)
  have d2 : decide ((l.length : Int) - u < n) = false := decide_eq_false (by omega)
  obtain ⟨m, hm0⟩ : ∃ m, u + n = m := ⟨_, rfl⟩
  rw [hm0] at hm1 ⊢
  try rw [hm0] at hm3
  replace e1 : IntKind.i64.wrap (u + n) = m := e1.trans hm0
  have HM := Aside0.mk (And.intro hm1 (And.intro hm2 hm3))
  have HO := Aside0.mk hop
  have HC := Aside0.mk hC
  have HC8 := Aside0.mk hc
  have HNUM := Aside0.mk hnum
  have HM0 := Aside0.mk hm0
  clear hT hC hc hm1 hm2 hm3 hy hop hread hnum hl hl2 hn hu hm0
  go_enter Tryd.func85, Tryd.ntmps85
  go_wp2_with (first
    | (go_at_call 125; refine (varint_Shortest.calls k A c l n u 0 _ (Kd.C_below HC.out ?_) HC8.out HNUM.out).mono ?_; (exact below_alloc (Below.refl _ _) _); rintro e w2 ⟨rfl, hb2⟩; have i2 : isRow w2 w.heap.size 37 = true := (by rw [isRow_below hb2 (by simp)]; first | (go_simp; done) | (simp [*]; done)); have HB2 := Aside0.mk (Below.trans (below_alloc (Below.refl w.heap.size w) _) (hb2.mono (by simp))); have hcut := HM.out.1 w2; have HLT := Aside0.mk (isRow_lt i2); clear hb2)
    | (go_at_call 126; refine (crc_Open.calls k A2 _ y body 0 w2 (Kd.C_of_reads (h1 := fun _ => rfl) (HM.out.2.1 w2 (Kd.reads_of_C (Kd.C_below HC.out HB2.out)))) HM.out.2.2 (HT.out.below HB2.out) HO.out).mono ?_; rintro e w3 ⟨v3, rfl, ho3, hb3⟩; obtain ⟨A3, c3, rfl⟩ := Kd.R_slice ho3; have i3 : isRow w3 w.heap.size 37 = true := (by rw [isRow_below hb3 HLT.out]; exact i2); have HB3 := Aside0.mk (below_step HB2.out hb3); have HR3 := Aside0.mk (Kd.R_reads' ho3); clear ho3 hb3)
    | (go_at_call 127; refine (HREAD.out A3 c3 w3 (HT.out.below HB3.out) HR3.out.2.2 HR3.out.2.1).mono ?_; rintro e w4 ⟨rfl, hb4⟩; have i4 : isRow w4 w.heap.size 37 = true := (by rw [isRow_below hb4 (isRow_lt i3)]; exact i3); have HB4 := Aside0.mk (below_step HB3.out hb4); have HLT4 := Aside0.mk (isRow_lt i4); have n4 : ¬ (w.heap.size = w4.heap.size) := (by have := isRow_lt i4; omega); clear hb4))
  refine bodyPost_ret (v := .tuple #[.agg (rcL r).toArray, .int .i64 m, .int .i64 0]) (res3 rfl rfl (lv_rc (by rw [rowAt_below (below_alloc (Below.refl _ _) _) (by simpa using HLT4.out), rowAt_setRow_same i4 _ _ _ (by decide), cut_rc])) rfl rfl) rfl ⟨rfl, below_alloc (below_setRow HB4.out (Nat.le_refl _) _) _⟩
set_option linter.unusedVariables false in
set_option maxHeartbeats 4000000 in
set_option maxRecDepth 100000 in
theorem First_short (k : Nat) (A : Option Addr) (c : Nat) (l : List Int) (w : World) (hC : Kd.C (Kd.int .u8) w A l.length l) (hc : l.length ≤ c) (hnum : varint_Shortest.f k l = some (0, 0, 3)) :
    Calls Tryd.prog 85 #[.slice A l.length c] w fun e w' => e = .returned (.tuple #[.agg (rcL Rc.zero).toArray, .int .i64 0, .int .i64 3]) ∧ Below w.heap.size w w' := by
  have HC := Aside0.mk hC
  have HC8 := Aside0.mk hc
  have HNUM := Aside0.mk hnum
  clear hC hc hnum
  go_enter Tryd.func85, Tryd.ntmps85
  go_wp2_with (go_at_call 125; refine (varint_Shortest.calls k A c l 0 0 3 _ (Kd.C_below HC.out ?_) HC8.out HNUM.out).mono ?_; (exact below_alloc (Below.refl _ _) _); rintro e w2 ⟨rfl, hb2⟩; have i2 : isRow w2 w.heap.size 37 = true := (by rw [isRow_below hb2 (by simp)]; first | (go_simp; done) | (simp [*]; done)); have HB2 := Aside0.mk (Below.trans (below_alloc (Below.refl w.heap.size w) _) (hb2.mono (by simp))); clear hb2)
  refine bodyPost_ret (v := .tuple #[.agg (rcL Rc.zero).toArray, .int .i64 0, .int .i64 3]) (res3 rfl rfl (lv_rc (by rw [rowAt_setRow_same i2 _ _ _ (by decide), cut_rc]; rfl)) rfl rfl) rfl ⟨rfl, below_setRow HB2.out (Nat.le_refl _) _⟩
set_option linter.unusedVariables false in
set_option maxHeartbeats 4000000 in
set_option maxRecDepth 100000 in
theorem First_long (k : Nat) (A : Option Addr) (c : Nat) (l : List Int) (n u : Int) (w : World) (hC : Kd.C (Kd.int .u8) w A l.length l) (hc : l.length ≤ c) (hnum : varint_Shortest.f k l = some (n, u, 0)) (hn : n ≤ 512) (hu : 0 ≤ u ∧ u ≤ l.length) (hl2 : l.length ≤ 1000000) (hl : (l.length : Int) - u < n) :
    Calls Tryd.prog 85 #[.slice A l.length c] w fun e w' => e = .returned (.tuple #[.agg (rcL Rc.zero).toArray, .int .i64 0, .int .i64 3]) ∧ Below w.heap.size w w' := by
  have HC := Aside0.mk hC
  have HC8 := Aside0.mk hc
  have HNUM := Aside0.mk hnum
  have e2 : IntKind.i64.wrap ((l.length : Int) - u) = (l.length : Int) - u := IntWalk.i64_in _ (by omega)
  have d1 : decide ((512 : Int) < n) = false := decide_eq_false (by omega)
  have d2 : decide ((l.length : Int) - u < n) = true := decide_eq_true hl
  clear hC hc hnum hn hu hl2 hl
  go_enter Tryd.func85, Tryd.ntmps85
  go_wp2_with (go_at_call 125; refine (varint_Shortest.calls k A c l n u 0 _ (Kd.C_below HC.out ?_) HC8.out HNUM.out).mono ?_; (exact below_alloc (Below.refl _ _) _); rintro e w2 ⟨rfl, hb2⟩; have i2 : isRow w2 w.heap.size 37 = true := (by rw [isRow_below hb2 (by simp)]; first | (go_simp; done) | (simp [*]; done)); have HB2 := Aside0.mk (Below.trans (below_alloc (Below.refl w.heap.size w) _) (hb2.mono (by simp))); clear hb2)
  refine bodyPost_ret (v := .tuple #[.agg (rcL Rc.zero).toArray, .int .i64 0, .int .i64 3]) (res3 rfl rfl (lv_rc (by rw [rowAt_setRow_same i2 _ _ _ (by decide), cut_rc]; rfl)) rfl rfl) rfl ⟨rfl, below_setRow HB2.out (Nat.le_refl _) _⟩
end Go.Proofs.YtiohgpcbdefokaaDoor.B
/- record.Scan of records that are whole, one behind the other, and of one that is cut. No condition. -/
namespace Go.Proofs.YtiohgpcbdefokaaDoor.B
open Go.RowKit Go.Proofs.YtiohgpcbdefokaaDoorW.PrintWords Go.Proofs.YtiohgpcbdefokaaDoor.RowLaws
attribute [local go_sem ↓ high] lvO_hs ldO_hs stO_hs lvO_pt ldO_pt stO_pt zero_pt eqA_pt lvO_ptR ldO_ptR stO_ptR zero_ptR eqA_ptR lvO_rc ldO_rc stO_rc zero_rc eqA_rc lvO_rcR ldO_rcR stO_rcR zero_rcR eqA_rcR lvO_tk ldO_tk stO_tk zero_tk eqA_tk lvO_tkR ldO_tkR stO_tkR zero_tkR eqA_tkR lvO_it ldO_it stO_it zero_it eqA_it blO_pt blO_ptR blO_rc blO_rcR blO_tk blO_tkR blO_it bsO_pt bsO_ptR bsO_rc bsO_rcR bsO_it
attribute [local go_sem high] rowAt_setCell rowAt_setRow cell_setRow_ne isRow_setRow_ne rowAt_alloc rowAt_drew isRow_alloc isRow_drew isRow_setCell rowRun_some okL_hs ldV_hs ldA_hs stA_hs setRow_alloc get_pt_id get_pt_path cut_pt_sum get_pt_size get_pt_off cut_pt okL_pt size_pt lenb_pt eta_pt ldV_pt ldA_pt stA_pt ldV_ptR ldA_ptR stA_ptR get_rc_kind get_rc_id get_rc_path cut_rc_sum get_rc_size get_rc_off cut_rc okL_rc size_rc lenb_rc eta_rc ldV_rc ldA_rc stA_rc ldV_rcR ldA_rcR stA_rcR get_tk_path cut_tk_sum get_tk_size get_tk_off cut_tk_old cut_tk okL_tk size_tk lenb_tk eta_tk ldV_tk ldA_tk stA_tk ldV_tkR ldA_tkR stA_tkR get_it_path get_it_dir get_it_size cut_it_sum cut_it okL_it size_it lenb_it eta_it ldV_it ldA_it stA_it bld_pt_01234 bld_pt_0123 bld_pt_z bld_ptR_01234 bld_ptR_0123 bld_ptR_z bld_rc_012345 bld_rc_015 bld_rc_01 bld_rc_z bld_rc_01234 bld_rc_24 bld_rc_05 bld_rc_0 bld_rcR_012345 bld_rcR_015 bld_rcR_01 bld_rcR_z bld_rcR_01234 bld_rcR_24 bld_rcR_05 bld_rcR_0 bld_tk_01234 bld_tk_0 bld_tk_z bld_tkR_01234 bld_tkR_0 bld_tkR_z bld_it_0123 bld_it_023 bld_it_01 bld_it_0 bld_it_z bs0_pt bs1_pt bs0_ptR bs1_ptR bs0_rc bs1_rc bs0_rcR bs1_rcR bs0_it bs1_it
def FirstOK (l : List Int) (r : Rc) (m : Int) : Prop := ∀ (A : Option Addr) (c : Nat) (w : World), TabOK w → Kd.C (Kd.int .u8) w A l.length l → l.length ≤ c →
  Calls Tryd.prog 85 #[.slice A l.length c] w fun e w' => e = .returned (.tuple #[.agg (rcL r).toArray, .int .i64 m, .int .i64 0]) ∧ Below w.heap.size w w'
def FirstBad (l : List Int) : Prop := ∀ (A : Option Addr) (c : Nat) (w : World), Kd.C (Kd.int .u8) w A l.length l → l.length ≤ c →
  Calls Tryd.prog 85 #[.slice A l.length c] w fun e w' => e = .returned (.tuple #[.agg (rcL Rc.zero).toArray, .int .i64 0, .int .i64 3]) ∧ Below w.heap.size w w'
/-- The records rs stand in l from pos 0 on, one behind the other. -/
structure Firsts (l : List Int) (rs : List Rc) (pos : Nat → Nat) : Prop where
  zero : pos 0 = 0
  at_ : ∀ k (h : k < rs.length), pos k < pos (k + 1) ∧ pos (k + 1) ≤ l.length ∧ FirstOK (l.drop (pos k)) rs[k] ((pos (k + 1) : Int) - (pos k : Int))
set_option linter.unusedVariables false in
set_option maxHeartbeats 4000000 in
set_option maxRecDepth 100000 in
theorem ScanG_calls (A : Option Addr) (c : Nat) (l : List Int) (rs : List Rc) (pos : Nat → Nat) (E : Int) (w : World) (hT : TabOK w) (hC : Kd.C (Kd.int .u8) w A l.length l) (hc : l.length ≤ c) (hl : l.length ≤ 1000000) (hrs : rs.length ≤ 1000) (hF : Firsts l rs pos)
    (hE : (pos rs.length = l.length ∧ E = 0) ∨ (pos rs.length < l.length ∧ E = 3 ∧ FirstBad (l.drop (pos rs.length)))) :
    Calls Tryd.prog 35 #[.slice A l.length c] w fun e w' => ∃ v : Value, e = .returned (.tuple #[v, .int .i64 (pos rs.length : Nat), .int .i64 E]) ∧ Kd.R kRc 51 w' w.heap.size (fun _ => True) v rs ∧ Below w.heap.size w w' := by
  have HT := Aside0.mk hT
  have HF := Aside0.mk hF
  have HC := Aside0.mk hC
  have HC8 := Aside0.mk hc
  have HE := Aside0.mk hE
  have HLL := Aside0.mk hl
  have HRS := Aside0.mk hrs
  clear hT hC hc hF hE hl hrs
  go_enter Tryd.func35, Tryd.ntmps35
  go_wp2
  go_loopw [5, 6] (fun ov av wr => ∃ (k : Nat) (A3 : Option Addr) (c3 : Nat), k ≤ rs.length ∧ ov = .slice A3 k c3 ∧ av = .int .i64 (pos k : Nat) ∧ Aside0 (Below w.heap.size w wr) ∧ Aside0 (Kd.R kRc 51 wr w.heap.size (fun _ => True) (.slice A3 k c3) (rs.take k))) (fun _ av _ => l.length - (intOf av).toNat)
  case atStart => exact ⟨0, none, 0, Nat.zero_le _, rfl, by rw [HF.out.zero]; rfl, ⟨Below.refl _ _⟩, ⟨Kd.R_nil _ _ _ _ _⟩⟩
  case round =>
    obtain ⟨k, A3, c3, hk, rfl, rfl, HB, HR⟩ := hrel
    by_cases hlt : k < rs.length
    · obtain ⟨f1, f2, f3⟩ := HF.out.at_ k hlt
      have HFO := Aside0.mk f3
      have HTK := Aside0.mk (show rs.take (k + 1) = rs.take k ++ [rs[k]] from List.take_succ_eq_append_getElem hlt)
      obtain ⟨r, hr⟩ : ∃ r, r = rs[k] := ⟨_, rfl⟩
      rw [← hr] at HFO HTK
      obtain ⟨p, hp⟩ : ∃ p, pos k = p := ⟨_, rfl⟩
      obtain ⟨q, hq⟩ : ∃ q, pos (k + 1) = q := ⟨_, rfl⟩
      have HP := Aside0.mk hp
      have HQ := Aside0.mk hq
      rw [hp, hq] at HFO
      rw [hp, hq] at f1
      rw [hq] at f2
      rw [hp]
      have d1 : p < l.length := by omega
      have d2 : (p : Int) < (l.length : Int) := by omega
      obtain ⟨A2, hm1, hm2, hm3⟩ := print_drop_of (P := Tryd.prog) (Value.int .u8) 0 22 5 .i64 Tryd.underlying22 (info_parts info5).choose_spec.1 (info_parts info5).choose_spec.2.2.1 A c l (p : Int) (by omega) (by omega) HC8.out
      rw [Int.toNat_natCast] at hm1 hm2 hm3
      have hcut := hm1 wr
      have HM := Aside0.mk (And.intro hm2 hm3)
      have e1 : IntKind.i64.wrap ((p : Int) + ((q : Int) - (p : Int))) = (q : Int) := (IntWalk.i64_in _ (by have := HLL.out; omega)).trans (by omega)
      have HTL := Aside0.mk (show (rs.take (k + 1)).length = k + 1 by rw [List.length_take]; omega)
      have HTL0 := Aside0.mk (show (rs.take k).length = k by rw [List.length_take]; omega)
      have HK := Aside0.mk (And.intro hlt (And.intro f1 f2))
      clear f1 f2 f3 hr hp hq hm1 hm2 hm3
      obtain ⟨Y, hY⟩ : ∃ Y, l.drop p = Y := ⟨_, rfl⟩
      rw [hY] at HFO HM hcut
      clear hY
      go_wp2_with (first
        | (go_at_call 85; refine (HFO.out A2 _ _ (HT.out.below HB.out) (Kd.C_of_reads (h1 := fun _ => rfl) (HM.out.1 wr (Kd.reads_of_C (Kd.C_below HC.out HB.out)))) HM.out.2).mono ?_; rintro e w2 ⟨rfl, hb2⟩; have HB2 := Aside0.mk (below_step HB.out hb2); have HR2 := Aside0.mk (Kd.R_below (Kd.R_below HR.out hb2) (below_alloc (Below.refl w2.heap.size w2) (.cells (rcL r).toArray 51))); clear hb2)
        | ((with_reducible refine gate_builtin (b := .append) (xs := #[.tmp 27, .tmp 29]) rfl ?_); at_builtin; refine Kd.R_append kRc (w0 := w) w.heap.size rfl (.tmp 27) (.tmp 29) 57 51 _ 80 rfl Tryd.underlying57 infoRc zcRc (by decide) (by decide) (.slice A3 k c3) (rs.take k) r (rcL r) (fun _ => True) (fun _ => False) rfl ?aX rfl (fun _ h => h.elim) (fun _ _ => trivial) HR2.out ?aB ?aS ?aL ?_; (case aX => rw [World.size_alloc]; rfl); (case aB => exact below_alloc HB2.out _); (case aS => have h_ := HB2.out.size; simp; omega); (case aL => rw [HTL0.out]; have := HRS.out; have := HK.out.1; omega); intro v5 w5 ho5 hb5 hg5 hat5; rw [← HTK.out] at ho5; obtain ⟨A5, c5, rfl⟩ := Kd.R_slice ho5; rw [HTL.out] at ho5 ⊢; have HO5 := Aside0.mk ho5; have HB5 := Aside0.mk hb5; clear ho5 hb5 hg5 hat5))
      go_roundw
      case rel => exact ⟨k + 1, A5, c5, HK.out.1, rfl, by rw [HQ.out], HB5, HO5⟩
      case measure => simp [intOf]; have := HK.out; omega
    · have hk2 : k = rs.length := by omega
      subst hk2
      have HRX := Aside0.mk (show Kd.R kRc 51 wr w.heap.size (fun _ => True) (.slice A3 rs.length c3) rs by have h := HR.out; rw [List.take_length] at h; exact h)
      obtain ⟨p, hp⟩ : ∃ p, pos rs.length = p := ⟨_, rfl⟩
      have HE2 := HE.out
      have HP := Aside0.mk hp
      rw [hp] at HE2 ⊢
      rcases HE2 with ⟨h1, rfl⟩ | ⟨h1, rfl, h3⟩
      · have d1 : ¬ p < l.length := by omega
        have d2 : ¬ (p : Int) < (l.length : Int) := by omega
        clear hp h1
        go_wp2
        go_ret3
        exact ⟨_, by rw [HP.out]; rfl, HRX.out, HB.out⟩
      · have HFB := Aside0.mk h3
        have d1 : p < l.length := by omega
        have d2 : (p : Int) < (l.length : Int) := by omega
        obtain ⟨A2, hm1, hm2, hm3⟩ := print_drop_of (P := Tryd.prog) (Value.int .u8) 0 22 5 .i64 Tryd.underlying22 (info_parts info5).choose_spec.1 (info_parts info5).choose_spec.2.2.1 A c l (p : Int) (by omega) (by omega) HC8.out
        rw [Int.toNat_natCast] at hm1 hm2 hm3
        have hcut := hm1 wr
        have HM := Aside0.mk (And.intro hm2 hm3)
        clear hp h1 h3 hm1 hm2 hm3
        obtain ⟨Y, hY⟩ : ∃ Y, l.drop p = Y := ⟨_, rfl⟩
        rw [hY] at HFB HM hcut
        clear hY
        go_wp2_with (go_at_call 85; refine (HFB.out A2 _ _ (Kd.C_of_reads (h1 := fun _ => rfl) (HM.out.1 wr (Kd.reads_of_C (Kd.C_below HC.out HB.out)))) HM.out.2).mono ?_; rintro e w2 ⟨rfl, hb2⟩; have HB2 := Aside0.mk (below_step HB.out hb2); have HR2 := Aside0.mk (Kd.R_below (Kd.R_below HRX.out hb2) (below_alloc (Below.refl w2.heap.size w2) (.cells (rcL Rc.zero).toArray 51))); clear hb2)
        go_ret3
        exact ⟨_, by rw [HP.out]; rfl, HR2.out, below_alloc HB2.out _⟩
end Go.Proofs.YtiohgpcbdefokaaDoor.B
/- Records put one behind the other are told by record.first as they were; a cut one is told to be cut. No condition. -/
namespace Go.Proofs.YtiohgpcbdefokaaDoor.B
open Go.RowKit Go.Proofs.YtiohgpcbdefokaaDoorW.PrintWords Go.Proofs.YtiohgpcbdefokaaDoor.RowLaws
/-- A record that may be, of a kind that is none below the first. -/
def OkR (r : Rc) : Prop := chkE r = 0 ∧ 0 ≤ r.kind
theorem read_ok {r : Rc} (h : OkR r) : ReadOK (bodyL r) r := by
  obtain ⟨hc, hk⟩ := h
  have hf := chk_facts hc
  have hid := hf.id
  have hki := hf.kind
  by_cases h0 : r.kind = 0
  · have hb := hf.beg h0
    have e : bodyL r = 0 :: (numL r.id ++ ((numL (r.path.size : Int) ++ bytesOf r.path) ++ (hsN r.sum ++ numL r.size))) := by unfold bodyL tailL; rw [if_pos h0, h0]; rfl
    have er : r = ⟨0, r.id, r.path, r.sum, r.size, 0⟩ := by
      have hz := hf.zero (by omega)
      cases r; simp_all
    have hn1 := numL_len r.id
    have hn2 := numL_len (r.path.size : Int)
    have hn3 := numL_len r.size
    have hbl := bytesOf_len r.path
    have hhs := hsN_len r.sum
    intro A c w hT hC hcl
    rw [e] at hC hcl ⊢
    have hq := ReadBegin_calls 40 A c (numL r.id ++ ((numL (r.path.size : Int) ++ bytesOf r.path) ++ (hsN r.sum ++ numL r.size))) ((numL (r.path.size : Int) ++ bytesOf r.path) ++ (hsN r.sum ++ numL r.size)) (hsN r.sum ++ numL r.size) (numL r.size)
      r.id ((numL r.id).length : Nat) (r.path.size : Int) ((numL (r.path.size : Int)).length : Nat) r.size ((numL r.size).length : Nat) r.path r.sum w hT hC hcl
      (short_up _ _ (short_num r.id _ (by omega) (by omega)) 40 (by decide)) (by simp only [List.length_append]; omega) (by omega) (by rw [Int.toNat_natCast, List.drop_left])
      (by rw [List.append_assoc]; exact short_up _ _ (short_num _ _ (by omega) (by omega)) 40 (by decide)) (by simp only [List.length_append]; omega) (by simp only [List.length_append]; omega) (by omega) (by omega)
      (by rw [Int.toNat_natCast, List.append_assoc, List.drop_left]; simp only [List.length_append]; omega)
      (by simp only [Int.toNat_natCast, List.append_assoc, List.drop_left]; rw [← hbl, List.take_left]; exact nums_bytes _)
      (by simp only [Int.toNat_natCast, List.append_assoc, List.drop_left]; rw [← hbl, List.drop_left])
      (by unfold rawF; rw [if_pos rfl, if_neg (by decide), if_neg (by simp only [List.length_append]; omega), show ((32 : Int)).toNat = (hsN r.sum).length by rw [hhs]; rfl, List.take_left, List.drop_left])
      (by have := short_up _ _ (short_num r.size [] (by omega) (by omega)) 40 (by decide); rwa [List.append_nil] at this) (by omega) (by omega) (by rw [Int.toNat_natCast, List.drop_length])
      (by rw [← er]; exact hc)
    rw [← er] at hq
    exact hq
  · by_cases h1 : r.kind = 1
    · have ho := hf.off
      have e : bodyL r = 1 :: (numL r.id ++ numL r.off) := by unfold bodyL tailL; rw [if_neg h0, if_pos h1, h1]; rfl
      have er : r = ⟨1, r.id, ByteArray.empty, Hs.zero, 0, r.off⟩ := by
        have hz := hf.bare h0
        unfold bareRc at hz
        rw [h1] at hz
        exact hz
      have hn1 := numL_len r.id
      have hn3 := numL_len r.off
      intro A c w hT hC hcl
      rw [e] at hC hcl ⊢
      have hq := ReadMark_calls 40 A c (numL r.id ++ numL r.off) r.id ((numL r.id).length : Nat) r.off ((numL r.off).length : Nat) w hT hC hcl
        (short_up _ _ (short_num r.id _ (by omega) (by omega)) 40 (by decide)) (by simp only [List.length_append]; omega) (by omega)
        (by rw [Int.toNat_natCast, List.drop_left]; have := short_up _ _ (short_num r.off [] (by omega) (by omega)) 40 (by decide); rwa [List.append_nil] at this)
        (by rw [Int.toNat_natCast, List.drop_left]; omega) (by omega) (by simp only [Int.toNat_natCast, List.drop_left, List.drop_length])
        (by rw [← er]; exact hc)
      rw [← er] at hq
      exact hq
    · have e : bodyL r = r.kind :: numL r.id := by unfold bodyL tailL; rw [if_neg h0, if_neg h1, List.append_nil]; rfl
      have er : r = ⟨r.kind, r.id, ByteArray.empty, Hs.zero, 0, 0⟩ := by
        have hz := hf.bare h0
        unfold bareRc at hz
        rw [hf.zero h1] at hz
        exact hz
      have hn1 := numL_len r.id
      intro A c w hT hC hcl
      rw [e] at hC hcl ⊢
      have hq := ReadBare_calls 40 A c (numL r.id) r.kind r.id ((numL r.id).length : Nat) w hT hC hcl
        (by have := short_up _ _ (short_num r.id [] (by omega) (by omega)) 40 (by decide); rwa [List.append_nil] at this) (by omega) (by omega) (by omega)
        (by rw [Int.toNat_natCast, List.drop_length])
        (by rw [← er]; exact hc)
      rw [← er] at hq
      exact hq
theorem putL_le {r : Rc} (h : OkR r) : (putL r).length ≤ 240 := by
  have hf := chk_facts h.1
  have := bodyL_len hf
  have := numL_len (((bodyL r).length + 4 : Nat) : Int)
  rw [putL_len hf h.2]; omega
theorem first_put {r : Rc} (h : OkR r) (rest : List Int) (hl : (putL r ++ rest).length ≤ 1000000) : FirstOK (putL r ++ rest) r ((putL r).length : Nat) := by
  have hf := chk_facts h.1
  have hb := bodyL_len hf
  have hpl := putL_len hf h.2
  intro A c w hT hC hc
  have hq := First_ok 40 A c (putL r ++ rest) (bodyL r) (((bodyL r).length + 4 : Nat) : Int) ((numL (((bodyL r).length + 4 : Nat) : Int)).length : Nat) r w hT hC hc (short_put hf h.2 rest 40 (by decide)) (by omega) (by omega)
    (by rw [List.length_append]; omega) hl
    (by
      rw [show (((numL (((bodyL r).length + 4 : Nat) : Int)).length : Nat) : Int) + (((bodyL r).length + 4 : Nat) : Int) = (((putL r).length : Nat) : Int) by omega, Int.toNat_natCast, Int.toNat_natCast, putL_mid hf h.2 rest]
      exact open_seal 40 _ (by omega) (by decide)) (read_ok h)
  rw [show (((numL (((bodyL r).length + 4 : Nat) : Int)).length : Nat) : Int) + (((bodyL r).length + 4 : Nat) : Int) = (((putL r).length : Nat) : Int) by omega] at hq
  exact hq
theorem first_cut {r : Rc} (h : OkR r) (j : Nat) (hj : j < (putL r).length) : FirstBad ((putL r).take j) := by
  have hf := chk_facts h.1
  have hb := bodyL_len hf
  have hle := putL_le h
  intro A c w hC hc
  rcases short_cutP hf h.2 j hj 40 (by decide) with hs | ⟨u, hs, hu, hl, hd⟩
  · exact First_short 40 A c _ w hC hc hs
  · exact First_long 40 A c _ _ u w hC hc hs (by omega) (by omega) (by omega) (by omega)
/-- Where the records of a list end, one put behind the other. -/
def pos (rs : List Rc) (j : Nat) : Nat := ((rs.take j).map putL).flatten.length
def allL (rs : List Rc) : List Int := (rs.map putL).flatten
theorem pos_zero (rs : List Rc) : pos rs 0 = 0 := rfl
theorem pos_all (rs : List Rc) : pos rs rs.length = (allL rs).length := by unfold pos allL; rw [List.take_length]
theorem all_app (rs : List Rc) (r : Rc) : allL (rs ++ [r]) = allL rs ++ putL r := by simp [allL]
theorem pos_succ {rs : List Rc} {j : Nat} (h : j < rs.length) : pos rs (j + 1) = pos rs j + (putL rs[j]).length := by
  unfold pos
  rw [List.take_succ_eq_append_getElem h]
  simp only [List.map_append, List.map_cons, List.map_nil, List.flatten_append, List.flatten_cons, List.flatten_nil, List.append_nil, List.length_append]
theorem all_split {rs : List Rc} {j : Nat} (h : j < rs.length) : allL rs = ((rs.take j).map putL).flatten ++ (putL rs[j] ++ ((rs.drop (j + 1)).map putL).flatten) := by
  have e : rs = rs.take j ++ (rs[j] :: rs.drop (j + 1)) := by rw [← List.drop_eq_getElem_cons h, List.take_append_drop]
  unfold allL
  conv => lhs; rw [e]
  simp only [List.map_append, List.map_cons, List.flatten_append, List.flatten_cons]
theorem drop_pos {rs : List Rc} {j : Nat} (h : j < rs.length) : (allL rs).drop (pos rs j) = putL rs[j] ++ ((rs.drop (j + 1)).map putL).flatten := by
  rw [all_split h]; exact List.drop_left
theorem pos_mono {rs : List Rc} : ∀ {i j : Nat}, i ≤ j → j ≤ rs.length → pos rs i ≤ pos rs j := by
  intro i j hij hj
  induction j with
  | zero => have : i = 0 := by omega
            subst this; exact Nat.le_refl _
  | succ j ih =>
    rcases Nat.lt_or_ge i (j + 1) with h | h
    · have := ih (by omega) (by omega)
      rw [pos_succ (by omega)]; omega
    · have : i = j + 1 := by omega
      subst this; exact Nat.le_refl _
theorem all_len {rs : List Rc} (h : ∀ r ∈ rs, OkR r) : (allL rs).length ≤ 240 * rs.length := by
  induction rs with
  | nil => simp [allL]
  | cons r rs ih =>
    have h1 := putL_le (h r (by simp))
    have h2 := ih (fun x hx => h x (List.mem_cons_of_mem _ hx))
    have : allL (r :: rs) = putL r ++ allL rs := by simp [allL]
    rw [this, List.length_append, List.length_cons]; omega
/-- All records of a list, or those that stand ahead of a cut. -/
theorem firsts_cut {rs : List Rc} (h : ∀ r ∈ rs, OkR r) (hl : rs.length ≤ 1000) (m kk : Nat) (hm : m ≤ rs.length) (hk : pos rs m ≤ kk) (hk2 : kk ≤ (allL rs).length) : Firsts ((allL rs).take kk) (rs.take m) (pos rs) := by
  have hal := all_len h
  refine ⟨rfl, fun k hk1 => ?_⟩
  have hkm : k < m := by rw [List.length_take] at hk1; omega
  have hkl : k < rs.length := by omega
  have hs := pos_succ hkl
  have hp := putL_pos (chk_facts (h rs[k] (List.getElem_mem hkl)).1) (h rs[k] (List.getElem_mem hkl)).2
  have hmo := pos_mono (rs := rs) (i := k + 1) (j := m) (by omega) hm
  refine ⟨by omega, by rw [List.length_take]; omega, ?_⟩
  have e : ((allL rs).take kk).drop (pos rs k) = putL rs[k] ++ (((rs.drop (k + 1)).map putL).flatten.take (kk - pos rs (k + 1))) := by
    rw [List.drop_take, drop_pos hkl, List.take_append, List.take_of_length_le (by omega)]
    congr 2
    omega
  rw [e, List.getElem_take]
  have hq := first_put (h rs[k] (List.getElem_mem hkl)) (((rs.drop (k + 1)).map putL).flatten.take (kk - pos rs (k + 1))) (by
    rw [← e, List.length_drop, List.length_take]; omega)
  rw [show (((pos rs (k + 1) : Nat) : Int) - ((pos rs k : Nat) : Int)) = (((putL rs[k]).length : Nat) : Int) by omega]
  exact hq
theorem firsts_bad {rs : List Rc} (h : ∀ r ∈ rs, OkR r) (m kk : Nat) (hm : m < rs.length) (hk : pos rs m < kk) (hk2 : kk < pos rs (m + 1)) : FirstBad (((allL rs).take kk).drop (pos rs m)) := by
  have hs := pos_succ hm
  have e : ((allL rs).take kk).drop (pos rs m) = (putL rs[m]).take (kk - pos rs m) := by
    rw [List.drop_take, drop_pos hm, List.take_append_of_le_length (by omega)]
  rw [e]
  exact first_cut (h rs[m] (List.getElem_mem hm)) _ (by omega)
end Go.Proofs.YtiohgpcbdefokaaDoor.B
/- A record of the one side is a record of the other. No condition. -/
namespace Go.Proofs.YtiohgpcbdefokaaDoor.B
open Go.RowKit Go.Proofs.YtiohgpcbdefokaaDoorW.PrintWords
attribute [local go_sem ↓ high] lvO_hs ldO_hs stO_hs lvO_pt ldO_pt stO_pt zero_pt eqA_pt lvO_ptR ldO_ptR stO_ptR zero_ptR eqA_ptR lvO_rc ldO_rc stO_rc zero_rc eqA_rc lvO_rcR ldO_rcR stO_rcR zero_rcR eqA_rcR lvO_tk ldO_tk stO_tk zero_tk eqA_tk lvO_tkR ldO_tkR stO_tkR zero_tkR eqA_tkR lvO_it ldO_it stO_it zero_it eqA_it blO_pt blO_ptR blO_rc blO_rcR blO_tk blO_tkR blO_it bsO_pt bsO_ptR bsO_rc bsO_rcR bsO_it
attribute [local go_sem high] rowAt_setCell rowAt_setRow cell_setRow_ne isRow_setRow_ne rowAt_alloc rowAt_drew isRow_alloc isRow_drew isRow_setCell rowRun_some okL_hs ldV_hs ldA_hs stA_hs setRow_alloc get_pt_id get_pt_path cut_pt_sum get_pt_size get_pt_off cut_pt okL_pt size_pt lenb_pt eta_pt ldV_pt ldA_pt stA_pt ldV_ptR ldA_ptR stA_ptR get_rc_kind get_rc_id get_rc_path cut_rc_sum get_rc_size get_rc_off cut_rc okL_rc size_rc lenb_rc eta_rc ldV_rc ldA_rc stA_rc ldV_rcR ldA_rcR stA_rcR get_tk_path cut_tk_sum get_tk_size get_tk_off cut_tk_old cut_tk okL_tk size_tk lenb_tk eta_tk ldV_tk ldA_tk stA_tk ldV_tkR ldA_tkR stA_tkR get_it_path get_it_dir get_it_size cut_it_sum cut_it okL_it size_it lenb_it eta_it ldV_it ldA_it stA_it bld_pt_01234 bld_pt_0123 bld_pt_z bld_ptR_01234 bld_ptR_0123 bld_ptR_z bld_rc_012345 bld_rc_015 bld_rc_01 bld_rc_z bld_rc_01234 bld_rc_24 bld_rc_05 bld_rc_0 bld_rcR_012345 bld_rcR_015 bld_rcR_01 bld_rcR_z bld_rcR_01234 bld_rcR_24 bld_rcR_05 bld_rcR_0 bld_tk_01234 bld_tk_0 bld_tk_z bld_tkR_01234 bld_tkR_0 bld_tkR_z bld_it_0123 bld_it_023 bld_it_01 bld_it_0 bld_it_z bs0_pt bs1_pt bs0_ptR bs1_ptR bs0_rc bs1_rc bs0_rcR bs1_rcR bs0_it bs1_it
set_option maxRecDepth 100000 in
set_option maxHeartbeats 4000000 in
theorem own_calls (r : Rc) (w : World) :
    Calls Tryd.prog 24 #[.agg (rcL r).toArray] w fun e w' => e = .returned (.agg (rcL r).toArray) ∧ Below w.heap.size w w' := by
  go_enter Tryd.func24, Tryd.ntmps24
  go_wp2
  exact bodyPost_ret (v := .agg (rcL r).toArray) (res1 rfl rfl (lv_rc (by simp [rowAt_alloc, cut_rc]))) rfl ⟨rfl, below_alloc (below_alloc (Below.refl _ _) _) _⟩
set_option maxRecDepth 100000 in
set_option maxHeartbeats 4000000 in
theorem as_calls (r : Rc) (w : World) :
    Calls Tryd.prog 86 #[.agg (rcL r).toArray] w fun e w' => e = .returned (.agg (rcL r).toArray) ∧ Below w.heap.size w w' := by
  go_enter Tryd.func86, Tryd.ntmps86
  go_wp2
  exact bodyPost_ret (v := .agg (rcL r).toArray) (res1 rfl rfl (lv_rcR (by simp [rowAt_alloc, cut_rc]))) rfl ⟨rfl, below_alloc (below_alloc (Below.refl _ _) _) _⟩
end Go.Proofs.YtiohgpcbdefokaaDoor.B
/- slices.Delete of one part of a row of the call's own. No condition. -/
namespace Go.Proofs.YtiohgpcbdefokaaDoor.B
open Go.RowKit Go.Proofs.YtiohgpcbdefokaaDoorW.PrintWords Go.Proofs.YtiohgpcbdefokaaDoor.RowLaws
attribute [local go_sem ↓ high] lvO_hs ldO_hs stO_hs lvO_pt ldO_pt stO_pt zero_pt eqA_pt lvO_ptR ldO_ptR stO_ptR zero_ptR eqA_ptR lvO_rc ldO_rc stO_rc zero_rc eqA_rc lvO_rcR ldO_rcR stO_rcR zero_rcR eqA_rcR lvO_tk ldO_tk stO_tk zero_tk eqA_tk lvO_tkR ldO_tkR stO_tkR zero_tkR eqA_tkR lvO_it ldO_it stO_it zero_it eqA_it blO_pt blO_ptR blO_rc blO_rcR blO_tk blO_tkR blO_it bsO_pt bsO_ptR bsO_rc bsO_rcR bsO_it
attribute [local go_sem high] rowAt_setCell rowAt_setRow cell_setRow_ne isRow_setRow_ne rowAt_alloc rowAt_drew isRow_alloc isRow_drew isRow_setCell rowRun_some okL_hs ldV_hs ldA_hs stA_hs setRow_alloc get_pt_id get_pt_path cut_pt_sum get_pt_size get_pt_off cut_pt okL_pt size_pt lenb_pt eta_pt ldV_pt ldA_pt stA_pt ldV_ptR ldA_ptR stA_ptR get_rc_kind get_rc_id get_rc_path cut_rc_sum get_rc_size get_rc_off cut_rc okL_rc size_rc lenb_rc eta_rc ldV_rc ldA_rc stA_rc ldV_rcR ldA_rcR stA_rcR get_tk_path cut_tk_sum get_tk_size get_tk_off cut_tk_old cut_tk okL_tk size_tk lenb_tk eta_tk ldV_tk ldA_tk stA_tk ldV_tkR ldA_tkR stA_tkR get_it_path get_it_dir get_it_size cut_it_sum cut_it okL_it size_it lenb_it eta_it ldV_it ldA_it stA_it bld_pt_01234 bld_pt_0123 bld_pt_z bld_ptR_01234 bld_ptR_0123 bld_ptR_z bld_rc_012345 bld_rc_015 bld_rc_01 bld_rc_z bld_rc_01234 bld_rc_24 bld_rc_05 bld_rc_0 bld_rcR_012345 bld_rcR_015 bld_rcR_01 bld_rcR_z bld_rcR_01234 bld_rcR_24 bld_rcR_05 bld_rcR_0 bld_tk_01234 bld_tk_0 bld_tk_z bld_tkR_01234 bld_tkR_0 bld_tkR_z bld_it_0123 bld_it_023 bld_it_01 bld_it_0 bld_it_z bs0_pt bs1_pt bs0_ptR bs1_ptR bs0_rc bs1_rc bs0_rcR bs1_rcR bs0_it bs1_it
theorem szPt : (Tryd.prog.info? 75).map (·.size) = some 36 := by kernel_rfl
theorem zcPt : (Value.agg (ptL Pt.zero).toArray).cells.size = 36 := by simp [Value.cells, ptL_len]
theorem zoPt : ∀ u ∈ (Value.agg (ptL Pt.zero).toArray).cells.toList, u.oneCell' = true := by simp only [Value.cells]; exact ptL_one _
/-- What lies behind a row's length may turn. -/
theorem R_tail {W W' : World} {B g n c : Nat} {ok : Nat → Prop} {l : List Pt} (h : Kd.R kPt 75 W B ok (.slice (some ⟨g, 0, none⟩) n c) l) {cur : List Value} {off : Nat} {Z : List Value} (hg : W.heap[g]? = some (.cells cur.toArray 75 (0, 0)))
    (hg' : W'.heap[g]? = some (.cells (splice cur off Z).toArray 75 (0, 0))) (hoff : n * 36 ≤ off) (hfit : off + Z.length ≤ cur.length) : Kd.R kPt 75 W' B ok (.slice (some ⟨g, 0, none⟩) n c) l := by
  obtain ⟨h0, inner, h1, h2⟩ := h
  refine ⟨h0, inner, ⟨h1.1, ?_⟩, h2⟩
  rcases h1.2 with ⟨hv, _⟩ | ⟨g', cap', cur', hv, hb, hh, hnc, hcm, hcs, ht⟩
  · cases hv
  injection hv with ha hn hc
  injection ha with ha
  injection ha with ha
  subst ha hc
  have hl : n = l.length := hn
  rw [hg] at hh
  injection hh with hh
  injection hh with hh
  subst hh
  refine .inr ⟨g, c, (splice cur off Z).toArray, by rw [hl], hb, hg', hnc, hcm, ?_, ?_⟩
  · have : cur.length = c * 36 := by simpa [kPt, flat] using hcs
    simp only [List.size_toArray]
    rw [length_splice _ _ _ hfit, this]; rfl
  · have e : (splice cur off Z).toArray.toList.take (l.length * kPt.sz) = cur.toArray.toList.take (l.length * kPt.sz) := by
      have hz : l.length * kPt.sz ≤ off := by rw [← hl]; exact hoff
      simp only [splice]
      rw [List.take_append_of_le_length (by simp; omega), List.take_take, Nat.min_eq_left hz]
    rw [e]; exact ht
theorem R_block {W : World} {B g n c : Nat} {ok : Nat → Prop} {l : List Pt} (h : Kd.R kPt 75 W B ok (.slice (some ⟨g, 0, none⟩) n c) l) : n = l.length ∧ n ≤ c ∧ B ≤ g ∧ ∃ cur : List Value, W.heap[g]? = some (.cells cur.toArray 75 (0, 0)) ∧ cur.length = c * 36 ∧ c ≤ maxLen := by
  obtain ⟨h0, inner, h1, h2⟩ := h
  rcases h1.2 with ⟨hv, _⟩ | ⟨g', cap', cur', hv, hb, hh, hnc, hcm, hcs, ht⟩
  · cases hv
  injection hv with ha hn hc
  injection ha with ha
  injection ha with ha
  subst ha hc
  exact ⟨hn, by rw [hn]; exact hnc, hb, cur'.toList, by simpa using hh, by simpa [kPt, flat] using hcs, hcm⟩
set_option maxHeartbeats 4000000 in
set_option maxRecDepth 100000 in
theorem Delete_calls (g m c i B : Nat) (ok : Nat → Prop) (l : List Pt) (w : World) (hO : Kd.R kPt 75 w B ok (.slice (some ⟨g, 0, none⟩) (m + 1) c) l) (hi : i ≤ m) (hn : m + 1 ≤ 1000) (hB : B ≤ w.heap.size) :
    Calls Tryd.prog 83 #[.slice (some ⟨g, 0, none⟩) (m + 1) c, .int .i64 (i : Int), .int .i64 ((i : Int) + 1)] w fun e w' => e = .returned (.slice (some ⟨g, 0, none⟩) m c) ∧ Kd.R kPt 75 w' B ok (.slice (some ⟨g, 0, none⟩) m c) (l.eraseIdx i) ∧ Only g w w' := by
  obtain ⟨hnl, hnc, hBg, _⟩ := R_block hO
  have HL := Aside0.mk hnl
  have HO := Aside0.mk hO
  clear hO hnl
  have hw2 : (0 : Int) ≤ (i : Int) + 1 := by omega
  have hw3 : ((i : Int) + 1).toNat = i + 1 := by omega
  have hw4 : (i : Int) + 1 ≤ (m : Int) + 1 := by omega
  have hw5 : ((i : Int) == (i : Int) + 1) = false := by simp; omega
  have hw6 : (i : Int) ≤ (m : Int) + 1 := by omega
  have hw7 : i ≤ c := by omega
  have hw8 : i + 1 ≤ m + 1 := by omega
  have hw9 : (i : Int) ≤ (c : Int) := by omega
  have hnn : (m : Int) + 1 ≤ (c : Int) := by omega
  have hmc : m ≤ c := by omega
  have hmi : (m : Int) ≤ (c : Int) := by omega
  have hcm : ¬ c = m := by omega
  by_cases hcc : i + 1 = c
  case neg =>
    have hcn : ¬ c = i + 1 := fun e => hcc e.symm
    clear hcc
    go_enter Tryd.func83, Tryd.ntmps83
    go_wp2
    refine still_tail_at 6 (by kernel_rfl) (by kernel_rfl) ?_
    intro W hW
    have HOW := Aside0.mk (show Kd.R kPt 75 W B ok (.slice (some ⟨g, 0, none⟩) (m + 1) c) l from by rw [hW]; exact Kd.R_drew HO.out)
    have HBW := Aside0.mk (show Only g w W from by rw [hW]; exact (Only.refl _ _).drew)
    clear hW
    simp only [List.take_succ_cons, List.take_zero, List.drop_succ_cons, List.drop_zero]
    repeat still_step
    refine wpStill_nil ?_
    clear hw2 hw3 hw4 hw5 hw6 hw7 hw8 hw9
    go_wp2_with (first
      | ((with_reducible refine gate_builtin (b := .append) (xs := #[.tmp 22, .tmp 25]) rfl ?_); refine Kd.R_delete kPt (w0 := W) B rfl (.tmp 22) (.tmp 25) 58 75 rfl Tryd.underlying58 szPt (g := g) (n := m + 1) (c := c) (k := i) rfl rfl ?hA ?hm HOW.out (by omega) (Below.refl _ _) ?hb ?_; (case hA => simp [hcn, Addr.add_mid, kPt, flat]); (case hm => omega); (case hb => exact Nat.le_trans hB HBW.out.size); intro w1 ho1 hb1 hg1; rw [Nat.add_sub_cancel] at ho1; rw [Nat.add_sub_cancel]; have HO1 := Aside0.mk ho1; have HG1 := Aside0.mk (HBW.out.trans hg1); obtain ⟨he1, he2, he3, cur, hk1, hk2, hk3⟩ := R_block ho1; have HK1 := Aside0.mk hk1; have HK2 := Aside0.mk hk2; clear ho1 hb1 hg1 hk1 hk2 hk3 he1 he2 he3)
      | ((with_reducible refine gate_builtin (b := .clear) (xs := #[.tmp 31]) rfl ?_); refine wpList_clear_rows rfl (.tmp 31) 58 rfl 75 (.agg (ptL Pt.zero).toArray) 36 Tryd.underlying58 zero_pt zcPt zoPt _ _ _ rfl g (m * 36) cur 75 HK1.out ?hp ?hf ?_; (case hp => intro _; rfl); (case hf => have := HK2.out; omega); intro w2 Z hZ hg2 ho2; have HZ := Aside0.mk hZ; have HG2 := Aside0.mk hg2; have HO2 := Aside0.mk ho2; clear hZ hg2 ho2))
    go_ret
    refine ⟨rfl, ?_, HG1.out.trans HO2.out⟩
    exact R_tail HO1.out HK1.out HG2.out (Nat.le_refl _) (by have := HK2.out; have := HZ.out; omega)
  case pos =>
    go_enter Tryd.func83, Tryd.ntmps83
    go_wp2
    refine still_tail_at 6 (by kernel_rfl) (by kernel_rfl) ?_
    intro W hW
    have HOW := Aside0.mk (show Kd.R kPt 75 W B ok (.slice (some ⟨g, 0, none⟩) (m + 1) c) l from by rw [hW]; exact Kd.R_drew HO.out)
    have HBW := Aside0.mk (show Only g w W from by rw [hW]; exact (Only.refl _ _).drew)
    clear hW
    simp only [List.take_succ_cons, List.take_zero, List.drop_succ_cons, List.drop_zero]
    repeat still_step
    refine wpStill_nil ?_
    clear hw2 hw3 hw4 hw5 hw6 hw7 hw8 hw9
    go_wp2_with (first
      | ((with_reducible refine gate_builtin (b := .append) (xs := #[.tmp 22, .tmp 25]) rfl ?_); refine Kd.R_delete kPt (w0 := W) B rfl (.tmp 22) (.tmp 25) 58 75 rfl Tryd.underlying58 szPt (g := g) (n := m + 1) (c := c) (k := i) rfl rfl ?hA ?hm HOW.out (by omega) (Below.refl _ _) ?hb ?_; (case hA => simp [hcc, Addr.add_mid, kPt, flat]); (case hm => omega); (case hb => exact Nat.le_trans hB HBW.out.size); intro w1 ho1 hb1 hg1; rw [Nat.add_sub_cancel] at ho1; rw [Nat.add_sub_cancel]; have HO1 := Aside0.mk ho1; have HG1 := Aside0.mk (HBW.out.trans hg1); obtain ⟨he1, he2, he3, cur, hk1, hk2, hk3⟩ := R_block ho1; have HK1 := Aside0.mk hk1; have HK2 := Aside0.mk hk2; clear ho1 hb1 hg1 hk1 hk2 hk3 he1 he2 he3)
      | ((with_reducible refine gate_builtin (b := .clear) (xs := #[.tmp 31]) rfl ?_); refine wpList_clear_rows rfl (.tmp 31) 58 rfl 75 (.agg (ptL Pt.zero).toArray) 36 Tryd.underlying58 zero_pt zcPt zoPt _ _ _ rfl g (m * 36) cur 75 HK1.out ?hp ?hf ?_; (case hp => intro _; rfl); (case hf => have := HK2.out; omega); intro w2 Z hZ hg2 ho2; have HZ := Aside0.mk hZ; have HG2 := Aside0.mk hg2; have HO2 := Aside0.mk ho2; clear hZ hg2 ho2))
    go_ret
    refine ⟨rfl, ?_, HG1.out.trans HO2.out⟩
    exact R_tail HO1.out HK1.out HG2.out (Nat.le_refl _) (by have := HK2.out; have := HZ.out; omega)
theorem R_some {e : Nat} {W : World} {B n c : Nat} {ok : Nat → Prop} {A : Option Addr} {l : List Pt} (h : Kd.R kPt e W B ok (.slice A n c) l) (hl : 0 < l.length) : ∃ g, A = some ⟨g, 0, none⟩ ∧ B ≤ g ∧ g < W.heap.size := by
  have hlt := Kd.R_lt h
  have hb := Kd.R_base h
  obtain ⟨h0, inner, h1, h2⟩ := h
  rcases h1.2 with ⟨hv, hn⟩ | ⟨g', cap', cur', hv, _⟩
  · omega
  · injection hv with ha
    subst ha
    exact ⟨g', rfl, hb g' rfl, hlt g' rfl⟩
theorem Delete_at (g c i B : Nat) (ok : Nat → Prop) (l : List Pt) (w : World) (hO : Kd.R kPt 75 w B ok (.slice (some ⟨g, 0, none⟩) l.length c) l) (hi : i < l.length) (hn : l.length ≤ 1000) (hB : B ≤ w.heap.size) :
    Calls Tryd.prog 83 #[.slice (some ⟨g, 0, none⟩) l.length c, .int .i64 (i : Int), .int .i64 ((i : Int) + 1)] w fun e w' => e = .returned (.slice (some ⟨g, 0, none⟩) (l.length - 1) c) ∧ Kd.R kPt 75 w' B ok (.slice (some ⟨g, 0, none⟩) (l.length - 1) c) (l.eraseIdx i) ∧ Only g w w' := by
  obtain ⟨m, hm⟩ : ∃ m, l.length = m + 1 := ⟨l.length - 1, by omega⟩
  rw [hm] at hO ⊢
  exact Delete_calls g m c i B ok l w hO (by omega) (by omega) hB
end Go.Proofs.YtiohgpcbdefokaaDoor.B
/- What a record makes of a state: (State).own, (State).begins. No condition. -/
namespace Go.Proofs.YtiohgpcbdefokaaDoor.B
open Go.RowKit Go.Proofs.YtiohgpcbdefokaaDoorW.PrintWords Go.Proofs.YtiohgpcbdefokaaDoor.RowLaws
attribute [local go_sem ↓ high] lvO_hs ldO_hs stO_hs lvO_pt ldO_pt stO_pt zero_pt eqA_pt lvO_ptR ldO_ptR stO_ptR zero_ptR eqA_ptR lvO_rc ldO_rc stO_rc zero_rc eqA_rc lvO_rcR ldO_rcR stO_rcR zero_rcR eqA_rcR lvO_tk ldO_tk stO_tk zero_tk eqA_tk lvO_tkR ldO_tkR stO_tkR zero_tkR eqA_tkR lvO_it ldO_it stO_it zero_it eqA_it blO_pt blO_ptR blO_rc blO_rcR blO_tk blO_tkR blO_it bsO_pt bsO_ptR bsO_rc bsO_rcR bsO_it
attribute [local go_sem high] rowAt_setCell rowAt_setRow cell_setRow_ne isRow_setRow_ne rowAt_alloc rowAt_drew isRow_alloc isRow_drew isRow_setCell rowRun_some okL_hs ldV_hs ldA_hs stA_hs setRow_alloc get_pt_id get_pt_path cut_pt_sum get_pt_size get_pt_off cut_pt okL_pt size_pt lenb_pt eta_pt ldV_pt ldA_pt stA_pt ldV_ptR ldA_ptR stA_ptR get_rc_kind get_rc_id get_rc_path cut_rc_sum get_rc_size get_rc_off cut_rc okL_rc size_rc lenb_rc eta_rc ldV_rc ldA_rc stA_rc ldV_rcR ldA_rcR stA_rcR get_tk_path cut_tk_sum get_tk_size get_tk_off cut_tk_old cut_tk okL_tk size_tk lenb_tk eta_tk ldV_tk ldA_tk stA_tk ldV_tkR ldA_tkR stA_tkR get_it_path get_it_dir get_it_size cut_it_sum cut_it okL_it size_it lenb_it eta_it ldV_it ldA_it stA_it bld_pt_01234 bld_pt_0123 bld_pt_z bld_ptR_01234 bld_ptR_0123 bld_ptR_z bld_rc_012345 bld_rc_015 bld_rc_01 bld_rc_z bld_rc_01234 bld_rc_24 bld_rc_05 bld_rc_0 bld_rcR_012345 bld_rcR_015 bld_rcR_01 bld_rcR_z bld_rcR_01234 bld_rcR_24 bld_rcR_05 bld_rcR_0 bld_tk_01234 bld_tk_0 bld_tk_z bld_tkR_01234 bld_tkR_0 bld_tkR_z bld_it_0123 bld_it_023 bld_it_01 bld_it_0 bld_it_z bs0_pt bs1_pt bs0_ptR bs1_ptR bs0_rc bs1_rc bs0_rcR bs1_rcR bs0_it bs1_it
theorem grown_cell {W w1 : World} {row : Option Nat} {g o : Nat} {v : Value} (hg : W.grownBy w1 row) (hne : row ≠ some g) (hc : W.cell? ⟨g, o, none⟩ = some v) : w1.cell? ⟨g, o, none⟩ = some v :=
  (World.cell?_of_block (hg.block g (World.block_lt_of_cell? _ _ hc) (fun e => hne e.symm))).trans hc
theorem grown_froz {W w1 : World} {row : Option Nat} {g o : Nat} (hg : W.grownBy w1 row) (hne : row ≠ some g) (hl : g < W.heap.size) (hf : W.frozen? ⟨g, o, none⟩ = false) : w1.frozen? ⟨g, o, none⟩ = false :=
  (World.frozen?_of_block (hg.block g hl (fun e => hne e.symm))).trans hf
set_option maxHeartbeats 4000000 in
set_option maxRecDepth 100000 in
theorem ownS_calls (A : Option Addr) (c : Nat) (l : List Pt) (nx : Int) (w : World) (hC : Kd.C kPt w A l.length l) (hc : l.length ≤ c) (hlen : l.length ≤ 1000) :
    Calls Tryd.prog 79 #[.agg #[.slice A l.length c, .int .i64 nx]] w fun e w' => ∃ v : Value, e = .returned (.agg #[v, .int .i64 nx]) ∧ Kd.R kPt 75 w' w.heap.size (fun _ => True) v l ∧ Below w.heap.size w w' := by
  have HC := Aside0.mk hC
  clear hC
  go_enter Tryd.func79, Tryd.ntmps79
  go_wp2_with (go_at_call 124; refine (Clone_calls A c l _ (Kd.C_below HC.out ?_) hc hlen).mono ?_; (exact below_alloc (below_alloc (Below.refl _ _) _) _); rintro e w2 ⟨v, rfl, ho, hb2⟩; obtain ⟨hcl, hfz⟩ := bcell hb2; obtain ⟨A2, c2, rfl⟩ := Kd.R_slice ho; have HO2 := Aside0.mk (Kd.R_lower (base' := w.heap.size + 1 + 1) ho (by simp)); have HB2 := Aside0.mk (Below.trans (below_alloc (below_alloc (Below.refl w.heap.size w) _) _) (hb2.mono (by simp; omega))); have c0_0 : w2.cell? ⟨w.heap.size, 0, none⟩ = some (.slice A l.length c) := (by rw [hcl _ _ (by simp; try omega)]; first | (go_simp; done) | (simp [*]; done)); have f0_0 : w2.frozen? ⟨w.heap.size, 0, none⟩ = false := (by rw [hfz _ _ (by simp; try omega)]; first | (go_simp; done) | (simp [*]; done)); have c0_1 : w2.cell? ⟨w.heap.size, 1, none⟩ = some (.int .i64 nx) := (by rw [hcl _ _ (by simp; try omega)]; first | (go_simp; done) | (simp [*]; done)); have f0_1 : w2.frozen? ⟨w.heap.size, 1, none⟩ = false := (by rw [hfz _ _ (by simp; try omega)]; first | (go_simp; done) | (simp [*]; done)); have c1_0 : w2.cell? ⟨w.heap.size + 1, 0, none⟩ = some (.slice none 0 0) := (by rw [hcl _ _ (by simp; try omega)]; first | (go_simp; done) | (simp [*]; done)); have f1_0 : w2.frozen? ⟨w.heap.size + 1, 0, none⟩ = false := (by rw [hfz _ _ (by simp; try omega)]; first | (go_simp; done) | (simp [*]; done)); have c1_1 : w2.cell? ⟨w.heap.size + 1, 1, none⟩ = some (.int .i64 0) := (by rw [hcl _ _ (by simp; try omega)]; first | (go_simp; done) | (simp [*]; done)); have f1_1 : w2.frozen? ⟨w.heap.size + 1, 1, none⟩ = false := (by rw [hfz _ _ (by simp; try omega)]; first | (go_simp; done) | (simp [*]; done)); clear ho hb2 hcl hfz)
  refine bodyPost_ret (v := .agg #[.slice A2 l.length c2, .int .i64 nx]) (by simp [results, Tryd.results79, go_sem, *]) rfl ⟨_, rfl, ?_, ?_⟩
  · exact Kd.R_lower (flat_put (flat_put (flat_put HO2.out (by omega)) (by omega)) (by omega)) (by omega)
  · exact below_setCell (below_setCell (below_setCell HB2.out (by omega) _) (by omega) _) (by omega) _
end Go.Proofs.YtiohgpcbdefokaaDoor.B
/- (State).begins: a part more, or none. No condition. -/
namespace Go.Proofs.YtiohgpcbdefokaaDoor.B
open Go.RowKit Go.Proofs.YtiohgpcbdefokaaDoorW.PrintWords Go.Proofs.YtiohgpcbdefokaaDoor.RowLaws
attribute [local go_sem ↓ high] lvO_hs ldO_hs stO_hs lvO_pt ldO_pt stO_pt zero_pt eqA_pt lvO_ptR ldO_ptR stO_ptR zero_ptR eqA_ptR lvO_rc ldO_rc stO_rc zero_rc eqA_rc lvO_rcR ldO_rcR stO_rcR zero_rcR eqA_rcR lvO_tk ldO_tk stO_tk zero_tk eqA_tk lvO_tkR ldO_tkR stO_tkR zero_tkR eqA_tkR lvO_it ldO_it stO_it zero_it eqA_it blO_pt blO_ptR blO_rc blO_rcR blO_tk blO_tkR blO_it bsO_pt bsO_ptR bsO_rc bsO_rcR bsO_it
attribute [local go_sem high] rowAt_setCell rowAt_setRow cell_setRow_ne isRow_setRow_ne rowAt_alloc rowAt_drew isRow_alloc isRow_drew isRow_setCell rowRun_some okL_hs ldV_hs ldA_hs stA_hs setRow_alloc get_pt_id get_pt_path cut_pt_sum get_pt_size get_pt_off cut_pt okL_pt size_pt lenb_pt eta_pt ldV_pt ldA_pt stA_pt ldV_ptR ldA_ptR stA_ptR get_rc_kind get_rc_id get_rc_path cut_rc_sum get_rc_size get_rc_off cut_rc okL_rc size_rc lenb_rc eta_rc ldV_rc ldA_rc stA_rc ldV_rcR ldA_rcR stA_rcR get_tk_path cut_tk_sum get_tk_size get_tk_off cut_tk_old cut_tk okL_tk size_tk lenb_tk eta_tk ldV_tk ldA_tk stA_tk ldV_tkR ldA_tkR stA_tkR get_it_path get_it_dir get_it_size cut_it_sum cut_it okL_it size_it lenb_it eta_it ldV_it ldA_it stA_it bld_pt_01234 bld_pt_0123 bld_pt_z bld_ptR_01234 bld_ptR_0123 bld_ptR_z bld_rc_012345 bld_rc_015 bld_rc_01 bld_rc_z bld_rc_01234 bld_rc_24 bld_rc_05 bld_rc_0 bld_rcR_012345 bld_rcR_015 bld_rcR_01 bld_rcR_z bld_rcR_01234 bld_rcR_24 bld_rcR_05 bld_rcR_0 bld_tk_01234 bld_tk_0 bld_tk_z bld_tkR_01234 bld_tkR_0 bld_tkR_z bld_it_0123 bld_it_023 bld_it_01 bld_it_0 bld_it_z bs0_pt bs1_pt bs0_ptR bs1_ptR bs0_rc bs1_rc bs0_rcR bs1_rcR bs0_it bs1_it
structure St where
  parts : List Pt
  next : Int
deriving DecidableEq
def St.zero : St := ⟨[], 0⟩
def beginP (s : St) (r : Rc) : St × Bool :=
  if (findP s.parts r.path).2 = true ∨ r.id < s.next ∨ 64 ≤ s.parts.length then (s, false)
  else (⟨s.parts ++ [⟨r.id, r.path, r.sum, r.size, 0⟩], r.id + 1⟩, true)
set_option maxHeartbeats 4000000 in
set_option maxRecDepth 100000 in
theorem begins_calls (A : Option Addr) (c : Nat) (l : List Pt) (nx : Int) (r : Rc) (B : Nat) (w : World) (hO : Kd.R kPt 75 w B (fun _ => True) (.slice A l.length c) l) (hlen : l.length ≤ 64) (hB : B ≤ w.heap.size) (hid : r.id ≤ 2199023255552) (hid0 : -9223372036854775808 ≤ r.id) :
    Calls Tryd.prog 82 #[.agg #[.slice A l.length c, .int .i64 nx], .agg (rcL r).toArray] w fun e w' => ∃ v : Value, e = .returned (.tuple #[.agg #[v, .int .i64 (beginP ⟨l, nx⟩ r).1.next], .bool (beginP ⟨l, nx⟩ r).2]) ∧ Kd.R kPt 75 w' B (fun _ => True) v (beginP ⟨l, nx⟩ r).1.parts ∧ Below B w w' := by
  obtain ⟨hl0, hc, hC⟩ := Kd.R_reads' hO
  clear hl0
  have HC := Aside0.mk hC
  have HO := Aside0.mk hO
  clear hO hC
  have HNE := Aside0.mk (show ∀ k, w.heap.size ≤ k → (Value.slice A l.length c).ownBlock ≠ some k from fun k hk e => by have := Kd.R_lt HO.out k e; omega)
  have hw1 : IntKind.i64.wrap (r.id + 1) = r.id + 1 := IntWalk.i64_in _ (by omega)
  have HF := Aside0.mk (show findP l r.path = ((findP l r.path).1, (findP l r.path).2) from rfl)
  obtain ⟨q, hq⟩ : ∃ q, (findP l r.path).1 = q := ⟨_, rfl⟩
  by_cases hf : (findP l r.path).2 = true
  · have HP := Aside0.mk (show beginP ⟨l, nx⟩ r = (⟨l, nx⟩, false) by unfold beginP; rw [if_pos (.inl hf)])
    rw [hf, hq] at HF
    clear hf hq
    go_enter Tryd.func82, Tryd.ntmps82
    go_wp2_with (go_at_call 33; refine (Find_calls A c l nx r.path _ (Kd.C_below HC.out ?_) (Nat.le_trans hlen (by decide))).mono ?_; (exact below_alloc (below_alloc (below_alloc (Below.refl _ _) _) _) _); rintro e w2 ⟨rfl, hb2⟩; rw [HF.out]; obtain ⟨hcl, hfz⟩ := bcell hb2; have z0 : ¬ (w.heap.size = w2.heap.size) := (by have h_ := hb2.size; simp at h_; omega); have y0 : w.heap.size < w2.heap.size := (by have h_ := hb2.size; simp at h_; omega); have c0_0 : w2.cell? ⟨w.heap.size, 0, none⟩ = some (.slice A l.length c) := (by rw [hcl _ _ (by simp; try omega)]; first | (go_simp; done) | (simp [*]; done)); have f0_0 : w2.frozen? ⟨w.heap.size, 0, none⟩ = false := (by rw [hfz _ _ (by simp; try omega)]; first | (go_simp; done) | (simp [*]; done)); have c0_1 : w2.cell? ⟨w.heap.size, 1, none⟩ = some (.int .i64 nx) := (by rw [hcl _ _ (by simp; try omega)]; first | (go_simp; done) | (simp [*]; done)); have f0_1 : w2.frozen? ⟨w.heap.size, 1, none⟩ = false := (by rw [hfz _ _ (by simp; try omega)]; first | (go_simp; done) | (simp [*]; done)); have z1 : ¬ (w.heap.size + 1 = w2.heap.size) := (by have h_ := hb2.size; simp at h_; omega); have y1 : w.heap.size + 1 < w2.heap.size := (by have h_ := hb2.size; simp at h_; omega); have c1_1 : w2.cell? ⟨w.heap.size + 1, 1, none⟩ = some (.int .i64 r.id) := (by rw [hcl _ _ (by simp; try omega)]; first | (go_simp; done) | (simp [*]; done)); have c1_2 : w2.cell? ⟨w.heap.size + 1, 2, none⟩ = some (.string r.path) := (by rw [hcl _ _ (by simp; try omega)]; first | (go_simp; done) | (simp [*]; done)); have c1_35 : w2.cell? ⟨w.heap.size + 1, 35, none⟩ = some (.int .i64 r.size) := (by rw [hcl _ _ (by simp; try omega)]; first | (go_simp; done) | (simp [*]; done)); have z2 : ¬ (w.heap.size + 1 + 1 = w2.heap.size) := (by have h_ := hb2.size; simp at h_; omega); have y2 : w.heap.size + 1 + 1 < w2.heap.size := (by have h_ := hb2.size; simp at h_; omega); have c2_0 : w2.cell? ⟨w.heap.size + 1 + 1, 0, none⟩ = some (.slice none 0 0) := (by rw [hcl _ _ (by simp; try omega)]; first | (go_simp; done) | (simp [*]; done)); have f2_0 : w2.frozen? ⟨w.heap.size + 1 + 1, 0, none⟩ = false := (by rw [hfz _ _ (by simp; try omega)]; first | (go_simp; done) | (simp [*]; done)); have c2_1 : w2.cell? ⟨w.heap.size + 1 + 1, 1, none⟩ = some (.int .i64 0) := (by rw [hcl _ _ (by simp; try omega)]; first | (go_simp; done) | (simp [*]; done)); have f2_1 : w2.frozen? ⟨w.heap.size + 1 + 1, 1, none⟩ = false := (by rw [hfz _ _ (by simp; try omega)]; first | (go_simp; done) | (simp [*]; done)); have r0 : rowAt w2 ⟨w.heap.size + 1, 3, none⟩ 32 = some (hsL r.sum) := (by rw [rowAt_below hb2 (by simp; try omega)]; first | (go_simp; done) | (simp [*]; done)); have HO2 := Aside0.mk (Kd.R_below (Kd.R_alloc (Kd.R_alloc (Kd.R_alloc HO.out _) _) _) hb2); have HB2 := Aside0.mk (Below.trans (below_alloc (below_alloc (below_alloc (Below.refl w.heap.size w) _) _) _) (hb2.mono (by simp; omega))); clear hb2 hcl hfz)
    refine bodyPost_ret (v := .tuple #[.agg #[.slice A l.length c, .int .i64 nx], .bool false]) (by simp [results, Tryd.results82, go_sem, *]) rfl ⟨_, by rw [HP.out], ?_, ?_⟩
    · rw [HP.out]; refine Kd.R_below HO.out ?_; have hs2 := HB2.out.size; (repeat' (first | exact HB2.out | (with_reducible refine below_setCell ?_ ?_ _) | (with_reducible refine below_setRow ?_ ?_ _) | (with_reducible refine Below.alloc ?_ ?_ _) | (with_reducible refine below_drew ?_) | (with_reducible exact Below.refl _ _) | omega | (simp; done) | (simp; omega)))
    · refine Below.mono ?_ hB; have hs2 := HB2.out.size; (repeat' (first | exact HB2.out | (with_reducible refine below_setCell ?_ ?_ _) | (with_reducible refine below_setRow ?_ ?_ _) | (with_reducible refine Below.alloc ?_ ?_ _) | (with_reducible refine below_drew ?_) | (with_reducible exact Below.refl _ _) | omega | (simp; done) | (simp; omega)))
  · have hf0 : (findP l r.path).2 = false := by simpa using hf
    rw [hf0, hq] at HF
    by_cases h1 : r.id < nx
    · have HP := Aside0.mk (show beginP ⟨l, nx⟩ r = (⟨l, nx⟩, false) by unfold beginP; rw [if_pos (.inr (.inl h1))])
      clear hf hf0 hq
      go_enter Tryd.func82, Tryd.ntmps82
      go_wp2_with (go_at_call 33; refine (Find_calls A c l nx r.path _ (Kd.C_below HC.out ?_) (Nat.le_trans hlen (by decide))).mono ?_; (exact below_alloc (below_alloc (below_alloc (Below.refl _ _) _) _) _); rintro e w2 ⟨rfl, hb2⟩; rw [HF.out]; obtain ⟨hcl, hfz⟩ := bcell hb2; have z0 : ¬ (w.heap.size = w2.heap.size) := (by have h_ := hb2.size; simp at h_; omega); have y0 : w.heap.size < w2.heap.size := (by have h_ := hb2.size; simp at h_; omega); have c0_0 : w2.cell? ⟨w.heap.size, 0, none⟩ = some (.slice A l.length c) := (by rw [hcl _ _ (by simp; try omega)]; first | (go_simp; done) | (simp [*]; done)); have f0_0 : w2.frozen? ⟨w.heap.size, 0, none⟩ = false := (by rw [hfz _ _ (by simp; try omega)]; first | (go_simp; done) | (simp [*]; done)); have c0_1 : w2.cell? ⟨w.heap.size, 1, none⟩ = some (.int .i64 nx) := (by rw [hcl _ _ (by simp; try omega)]; first | (go_simp; done) | (simp [*]; done)); have f0_1 : w2.frozen? ⟨w.heap.size, 1, none⟩ = false := (by rw [hfz _ _ (by simp; try omega)]; first | (go_simp; done) | (simp [*]; done)); have z1 : ¬ (w.heap.size + 1 = w2.heap.size) := (by have h_ := hb2.size; simp at h_; omega); have y1 : w.heap.size + 1 < w2.heap.size := (by have h_ := hb2.size; simp at h_; omega); have c1_1 : w2.cell? ⟨w.heap.size + 1, 1, none⟩ = some (.int .i64 r.id) := (by rw [hcl _ _ (by simp; try omega)]; first | (go_simp; done) | (simp [*]; done)); have c1_2 : w2.cell? ⟨w.heap.size + 1, 2, none⟩ = some (.string r.path) := (by rw [hcl _ _ (by simp; try omega)]; first | (go_simp; done) | (simp [*]; done)); have c1_35 : w2.cell? ⟨w.heap.size + 1, 35, none⟩ = some (.int .i64 r.size) := (by rw [hcl _ _ (by simp; try omega)]; first | (go_simp; done) | (simp [*]; done)); have z2 : ¬ (w.heap.size + 1 + 1 = w2.heap.size) := (by have h_ := hb2.size; simp at h_; omega); have y2 : w.heap.size + 1 + 1 < w2.heap.size := (by have h_ := hb2.size; simp at h_; omega); have c2_0 : w2.cell? ⟨w.heap.size + 1 + 1, 0, none⟩ = some (.slice none 0 0) := (by rw [hcl _ _ (by simp; try omega)]; first | (go_simp; done) | (simp [*]; done)); have f2_0 : w2.frozen? ⟨w.heap.size + 1 + 1, 0, none⟩ = false := (by rw [hfz _ _ (by simp; try omega)]; first | (go_simp; done) | (simp [*]; done)); have c2_1 : w2.cell? ⟨w.heap.size + 1 + 1, 1, none⟩ = some (.int .i64 0) := (by rw [hcl _ _ (by simp; try omega)]; first | (go_simp; done) | (simp [*]; done)); have f2_1 : w2.frozen? ⟨w.heap.size + 1 + 1, 1, none⟩ = false := (by rw [hfz _ _ (by simp; try omega)]; first | (go_simp; done) | (simp [*]; done)); have r0 : rowAt w2 ⟨w.heap.size + 1, 3, none⟩ 32 = some (hsL r.sum) := (by rw [rowAt_below hb2 (by simp; try omega)]; first | (go_simp; done) | (simp [*]; done)); have HO2 := Aside0.mk (Kd.R_below (Kd.R_alloc (Kd.R_alloc (Kd.R_alloc HO.out _) _) _) hb2); have HB2 := Aside0.mk (Below.trans (below_alloc (below_alloc (below_alloc (Below.refl w.heap.size w) _) _) _) (hb2.mono (by simp; omega))); clear hb2 hcl hfz)
      refine bodyPost_ret (v := .tuple #[.agg #[.slice A l.length c, .int .i64 nx], .bool false]) (by simp [results, Tryd.results82, go_sem, *]) rfl ⟨_, by rw [HP.out], ?_, ?_⟩
      · rw [HP.out]; refine Kd.R_below HO.out ?_; have hs2 := HB2.out.size; (repeat' (first | exact HB2.out | (with_reducible refine below_setCell ?_ ?_ _) | (with_reducible refine below_setRow ?_ ?_ _) | (with_reducible refine Below.alloc ?_ ?_ _) | (with_reducible refine below_drew ?_) | (with_reducible exact Below.refl _ _) | omega | (simp; done) | (simp; omega)))
      · refine Below.mono ?_ hB; have hs2 := HB2.out.size; (repeat' (first | exact HB2.out | (with_reducible refine below_setCell ?_ ?_ _) | (with_reducible refine below_setRow ?_ ?_ _) | (with_reducible refine Below.alloc ?_ ?_ _) | (with_reducible refine below_drew ?_) | (with_reducible exact Below.refl _ _) | omega | (simp; done) | (simp; omega)))
    · by_cases h2 : 64 ≤ l.length
      · have HP := Aside0.mk (show beginP ⟨l, nx⟩ r = (⟨l, nx⟩, false) by unfold beginP; rw [if_pos (.inr (.inr h2))])
        have h3 : (64 : Int) ≤ (l.length : Int) := by omega
        clear hf hf0 hq
        go_enter Tryd.func82, Tryd.ntmps82
        go_wp2_with (go_at_call 33; refine (Find_calls A c l nx r.path _ (Kd.C_below HC.out ?_) (Nat.le_trans hlen (by decide))).mono ?_; (exact below_alloc (below_alloc (below_alloc (Below.refl _ _) _) _) _); rintro e w2 ⟨rfl, hb2⟩; rw [HF.out]; obtain ⟨hcl, hfz⟩ := bcell hb2; have z0 : ¬ (w.heap.size = w2.heap.size) := (by have h_ := hb2.size; simp at h_; omega); have y0 : w.heap.size < w2.heap.size := (by have h_ := hb2.size; simp at h_; omega); have c0_0 : w2.cell? ⟨w.heap.size, 0, none⟩ = some (.slice A l.length c) := (by rw [hcl _ _ (by simp; try omega)]; first | (go_simp; done) | (simp [*]; done)); have f0_0 : w2.frozen? ⟨w.heap.size, 0, none⟩ = false := (by rw [hfz _ _ (by simp; try omega)]; first | (go_simp; done) | (simp [*]; done)); have c0_1 : w2.cell? ⟨w.heap.size, 1, none⟩ = some (.int .i64 nx) := (by rw [hcl _ _ (by simp; try omega)]; first | (go_simp; done) | (simp [*]; done)); have f0_1 : w2.frozen? ⟨w.heap.size, 1, none⟩ = false := (by rw [hfz _ _ (by simp; try omega)]; first | (go_simp; done) | (simp [*]; done)); have z1 : ¬ (w.heap.size + 1 = w2.heap.size) := (by have h_ := hb2.size; simp at h_; omega); have y1 : w.heap.size + 1 < w2.heap.size := (by have h_ := hb2.size; simp at h_; omega); have c1_1 : w2.cell? ⟨w.heap.size + 1, 1, none⟩ = some (.int .i64 r.id) := (by rw [hcl _ _ (by simp; try omega)]; first | (go_simp; done) | (simp [*]; done)); have c1_2 : w2.cell? ⟨w.heap.size + 1, 2, none⟩ = some (.string r.path) := (by rw [hcl _ _ (by simp; try omega)]; first | (go_simp; done) | (simp [*]; done)); have c1_35 : w2.cell? ⟨w.heap.size + 1, 35, none⟩ = some (.int .i64 r.size) := (by rw [hcl _ _ (by simp; try omega)]; first | (go_simp; done) | (simp [*]; done)); have z2 : ¬ (w.heap.size + 1 + 1 = w2.heap.size) := (by have h_ := hb2.size; simp at h_; omega); have y2 : w.heap.size + 1 + 1 < w2.heap.size := (by have h_ := hb2.size; simp at h_; omega); have c2_0 : w2.cell? ⟨w.heap.size + 1 + 1, 0, none⟩ = some (.slice none 0 0) := (by rw [hcl _ _ (by simp; try omega)]; first | (go_simp; done) | (simp [*]; done)); have f2_0 : w2.frozen? ⟨w.heap.size + 1 + 1, 0, none⟩ = false := (by rw [hfz _ _ (by simp; try omega)]; first | (go_simp; done) | (simp [*]; done)); have c2_1 : w2.cell? ⟨w.heap.size + 1 + 1, 1, none⟩ = some (.int .i64 0) := (by rw [hcl _ _ (by simp; try omega)]; first | (go_simp; done) | (simp [*]; done)); have f2_1 : w2.frozen? ⟨w.heap.size + 1 + 1, 1, none⟩ = false := (by rw [hfz _ _ (by simp; try omega)]; first | (go_simp; done) | (simp [*]; done)); have r0 : rowAt w2 ⟨w.heap.size + 1, 3, none⟩ 32 = some (hsL r.sum) := (by rw [rowAt_below hb2 (by simp; try omega)]; first | (go_simp; done) | (simp [*]; done)); have HO2 := Aside0.mk (Kd.R_below (Kd.R_alloc (Kd.R_alloc (Kd.R_alloc HO.out _) _) _) hb2); have HB2 := Aside0.mk (Below.trans (below_alloc (below_alloc (below_alloc (Below.refl w.heap.size w) _) _) _) (hb2.mono (by simp; omega))); clear hb2 hcl hfz)
        refine bodyPost_ret (v := .tuple #[.agg #[.slice A l.length c, .int .i64 nx], .bool false]) (by simp [results, Tryd.results82, go_sem, *]) rfl ⟨_, by rw [HP.out], ?_, ?_⟩
        · rw [HP.out]; refine Kd.R_below HO.out ?_; have hs2 := HB2.out.size; (repeat' (first | exact HB2.out | (with_reducible refine below_setCell ?_ ?_ _) | (with_reducible refine below_setRow ?_ ?_ _) | (with_reducible refine Below.alloc ?_ ?_ _) | (with_reducible refine below_drew ?_) | (with_reducible exact Below.refl _ _) | omega | (simp; done) | (simp; omega)))
        · refine Below.mono ?_ hB; have hs2 := HB2.out.size; (repeat' (first | exact HB2.out | (with_reducible refine below_setCell ?_ ?_ _) | (with_reducible refine below_setRow ?_ ?_ _) | (with_reducible refine Below.alloc ?_ ?_ _) | (with_reducible refine below_drew ?_) | (with_reducible exact Below.refl _ _) | omega | (simp; done) | (simp; omega)))
      · have HP := Aside0.mk (show beginP ⟨l, nx⟩ r = (⟨l ++ [⟨r.id, r.path, r.sum, r.size, 0⟩], r.id + 1⟩, true) by unfold beginP; rw [if_neg (fun h => h.elim hf (fun h => h.elim h1 h2))])
        have h3 : ¬ (64 : Int) ≤ (l.length : Int) := by omega
        clear hf hf0 hq
        go_enter Tryd.func82, Tryd.ntmps82
        go_wp2_with (first | (go_at_call 33; refine (Find_calls A c l nx r.path _ (Kd.C_below HC.out ?_) (Nat.le_trans hlen (by decide))).mono ?_; (exact below_alloc (below_alloc (below_alloc (Below.refl _ _) _) _) _); rintro e w2 ⟨rfl, hb2⟩; rw [HF.out]; obtain ⟨hcl, hfz⟩ := bcell hb2; have z0 : ¬ (w.heap.size = w2.heap.size) := (by have h_ := hb2.size; simp at h_; omega); have y0 : w.heap.size < w2.heap.size := (by have h_ := hb2.size; simp at h_; omega); have c0_0 : w2.cell? ⟨w.heap.size, 0, none⟩ = some (.slice A l.length c) := (by rw [hcl _ _ (by simp; try omega)]; first | (go_simp; done) | (simp [*]; done)); have f0_0 : w2.frozen? ⟨w.heap.size, 0, none⟩ = false := (by rw [hfz _ _ (by simp; try omega)]; first | (go_simp; done) | (simp [*]; done)); have c0_1 : w2.cell? ⟨w.heap.size, 1, none⟩ = some (.int .i64 nx) := (by rw [hcl _ _ (by simp; try omega)]; first | (go_simp; done) | (simp [*]; done)); have f0_1 : w2.frozen? ⟨w.heap.size, 1, none⟩ = false := (by rw [hfz _ _ (by simp; try omega)]; first | (go_simp; done) | (simp [*]; done)); have z1 : ¬ (w.heap.size + 1 = w2.heap.size) := (by have h_ := hb2.size; simp at h_; omega); have y1 : w.heap.size + 1 < w2.heap.size := (by have h_ := hb2.size; simp at h_; omega); have c1_1 : w2.cell? ⟨w.heap.size + 1, 1, none⟩ = some (.int .i64 r.id) := (by rw [hcl _ _ (by simp; try omega)]; first | (go_simp; done) | (simp [*]; done)); have c1_2 : w2.cell? ⟨w.heap.size + 1, 2, none⟩ = some (.string r.path) := (by rw [hcl _ _ (by simp; try omega)]; first | (go_simp; done) | (simp [*]; done)); have c1_35 : w2.cell? ⟨w.heap.size + 1, 35, none⟩ = some (.int .i64 r.size) := (by rw [hcl _ _ (by simp; try omega)]; first | (go_simp; done) | (simp [*]; done)); have z2 : ¬ (w.heap.size + 1 + 1 = w2.heap.size) := (by have h_ := hb2.size; simp at h_; omega); have y2 : w.heap.size + 1 + 1 < w2.heap.size := (by have h_ := hb2.size; simp at h_; omega); have c2_0 : w2.cell? ⟨w.heap.size + 1 + 1, 0, none⟩ = some (.slice none 0 0) := (by rw [hcl _ _ (by simp; try omega)]; first | (go_simp; done) | (simp [*]; done)); have f2_0 : w2.frozen? ⟨w.heap.size + 1 + 1, 0, none⟩ = false := (by rw [hfz _ _ (by simp; try omega)]; first | (go_simp; done) | (simp [*]; done)); have c2_1 : w2.cell? ⟨w.heap.size + 1 + 1, 1, none⟩ = some (.int .i64 0) := (by rw [hcl _ _ (by simp; try omega)]; first | (go_simp; done) | (simp [*]; done)); have f2_1 : w2.frozen? ⟨w.heap.size + 1 + 1, 1, none⟩ = false := (by rw [hfz _ _ (by simp; try omega)]; first | (go_simp; done) | (simp [*]; done)); have r0 : rowAt w2 ⟨w.heap.size + 1, 3, none⟩ 32 = some (hsL r.sum) := (by rw [rowAt_below hb2 (by simp; try omega)]; first | (go_simp; done) | (simp [*]; done)); have HO2 := Aside0.mk (Kd.R_below (Kd.R_alloc (Kd.R_alloc (Kd.R_alloc HO.out _) _) _) hb2); have HB2 := Aside0.mk (Below.trans (below_alloc (below_alloc (below_alloc (Below.refl w.heap.size w) _) _) _) (hb2.mono (by simp; omega))); clear hb2 hcl hfz) | ((with_reducible refine gate_builtin (b := .append) (xs := #[.tmp 31, .tmp 41]) rfl ?_); at_builtin; refine Kd.R_append kPt (w0 := w) B rfl (.tmp 31) (.tmp 41) 58 75 _ 72 rfl Tryd.underlying58 infoPt zcPt (by decide) (by decide) (.slice A l.length c) l ⟨r.id, r.path, r.sum, r.size, 0⟩ (ptL ⟨r.id, r.path, r.sum, r.size, 0⟩) (fun _ => True) (fun _ => False) rfl ?aX rfl (fun _ hk => hk.elim) (fun _ _ => trivial) (Kd.R_alloc HO2.out _) ?aB ?aS ?aL ?_; (case aX => first | rfl | (go_simp; done) | (simp; done)); (case aB => exact (HB2.out.mono hB).alloc (by omega) _); (case aS => simp; omega); (case aL => omega); intro v3 w3 ho3 hb3 hg3 hat3; have HNE3 := Aside0.mk (show ∀ k, w.heap.size ≤ k → k ≤ w.heap.size + 2 → v3.ownBlock ≠ some k from fun k hk hk2 e => by rcases hat3 with h | ⟨b, h, h2⟩; (exact HNE.out k hk (h.symm.trans e)); (rw [e] at h; injection h with h; simp at h2; omega)); have cg0_0 : w3.cell? ⟨w.heap.size, 0, none⟩ = some (.slice A l.length c) := grown_cell hg3 (HNE.out _ (by omega)) (by first | (go_simp; done) | (simp [*]; done)); have fg0_0 : w3.frozen? ⟨w.heap.size, 0, none⟩ = false := grown_froz hg3 (HNE.out _ (by omega)) (by simp; omega) (by first | (go_simp; done) | (simp [*]; done)); have cg0_1 : w3.cell? ⟨w.heap.size, 1, none⟩ = some (.int .i64 nx) := grown_cell hg3 (HNE.out _ (by omega)) (by first | (go_simp; done) | (simp [*]; done)); have fg0_1 : w3.frozen? ⟨w.heap.size, 1, none⟩ = false := grown_froz hg3 (HNE.out _ (by omega)) (by simp; omega) (by first | (go_simp; done) | (simp [*]; done)); have cg1_1 : w3.cell? ⟨w.heap.size + 1, 1, none⟩ = some (.int .i64 r.id) := grown_cell hg3 (HNE.out _ (by omega)) (by first | (go_simp; done) | (simp [*]; done)); have cg1_2 : w3.cell? ⟨w.heap.size + 1, 2, none⟩ = some (.string r.path) := grown_cell hg3 (HNE.out _ (by omega)) (by first | (go_simp; done) | (simp [*]; done)); have cg1_35 : w3.cell? ⟨w.heap.size + 1, 35, none⟩ = some (.int .i64 r.size) := grown_cell hg3 (HNE.out _ (by omega)) (by first | (go_simp; done) | (simp [*]; done)); have cg2_0 : w3.cell? ⟨w.heap.size + 1 + 1, 0, none⟩ = some (.slice none 0 0) := grown_cell hg3 (HNE.out _ (by omega)) (by first | (go_simp; done) | (simp [*]; done)); have fg2_0 : w3.frozen? ⟨w.heap.size + 1 + 1, 0, none⟩ = false := grown_froz hg3 (HNE.out _ (by omega)) (by simp; omega) (by first | (go_simp; done) | (simp [*]; done)); have cg2_1 : w3.cell? ⟨w.heap.size + 1 + 1, 1, none⟩ = some (.int .i64 0) := grown_cell hg3 (HNE.out _ (by omega)) (by first | (go_simp; done) | (simp [*]; done)); have fg2_1 : w3.frozen? ⟨w.heap.size + 1 + 1, 1, none⟩ = false := grown_froz hg3 (HNE.out _ (by omega)) (by simp; omega) (by first | (go_simp; done) | (simp [*]; done)); obtain ⟨A3, c3, rfl⟩ := Kd.R_slice ho3; have HO3 := Aside0.mk ho3; have HB3 := Aside0.mk hb3; have hs3 := Aside0.mk hg3.size; clear ho3 hb3 hg3 hat3))
        rw [HP.out]
        refine bodyPost_ret (v := .tuple #[.agg #[.slice A3 (l ++ [(⟨r.id, r.path, r.sum, r.size, 0⟩ : Pt)]).length c3, .int .i64 (r.id + 1)], .bool true]) (by simp [results, Tryd.results82, go_sem, *]) rfl ⟨_, rfl, ?_, ?_⟩
        · refine flat_keep (flat_keep (flat_keep (flat_keep HO3.out ?_) ?_) ?_) ?_ <;> exact HNE3.out _ (by omega) (by omega)
        · have hs3 := hs3.out; simp at hs3; (repeat' (first | exact HB3.out | (with_reducible refine below_setCell ?_ ?_ _) | (with_reducible refine below_setRow ?_ ?_ _) | (with_reducible refine Below.alloc ?_ ?_ _) | (with_reducible refine below_drew ?_) | (with_reducible exact Below.refl _ _) | omega | (simp; done) | (simp; omega)))
end Go.Proofs.YtiohgpcbdefokaaDoor.B
/- record.Step: what a record makes of a state. No condition. -/
namespace Go.Proofs.YtiohgpcbdefokaaDoor.B
open Go.RowKit Go.Proofs.YtiohgpcbdefokaaDoorW.PrintWords Go.Proofs.YtiohgpcbdefokaaDoor.RowLaws
attribute [local go_sem ↓ high] lvO_hs ldO_hs stO_hs lvO_pt ldO_pt stO_pt zero_pt eqA_pt lvO_ptR ldO_ptR stO_ptR zero_ptR eqA_ptR lvO_rc ldO_rc stO_rc zero_rc eqA_rc lvO_rcR ldO_rcR stO_rcR zero_rcR eqA_rcR lvO_tk ldO_tk stO_tk zero_tk eqA_tk lvO_tkR ldO_tkR stO_tkR zero_tkR eqA_tkR lvO_it ldO_it stO_it zero_it eqA_it blO_pt blO_ptR blO_rc blO_rcR blO_tk blO_tkR blO_it bsO_pt bsO_ptR bsO_rc bsO_rcR bsO_it
attribute [local go_sem high] rowAt_setCell rowAt_setRow cell_setRow_ne isRow_setRow_ne rowAt_alloc rowAt_drew isRow_alloc isRow_drew isRow_setCell rowRun_some okL_hs ldV_hs ldA_hs stA_hs setRow_alloc get_pt_id get_pt_path cut_pt_sum get_pt_size get_pt_off cut_pt okL_pt size_pt lenb_pt eta_pt ldV_pt ldA_pt stA_pt ldV_ptR ldA_ptR stA_ptR get_rc_kind get_rc_id get_rc_path cut_rc_sum get_rc_size get_rc_off cut_rc okL_rc size_rc lenb_rc eta_rc ldV_rc ldA_rc stA_rc ldV_rcR ldA_rcR stA_rcR get_tk_path cut_tk_sum get_tk_size get_tk_off cut_tk_old cut_tk okL_tk size_tk lenb_tk eta_tk ldV_tk ldA_tk stA_tk ldV_tkR ldA_tkR stA_tkR get_it_path get_it_dir get_it_size cut_it_sum cut_it okL_it size_it lenb_it eta_it ldV_it ldA_it stA_it bld_pt_01234 bld_pt_0123 bld_pt_z bld_ptR_01234 bld_ptR_0123 bld_ptR_z bld_rc_012345 bld_rc_015 bld_rc_01 bld_rc_z bld_rc_01234 bld_rc_24 bld_rc_05 bld_rc_0 bld_rcR_012345 bld_rcR_015 bld_rcR_01 bld_rcR_z bld_rcR_01234 bld_rcR_24 bld_rcR_05 bld_rcR_0 bld_tk_01234 bld_tk_0 bld_tk_z bld_tkR_01234 bld_tkR_0 bld_tkR_z bld_it_0123 bld_it_023 bld_it_01 bld_it_0 bld_it_z bs0_pt bs1_pt bs0_ptR bs1_ptR bs0_rc bs1_rc bs0_rcR bs1_rcR bs0_it bs1_it
theorem ptL_off (p : Pt) (x : Int) : (ptL p).take 35 ++ [.int .i64 x] ++ (ptL p).drop 36 = ptL { p with off := x } := by
  obtain ⟨b0, b1, b2, b3, b4, b5, b6, b7, b8, b9, b10, b11, b12, b13, b14, b15, b16, b17, b18, b19, b20, b21, b22, b23, b24, b25, b26, b27, b28, b29, b30, b31, e0⟩ := hs_lit p.sum
  simp [ptL, e0]
theorem part_cells {e : Nat} {W : World} {B c i g : Nat} {ok : Nat → Prop} {l : List Pt} {p : Pt} (h : Kd.R kPt e W B ok (.slice (some ⟨g, 0, none⟩) l.length c) l) (hx : l[i]? = some p) : W.cell? ⟨g, i * 36 + 34, none⟩ = some (.int .i64 p.size) ∧ W.cell? ⟨g, i * 36 + 35, none⟩ = some (.int .i64 p.off) := by
  have hi := List.getElem?_eq_some_iff.1 hx
  obtain ⟨b, o, hA, _, hr⟩ := flat_at (Kd.R_reads' h).2.2 (by decide) (Nat.lt_of_le_of_lt (Nat.zero_le _) hi.1)
  injection hA with hA
  injection hA with hb ho
  subst hb ho
  have h2 := (hr i hi.1).2
  rw [hi.2] at h2
  have h3 := h2 34 _ (get_pt_size p)
  have h4 := h2 35 _ (get_pt_off p)
  rw [Nat.zero_add] at h3 h4
  exact ⟨h3, h4⟩
/-- What a record makes of a state. -/
def stepP (s : St) (r : Rc) : St × Bool :=
  if r.kind = 0 then beginP s r
  else if r.kind = 4 then (if r.id < s.next then (s, false) else (⟨s.parts, r.id + 1⟩, true))
  else if r.kind = 1 then
    match s.parts.findIdx? (fun x => decide (x.id = r.id)) with
    | none => (s, false)
    | some i => match s.parts[i]? with
      | none => (s, false)
      | some p => if r.off < p.off ∨ p.size < r.off then (s, false) else (⟨s.parts.set i { p with off := r.off }, s.next⟩, true)
  else if r.kind = 2 ∨ r.kind = 3 then
    match s.parts.findIdx? (fun x => decide (x.id = r.id)) with
    | none => (s, false)
    | some i => (⟨s.parts.eraseIdx i, s.next⟩, true)
  else (s, false)
set_option linter.unusedVariables false in
set_option maxHeartbeats 8000000 in
set_option maxRecDepth 100000 in
theorem Step_other (A : Option Addr) (c : Nat) (l : List Pt) (nx : Int) (r : Rc) (w : World) (hC : Kd.C kPt w A l.length l) (hc : l.length ≤ c) (hlen : l.length ≤ 64) (hid : r.id ≤ 2199023255552) (hid0 : -9223372036854775808 ≤ r.id) (h0 : ¬ r.kind = 0) (h1 : ¬ r.kind = 1) (h2 : ¬ r.kind = 2) (h3 : ¬ r.kind = 3) (h4 : ¬ r.kind = 4) :
    Calls Tryd.prog 27 #[.agg #[.slice A l.length c, .int .i64 nx], .agg (rcL r).toArray] w fun e w' => ∃ v : Value, e = .returned (.tuple #[.agg #[v, .int .i64 (stepP ⟨l, nx⟩ r).1.next], .bool (stepP ⟨l, nx⟩ r).2]) ∧ Kd.R kPt 75 w' w.heap.size (fun _ => True) v (stepP ⟨l, nx⟩ r).1.parts ∧ Below w.heap.size w w' := by
  have HC := Aside0.mk hC
  clear hC
  have HP := Aside0.mk (show stepP ⟨l, nx⟩ r = (⟨l, nx⟩, false) by simp [stepP, *])
  go_enter Tryd.func27, Tryd.ntmps27
  go_wp2_with (first | (go_at_call 79; refine (ownS_calls A c l nx _ (Kd.C_below HC.out ?_) hc (Nat.le_trans hlen (by decide))).mono ?_; (exact below_alloc (below_alloc (below_alloc (Below.refl _ _) _) _) _); rintro e w2 ⟨v, rfl, ho, hb2⟩; obtain ⟨A2, c2, rfl⟩ := Kd.R_slice ho; obtain ⟨hcl, hfz⟩ := bcell hb2; have z0 : ¬ (w.heap.size = w2.heap.size) := (by have h_ := hb2.size; simp at h_; omega); have y0 : w.heap.size < w2.heap.size := (by have h_ := hb2.size; simp at h_; omega); have c0_0 : w2.cell? ⟨w.heap.size, 0, none⟩ = some (.slice A l.length c) := (by rw [hcl _ _ (by first | omega | (simp; done) | (simp; omega))]; first | (go_simp; done) | (simp [*]; done) | (simp [go_sem, *]; done)); have f0_0 : w2.frozen? ⟨w.heap.size, 0, none⟩ = false := (by rw [hfz _ _ (by first | omega | (simp; done) | (simp; omega))]; first | (go_simp; done) | (simp [*]; done) | (simp [go_sem, *]; done)); have c0_1 : w2.cell? ⟨w.heap.size, 1, none⟩ = some (.int .i64 nx) := (by rw [hcl _ _ (by first | omega | (simp; done) | (simp; omega))]; first | (go_simp; done) | (simp [*]; done) | (simp [go_sem, *]; done)); have f0_1 : w2.frozen? ⟨w.heap.size, 1, none⟩ = false := (by rw [hfz _ _ (by first | omega | (simp; done) | (simp; omega))]; first | (go_simp; done) | (simp [*]; done) | (simp [go_sem, *]; done)); have z1 : ¬ (w.heap.size + 1 = w2.heap.size) := (by have h_ := hb2.size; simp at h_; omega); have y1 : w.heap.size + 1 < w2.heap.size := (by have h_ := hb2.size; simp at h_; omega); have c1_0 : w2.cell? ⟨w.heap.size + 1, 0, none⟩ = some (.int .u8 r.kind) := (by rw [hcl _ _ (by first | omega | (simp; done) | (simp; omega))]; first | (go_simp; done) | (simp [*]; done) | (simp [go_sem, *]; done)); have c1_1 : w2.cell? ⟨w.heap.size + 1, 1, none⟩ = some (.int .i64 r.id) := (by rw [hcl _ _ (by first | omega | (simp; done) | (simp; omega))]; first | (go_simp; done) | (simp [*]; done) | (simp [go_sem, *]; done)); have c1_36 : w2.cell? ⟨w.heap.size + 1, 36, none⟩ = some (.int .i64 r.off) := (by rw [hcl _ _ (by first | omega | (simp; done) | (simp; omega))]; first | (go_simp; done) | (simp [*]; done) | (simp [go_sem, *]; done)); have z2 : ¬ (w.heap.size + 1 + 1 = w2.heap.size) := (by have h_ := hb2.size; simp at h_; omega); have y2 : w.heap.size + 1 + 1 < w2.heap.size := (by have h_ := hb2.size; simp at h_; omega); have c2_0 : w2.cell? ⟨w.heap.size + 1 + 1, 0, none⟩ = some (.slice none 0 0) := (by rw [hcl _ _ (by first | omega | (simp; done) | (simp; omega))]; first | (go_simp; done) | (simp [*]; done) | (simp [go_sem, *]; done)); have f2_0 : w2.frozen? ⟨w.heap.size + 1 + 1, 0, none⟩ = false := (by rw [hfz _ _ (by first | omega | (simp; done) | (simp; omega))]; first | (go_simp; done) | (simp [*]; done) | (simp [go_sem, *]; done)); have c2_1 : w2.cell? ⟨w.heap.size + 1 + 1, 1, none⟩ = some (.int .i64 0) := (by rw [hcl _ _ (by first | omega | (simp; done) | (simp; omega))]; first | (go_simp; done) | (simp [*]; done) | (simp [go_sem, *]; done)); have f2_1 : w2.frozen? ⟨w.heap.size + 1 + 1, 1, none⟩ = false := (by rw [hfz _ _ (by first | omega | (simp; done) | (simp; omega))]; first | (go_simp; done) | (simp [*]; done) | (simp [go_sem, *]; done)); have r0 : rowAt w2 ⟨w.heap.size + 1, 0, none⟩ 37 = some (rcL r) := (by rw [rowAt_below hb2 (by first | omega | (simp; done) | (simp; omega))]; first | (go_simp; done) | (simp [*]; done) | (simp [go_sem, *]; done)); have HO2 := Aside0.mk (Kd.R_lower (base' := w.heap.size + 1 + 1 + 1) ho (by simp)); have HB2 := Aside0.mk (Below.trans (below_alloc (below_alloc (below_alloc (Below.refl w.heap.size w) _) _) _) (hb2.mono (by simp; omega))); clear hb2 hcl hfz ho) | (go_at_call 80; refine (idx_id A2 c2 l r.id _ _ (Kd.R_reads' (flat_put (flat_put HO2.out (by omega)) (by omega))).2.2 (Nat.le_trans hlen (by decide)) ?hc1).mono ?_; (case hc1 => first | (go_simp; done) | (simp [go_sem, *]; done)); rintro e w3 ⟨rfl, hb3⟩; obtain ⟨hcl, hfz⟩ := bcell hb3; have zi0 : ¬ (w.heap.size = w3.heap.size) := (by have h_ := hb3.size; simp at h_; omega); have yi0 : w.heap.size < w3.heap.size := (by have h_ := hb3.size; simp at h_; omega); have ci0_0 : w3.cell? ⟨w.heap.size, 0, none⟩ = some (.slice A2 l.length c2) := (by rw [hcl _ _ (by first | omega | (simp; done) | (simp; omega))]; first | (go_simp; done) | (simp [*]; done) | (simp [go_sem, *]; done)); have fi0_0 : w3.frozen? ⟨w.heap.size, 0, none⟩ = false := (by rw [hfz _ _ (by first | omega | (simp; done) | (simp; omega))]; first | (go_simp; done) | (simp [*]; done) | (simp [go_sem, *]; done)); have ci0_1 : w3.cell? ⟨w.heap.size, 1, none⟩ = some (.int .i64 nx) := (by rw [hcl _ _ (by first | omega | (simp; done) | (simp; omega))]; first | (go_simp; done) | (simp [*]; done) | (simp [go_sem, *]; done)); have fi0_1 : w3.frozen? ⟨w.heap.size, 1, none⟩ = false := (by rw [hfz _ _ (by first | omega | (simp; done) | (simp; omega))]; first | (go_simp; done) | (simp [*]; done) | (simp [go_sem, *]; done)); have zi1 : ¬ (w.heap.size + 1 = w3.heap.size) := (by have h_ := hb3.size; simp at h_; omega); have yi1 : w.heap.size + 1 < w3.heap.size := (by have h_ := hb3.size; simp at h_; omega); have ci1_0 : w3.cell? ⟨w.heap.size + 1, 0, none⟩ = some (.int .u8 r.kind) := (by rw [hcl _ _ (by first | omega | (simp; done) | (simp; omega))]; first | (go_simp; done) | (simp [*]; done) | (simp [go_sem, *]; done)); have ci1_1 : w3.cell? ⟨w.heap.size + 1, 1, none⟩ = some (.int .i64 r.id) := (by rw [hcl _ _ (by first | omega | (simp; done) | (simp; omega))]; first | (go_simp; done) | (simp [*]; done) | (simp [go_sem, *]; done)); have ci1_36 : w3.cell? ⟨w.heap.size + 1, 36, none⟩ = some (.int .i64 r.off) := (by rw [hcl _ _ (by first | omega | (simp; done) | (simp; omega))]; first | (go_simp; done) | (simp [*]; done) | (simp [go_sem, *]; done)); have zi2 : ¬ (w.heap.size + 1 + 1 = w3.heap.size) := (by have h_ := hb3.size; simp at h_; omega); have yi2 : w.heap.size + 1 + 1 < w3.heap.size := (by have h_ := hb3.size; simp at h_; omega); have ci2_0 : w3.cell? ⟨w.heap.size + 1 + 1, 0, none⟩ = some (.slice none 0 0) := (by rw [hcl _ _ (by first | omega | (simp; done) | (simp; omega))]; first | (go_simp; done) | (simp [*]; done) | (simp [go_sem, *]; done)); have fi2_0 : w3.frozen? ⟨w.heap.size + 1 + 1, 0, none⟩ = false := (by rw [hfz _ _ (by first | omega | (simp; done) | (simp; omega))]; first | (go_simp; done) | (simp [*]; done) | (simp [go_sem, *]; done)); have ci2_1 : w3.cell? ⟨w.heap.size + 1 + 1, 1, none⟩ = some (.int .i64 0) := (by rw [hcl _ _ (by first | omega | (simp; done) | (simp; omega))]; first | (go_simp; done) | (simp [*]; done) | (simp [go_sem, *]; done)); have fi2_1 : w3.frozen? ⟨w.heap.size + 1 + 1, 1, none⟩ = false := (by rw [hfz _ _ (by first | omega | (simp; done) | (simp; omega))]; first | (go_simp; done) | (simp [*]; done) | (simp [go_sem, *]; done)); have ri0 : rowAt w3 ⟨w.heap.size + 1, 0, none⟩ 37 = some (rcL r) := (by rw [rowAt_below hb3 (by first | omega | (simp; done) | (simp; omega))]; first | (go_simp; done) | (simp [*]; done) | (simp [go_sem, *]; done)); have HO3 := Aside0.mk (Kd.R_below (flat_put (flat_put HO2.out (by omega)) (by omega)) hb3); have HB3 := Aside0.mk (Below.trans (below_setCell (below_setCell HB2.out (by omega) _) (by omega) _) (hb3.mono (by simp; omega))); clear hb3 hcl hfz))
  refine bodyPost_ret (v := .tuple #[.agg #[.slice A2 l.length c2, .int .i64 nx], .bool false]) (by simp [results, Tryd.results27, go_sem, *]) rfl ⟨_, by rw [HP.out], ?_, ?_⟩
  · rw [HP.out]; exact Kd.R_lower (flat_put (flat_put (HO3.out) (by omega)) (by omega)) (by omega)
  · have hs3 := HB3.out.size; (repeat' (first | exact HB3.out | (with_reducible refine below_setCell ?_ ?_ _) | (with_reducible refine below_setRow ?_ ?_ _) | (with_reducible refine Below.alloc ?_ ?_ _) | (with_reducible refine below_drew ?_) | (with_reducible refine pw_below_drewN ?_ _) | (with_reducible exact Below.refl _ _) | omega | (simp; done) | (simp; omega)))
set_option linter.unusedVariables false in
set_option maxHeartbeats 8000000 in
set_option maxRecDepth 100000 in
theorem Step_skip0 (A : Option Addr) (c : Nat) (l : List Pt) (nx : Int) (r : Rc) (w : World) (hC : Kd.C kPt w A l.length l) (hc : l.length ≤ c) (hlen : l.length ≤ 64) (hid : r.id ≤ 2199023255552) (hid0 : -9223372036854775808 ≤ r.id) (hk : r.kind = 4) (h1 : r.id < nx) :
    Calls Tryd.prog 27 #[.agg #[.slice A l.length c, .int .i64 nx], .agg (rcL r).toArray] w fun e w' => ∃ v : Value, e = .returned (.tuple #[.agg #[v, .int .i64 (stepP ⟨l, nx⟩ r).1.next], .bool (stepP ⟨l, nx⟩ r).2]) ∧ Kd.R kPt 75 w' w.heap.size (fun _ => True) v (stepP ⟨l, nx⟩ r).1.parts ∧ Below w.heap.size w w' := by
  have HC := Aside0.mk hC
  clear hC
  have HP := Aside0.mk (show stepP ⟨l, nx⟩ r = (⟨l, nx⟩, false) by simp [stepP, *])
  go_enter Tryd.func27, Tryd.ntmps27
  go_wp2_with (first | (go_at_call 79; refine (ownS_calls A c l nx _ (Kd.C_below HC.out ?_) hc (Nat.le_trans hlen (by decide))).mono ?_; (exact below_alloc (below_alloc (below_alloc (Below.refl _ _) _) _) _); rintro e w2 ⟨v, rfl, ho, hb2⟩; obtain ⟨A2, c2, rfl⟩ := Kd.R_slice ho; obtain ⟨hcl, hfz⟩ := bcell hb2; have z0 : ¬ (w.heap.size = w2.heap.size) := (by have h_ := hb2.size; simp at h_; omega); have y0 : w.heap.size < w2.heap.size := (by have h_ := hb2.size; simp at h_; omega); have c0_0 : w2.cell? ⟨w.heap.size, 0, none⟩ = some (.slice A l.length c) := (by rw [hcl _ _ (by first | omega | (simp; done) | (simp; omega))]; first | (go_simp; done) | (simp [*]; done) | (simp [go_sem, *]; done)); have f0_0 : w2.frozen? ⟨w.heap.size, 0, none⟩ = false := (by rw [hfz _ _ (by first | omega | (simp; done) | (simp; omega))]; first | (go_simp; done) | (simp [*]; done) | (simp [go_sem, *]; done)); have c0_1 : w2.cell? ⟨w.heap.size, 1, none⟩ = some (.int .i64 nx) := (by rw [hcl _ _ (by first | omega | (simp; done) | (simp; omega))]; first | (go_simp; done) | (simp [*]; done) | (simp [go_sem, *]; done)); have f0_1 : w2.frozen? ⟨w.heap.size, 1, none⟩ = false := (by rw [hfz _ _ (by first | omega | (simp; done) | (simp; omega))]; first | (go_simp; done) | (simp [*]; done) | (simp [go_sem, *]; done)); have z1 : ¬ (w.heap.size + 1 = w2.heap.size) := (by have h_ := hb2.size; simp at h_; omega); have y1 : w.heap.size + 1 < w2.heap.size := (by have h_ := hb2.size; simp at h_; omega); have c1_0 : w2.cell? ⟨w.heap.size + 1, 0, none⟩ = some (.int .u8 r.kind) := (by rw [hcl _ _ (by first | omega | (simp; done) | (simp; omega))]; first | (go_simp; done) | (simp [*]; done) | (simp [go_sem, *]; done)); have c1_1 : w2.cell? ⟨w.heap.size + 1, 1, none⟩ = some (.int .i64 r.id) := (by rw [hcl _ _ (by first | omega | (simp; done) | (simp; omega))]; first | (go_simp; done) | (simp [*]; done) | (simp [go_sem, *]; done)); have c1_36 : w2.cell? ⟨w.heap.size + 1, 36, none⟩ = some (.int .i64 r.off) := (by rw [hcl _ _ (by first | omega | (simp; done) | (simp; omega))]; first | (go_simp; done) | (simp [*]; done) | (simp [go_sem, *]; done)); have z2 : ¬ (w.heap.size + 1 + 1 = w2.heap.size) := (by have h_ := hb2.size; simp at h_; omega); have y2 : w.heap.size + 1 + 1 < w2.heap.size := (by have h_ := hb2.size; simp at h_; omega); have c2_0 : w2.cell? ⟨w.heap.size + 1 + 1, 0, none⟩ = some (.slice none 0 0) := (by rw [hcl _ _ (by first | omega | (simp; done) | (simp; omega))]; first | (go_simp; done) | (simp [*]; done) | (simp [go_sem, *]; done)); have f2_0 : w2.frozen? ⟨w.heap.size + 1 + 1, 0, none⟩ = false := (by rw [hfz _ _ (by first | omega | (simp; done) | (simp; omega))]; first | (go_simp; done) | (simp [*]; done) | (simp [go_sem, *]; done)); have c2_1 : w2.cell? ⟨w.heap.size + 1 + 1, 1, none⟩ = some (.int .i64 0) := (by rw [hcl _ _ (by first | omega | (simp; done) | (simp; omega))]; first | (go_simp; done) | (simp [*]; done) | (simp [go_sem, *]; done)); have f2_1 : w2.frozen? ⟨w.heap.size + 1 + 1, 1, none⟩ = false := (by rw [hfz _ _ (by first | omega | (simp; done) | (simp; omega))]; first | (go_simp; done) | (simp [*]; done) | (simp [go_sem, *]; done)); have r0 : rowAt w2 ⟨w.heap.size + 1, 0, none⟩ 37 = some (rcL r) := (by rw [rowAt_below hb2 (by first | omega | (simp; done) | (simp; omega))]; first | (go_simp; done) | (simp [*]; done) | (simp [go_sem, *]; done)); have HO2 := Aside0.mk (Kd.R_lower (base' := w.heap.size + 1 + 1 + 1) ho (by simp)); have HB2 := Aside0.mk (Below.trans (below_alloc (below_alloc (below_alloc (Below.refl w.heap.size w) _) _) _) (hb2.mono (by simp; omega))); clear hb2 hcl hfz ho) | (go_at_call 80; refine (idx_id A2 c2 l r.id _ _ (Kd.R_reads' (flat_put (flat_put HO2.out (by omega)) (by omega))).2.2 (Nat.le_trans hlen (by decide)) ?hc1).mono ?_; (case hc1 => first | (go_simp; done) | (simp [go_sem, *]; done)); rintro e w3 ⟨rfl, hb3⟩; obtain ⟨hcl, hfz⟩ := bcell hb3; have zi0 : ¬ (w.heap.size = w3.heap.size) := (by have h_ := hb3.size; simp at h_; omega); have yi0 : w.heap.size < w3.heap.size := (by have h_ := hb3.size; simp at h_; omega); have ci0_0 : w3.cell? ⟨w.heap.size, 0, none⟩ = some (.slice A2 l.length c2) := (by rw [hcl _ _ (by first | omega | (simp; done) | (simp; omega))]; first | (go_simp; done) | (simp [*]; done) | (simp [go_sem, *]; done)); have fi0_0 : w3.frozen? ⟨w.heap.size, 0, none⟩ = false := (by rw [hfz _ _ (by first | omega | (simp; done) | (simp; omega))]; first | (go_simp; done) | (simp [*]; done) | (simp [go_sem, *]; done)); have ci0_1 : w3.cell? ⟨w.heap.size, 1, none⟩ = some (.int .i64 nx) := (by rw [hcl _ _ (by first | omega | (simp; done) | (simp; omega))]; first | (go_simp; done) | (simp [*]; done) | (simp [go_sem, *]; done)); have fi0_1 : w3.frozen? ⟨w.heap.size, 1, none⟩ = false := (by rw [hfz _ _ (by first | omega | (simp; done) | (simp; omega))]; first | (go_simp; done) | (simp [*]; done) | (simp [go_sem, *]; done)); have zi1 : ¬ (w.heap.size + 1 = w3.heap.size) := (by have h_ := hb3.size; simp at h_; omega); have yi1 : w.heap.size + 1 < w3.heap.size := (by have h_ := hb3.size; simp at h_; omega); have ci1_0 : w3.cell? ⟨w.heap.size + 1, 0, none⟩ = some (.int .u8 r.kind) := (by rw [hcl _ _ (by first | omega | (simp; done) | (simp; omega))]; first | (go_simp; done) | (simp [*]; done) | (simp [go_sem, *]; done)); have ci1_1 : w3.cell? ⟨w.heap.size + 1, 1, none⟩ = some (.int .i64 r.id) := (by rw [hcl _ _ (by first | omega | (simp; done) | (simp; omega))]; first | (go_simp; done) | (simp [*]; done) | (simp [go_sem, *]; done)); have ci1_36 : w3.cell? ⟨w.heap.size + 1, 36, none⟩ = some (.int .i64 r.off) := (by rw [hcl _ _ (by first | omega | (simp; done) | (simp; omega))]; first | (go_simp; done) | (simp [*]; done) | (simp [go_sem, *]; done)); have zi2 : ¬ (w.heap.size + 1 + 1 = w3.heap.size) := (by have h_ := hb3.size; simp at h_; omega); have yi2 : w.heap.size + 1 + 1 < w3.heap.size := (by have h_ := hb3.size; simp at h_; omega); have ci2_0 : w3.cell? ⟨w.heap.size + 1 + 1, 0, none⟩ = some (.slice none 0 0) := (by rw [hcl _ _ (by first | omega | (simp; done) | (simp; omega))]; first | (go_simp; done) | (simp [*]; done) | (simp [go_sem, *]; done)); have fi2_0 : w3.frozen? ⟨w.heap.size + 1 + 1, 0, none⟩ = false := (by rw [hfz _ _ (by first | omega | (simp; done) | (simp; omega))]; first | (go_simp; done) | (simp [*]; done) | (simp [go_sem, *]; done)); have ci2_1 : w3.cell? ⟨w.heap.size + 1 + 1, 1, none⟩ = some (.int .i64 0) := (by rw [hcl _ _ (by first | omega | (simp; done) | (simp; omega))]; first | (go_simp; done) | (simp [*]; done) | (simp [go_sem, *]; done)); have fi2_1 : w3.frozen? ⟨w.heap.size + 1 + 1, 1, none⟩ = false := (by rw [hfz _ _ (by first | omega | (simp; done) | (simp; omega))]; first | (go_simp; done) | (simp [*]; done) | (simp [go_sem, *]; done)); have ri0 : rowAt w3 ⟨w.heap.size + 1, 0, none⟩ 37 = some (rcL r) := (by rw [rowAt_below hb3 (by first | omega | (simp; done) | (simp; omega))]; first | (go_simp; done) | (simp [*]; done) | (simp [go_sem, *]; done)); have HO3 := Aside0.mk (Kd.R_below (flat_put (flat_put HO2.out (by omega)) (by omega)) hb3); have HB3 := Aside0.mk (Below.trans (below_setCell (below_setCell HB2.out (by omega) _) (by omega) _) (hb3.mono (by simp; omega))); clear hb3 hcl hfz))
  refine bodyPost_ret (v := .tuple #[.agg #[.slice A2 l.length c2, .int .i64 nx], .bool false]) (by simp [results, Tryd.results27, go_sem, *]) rfl ⟨_, by rw [HP.out], ?_, ?_⟩
  · rw [HP.out]; exact Kd.R_lower (flat_put (flat_put (HO3.out) (by omega)) (by omega)) (by omega)
  · have hs3 := HB3.out.size; (repeat' (first | exact HB3.out | (with_reducible refine below_setCell ?_ ?_ _) | (with_reducible refine below_setRow ?_ ?_ _) | (with_reducible refine Below.alloc ?_ ?_ _) | (with_reducible refine below_drew ?_) | (with_reducible refine pw_below_drewN ?_ _) | (with_reducible exact Below.refl _ _) | omega | (simp; done) | (simp; omega)))
set_option linter.unusedVariables false in
set_option maxHeartbeats 8000000 in
set_option maxRecDepth 100000 in
theorem Step_skip1 (A : Option Addr) (c : Nat) (l : List Pt) (nx : Int) (r : Rc) (w : World) (hC : Kd.C kPt w A l.length l) (hc : l.length ≤ c) (hlen : l.length ≤ 64) (hid : r.id ≤ 2199023255552) (hid0 : -9223372036854775808 ≤ r.id) (hk : r.kind = 4) (h1 : ¬ r.id < nx) :
    Calls Tryd.prog 27 #[.agg #[.slice A l.length c, .int .i64 nx], .agg (rcL r).toArray] w fun e w' => ∃ v : Value, e = .returned (.tuple #[.agg #[v, .int .i64 (stepP ⟨l, nx⟩ r).1.next], .bool (stepP ⟨l, nx⟩ r).2]) ∧ Kd.R kPt 75 w' w.heap.size (fun _ => True) v (stepP ⟨l, nx⟩ r).1.parts ∧ Below w.heap.size w w' := by
  have HC := Aside0.mk hC
  clear hC
  have HP := Aside0.mk (show stepP ⟨l, nx⟩ r = (⟨l, r.id + 1⟩, true) by simp [stepP, *])
  have hw1 : IntKind.i64.wrap (r.id + 1) = r.id + 1 := IntWalk.i64_in _ (by omega)
  go_enter Tryd.func27, Tryd.ntmps27
  go_wp2_with (first | (go_at_call 79; refine (ownS_calls A c l nx _ (Kd.C_below HC.out ?_) hc (Nat.le_trans hlen (by decide))).mono ?_; (exact below_alloc (below_alloc (below_alloc (Below.refl _ _) _) _) _); rintro e w2 ⟨v, rfl, ho, hb2⟩; obtain ⟨A2, c2, rfl⟩ := Kd.R_slice ho; obtain ⟨hcl, hfz⟩ := bcell hb2; have z0 : ¬ (w.heap.size = w2.heap.size) := (by have h_ := hb2.size; simp at h_; omega); have y0 : w.heap.size < w2.heap.size := (by have h_ := hb2.size; simp at h_; omega); have c0_0 : w2.cell? ⟨w.heap.size, 0, none⟩ = some (.slice A l.length c) := (by rw [hcl _ _ (by first | omega | (simp; done) | (simp; omega))]; first | (go_simp; done) | (simp [*]; done) | (simp [go_sem, *]; done)); have f0_0 : w2.frozen? ⟨w.heap.size, 0, none⟩ = false := (by rw [hfz _ _ (by first | omega | (simp; done) | (simp; omega))]; first | (go_simp; done) | (simp [*]; done) | (simp [go_sem, *]; done)); have c0_1 : w2.cell? ⟨w.heap.size, 1, none⟩ = some (.int .i64 nx) := (by rw [hcl _ _ (by first | omega | (simp; done) | (simp; omega))]; first | (go_simp; done) | (simp [*]; done) | (simp [go_sem, *]; done)); have f0_1 : w2.frozen? ⟨w.heap.size, 1, none⟩ = false := (by rw [hfz _ _ (by first | omega | (simp; done) | (simp; omega))]; first | (go_simp; done) | (simp [*]; done) | (simp [go_sem, *]; done)); have z1 : ¬ (w.heap.size + 1 = w2.heap.size) := (by have h_ := hb2.size; simp at h_; omega); have y1 : w.heap.size + 1 < w2.heap.size := (by have h_ := hb2.size; simp at h_; omega); have c1_0 : w2.cell? ⟨w.heap.size + 1, 0, none⟩ = some (.int .u8 r.kind) := (by rw [hcl _ _ (by first | omega | (simp; done) | (simp; omega))]; first | (go_simp; done) | (simp [*]; done) | (simp [go_sem, *]; done)); have c1_1 : w2.cell? ⟨w.heap.size + 1, 1, none⟩ = some (.int .i64 r.id) := (by rw [hcl _ _ (by first | omega | (simp; done) | (simp; omega))]; first | (go_simp; done) | (simp [*]; done) | (simp [go_sem, *]; done)); have c1_36 : w2.cell? ⟨w.heap.size + 1, 36, none⟩ = some (.int .i64 r.off) := (by rw [hcl _ _ (by first | omega | (simp; done) | (simp; omega))]; first | (go_simp; done) | (simp [*]; done) | (simp [go_sem, *]; done)); have z2 : ¬ (w.heap.size + 1 + 1 = w2.heap.size) := (by have h_ := hb2.size; simp at h_; omega); have y2 : w.heap.size + 1 + 1 < w2.heap.size := (by have h_ := hb2.size; simp at h_; omega); have c2_0 : w2.cell? ⟨w.heap.size + 1 + 1, 0, none⟩ = some (.slice none 0 0) := (by rw [hcl _ _ (by first | omega | (simp; done) | (simp; omega))]; first | (go_simp; done) | (simp [*]; done) | (simp [go_sem, *]; done)); have f2_0 : w2.frozen? ⟨w.heap.size + 1 + 1, 0, none⟩ = false := (by rw [hfz _ _ (by first | omega | (simp; done) | (simp; omega))]; first | (go_simp; done) | (simp [*]; done) | (simp [go_sem, *]; done)); have c2_1 : w2.cell? ⟨w.heap.size + 1 + 1, 1, none⟩ = some (.int .i64 0) := (by rw [hcl _ _ (by first | omega | (simp; done) | (simp; omega))]; first | (go_simp; done) | (simp [*]; done) | (simp [go_sem, *]; done)); have f2_1 : w2.frozen? ⟨w.heap.size + 1 + 1, 1, none⟩ = false := (by rw [hfz _ _ (by first | omega | (simp; done) | (simp; omega))]; first | (go_simp; done) | (simp [*]; done) | (simp [go_sem, *]; done)); have r0 : rowAt w2 ⟨w.heap.size + 1, 0, none⟩ 37 = some (rcL r) := (by rw [rowAt_below hb2 (by first | omega | (simp; done) | (simp; omega))]; first | (go_simp; done) | (simp [*]; done) | (simp [go_sem, *]; done)); have HO2 := Aside0.mk (Kd.R_lower (base' := w.heap.size + 1 + 1 + 1) ho (by simp)); have HB2 := Aside0.mk (Below.trans (below_alloc (below_alloc (below_alloc (Below.refl w.heap.size w) _) _) _) (hb2.mono (by simp; omega))); clear hb2 hcl hfz ho) | (go_at_call 80; refine (idx_id A2 c2 l r.id _ _ (Kd.R_reads' (flat_put (flat_put HO2.out (by omega)) (by omega))).2.2 (Nat.le_trans hlen (by decide)) ?hc1).mono ?_; (case hc1 => first | (go_simp; done) | (simp [go_sem, *]; done)); rintro e w3 ⟨rfl, hb3⟩; obtain ⟨hcl, hfz⟩ := bcell hb3; have zi0 : ¬ (w.heap.size = w3.heap.size) := (by have h_ := hb3.size; simp at h_; omega); have yi0 : w.heap.size < w3.heap.size := (by have h_ := hb3.size; simp at h_; omega); have ci0_0 : w3.cell? ⟨w.heap.size, 0, none⟩ = some (.slice A2 l.length c2) := (by rw [hcl _ _ (by first | omega | (simp; done) | (simp; omega))]; first | (go_simp; done) | (simp [*]; done) | (simp [go_sem, *]; done)); have fi0_0 : w3.frozen? ⟨w.heap.size, 0, none⟩ = false := (by rw [hfz _ _ (by first | omega | (simp; done) | (simp; omega))]; first | (go_simp; done) | (simp [*]; done) | (simp [go_sem, *]; done)); have ci0_1 : w3.cell? ⟨w.heap.size, 1, none⟩ = some (.int .i64 nx) := (by rw [hcl _ _ (by first | omega | (simp; done) | (simp; omega))]; first | (go_simp; done) | (simp [*]; done) | (simp [go_sem, *]; done)); have fi0_1 : w3.frozen? ⟨w.heap.size, 1, none⟩ = false := (by rw [hfz _ _ (by first | omega | (simp; done) | (simp; omega))]; first | (go_simp; done) | (simp [*]; done) | (simp [go_sem, *]; done)); have zi1 : ¬ (w.heap.size + 1 = w3.heap.size) := (by have h_ := hb3.size; simp at h_; omega); have yi1 : w.heap.size + 1 < w3.heap.size := (by have h_ := hb3.size; simp at h_; omega); have ci1_0 : w3.cell? ⟨w.heap.size + 1, 0, none⟩ = some (.int .u8 r.kind) := (by rw [hcl _ _ (by first | omega | (simp; done) | (simp; omega))]; first | (go_simp; done) | (simp [*]; done) | (simp [go_sem, *]; done)); have ci1_1 : w3.cell? ⟨w.heap.size + 1, 1, none⟩ = some (.int .i64 r.id) := (by rw [hcl _ _ (by first | omega | (simp; done) | (simp; omega))]; first | (go_simp; done) | (simp [*]; done) | (simp [go_sem, *]; done)); have ci1_36 : w3.cell? ⟨w.heap.size + 1, 36, none⟩ = some (.int .i64 r.off) := (by rw [hcl _ _ (by first | omega | (simp; done) | (simp; omega))]; first | (go_simp; done) | (simp [*]; done) | (simp [go_sem, *]; done)); have zi2 : ¬ (w.heap.size + 1 + 1 = w3.heap.size) := (by have h_ := hb3.size; simp at h_; omega); have yi2 : w.heap.size + 1 + 1 < w3.heap.size := (by have h_ := hb3.size; simp at h_; omega); have ci2_0 : w3.cell? ⟨w.heap.size + 1 + 1, 0, none⟩ = some (.slice none 0 0) := (by rw [hcl _ _ (by first | omega | (simp; done) | (simp; omega))]; first | (go_simp; done) | (simp [*]; done) | (simp [go_sem, *]; done)); have fi2_0 : w3.frozen? ⟨w.heap.size + 1 + 1, 0, none⟩ = false := (by rw [hfz _ _ (by first | omega | (simp; done) | (simp; omega))]; first | (go_simp; done) | (simp [*]; done) | (simp [go_sem, *]; done)); have ci2_1 : w3.cell? ⟨w.heap.size + 1 + 1, 1, none⟩ = some (.int .i64 0) := (by rw [hcl _ _ (by first | omega | (simp; done) | (simp; omega))]; first | (go_simp; done) | (simp [*]; done) | (simp [go_sem, *]; done)); have fi2_1 : w3.frozen? ⟨w.heap.size + 1 + 1, 1, none⟩ = false := (by rw [hfz _ _ (by first | omega | (simp; done) | (simp; omega))]; first | (go_simp; done) | (simp [*]; done) | (simp [go_sem, *]; done)); have ri0 : rowAt w3 ⟨w.heap.size + 1, 0, none⟩ 37 = some (rcL r) := (by rw [rowAt_below hb3 (by first | omega | (simp; done) | (simp; omega))]; first | (go_simp; done) | (simp [*]; done) | (simp [go_sem, *]; done)); have HO3 := Aside0.mk (Kd.R_below (flat_put (flat_put HO2.out (by omega)) (by omega)) hb3); have HB3 := Aside0.mk (Below.trans (below_setCell (below_setCell HB2.out (by omega) _) (by omega) _) (hb3.mono (by simp; omega))); clear hb3 hcl hfz))
  refine bodyPost_ret (v := .tuple #[.agg #[.slice A2 l.length c2, .int .i64 (r.id + 1)], .bool true]) (by simp [results, Tryd.results27, go_sem, *]) rfl ⟨_, by rw [HP.out], ?_, ?_⟩
  · rw [HP.out]; exact Kd.R_lower (flat_put (flat_put (flat_put (HO3.out) (by omega)) (by omega)) (by omega)) (by omega)
  · have hs3 := HB3.out.size; (repeat' (first | exact HB3.out | (with_reducible refine below_setCell ?_ ?_ _) | (with_reducible refine below_setRow ?_ ?_ _) | (with_reducible refine Below.alloc ?_ ?_ _) | (with_reducible refine below_drew ?_) | (with_reducible refine pw_below_drewN ?_ _) | (with_reducible exact Below.refl _ _) | omega | (simp; done) | (simp; omega)))
set_option linter.unusedVariables false in
set_option maxHeartbeats 8000000 in
set_option maxRecDepth 100000 in
theorem Step_del0 (A : Option Addr) (c : Nat) (l : List Pt) (nx : Int) (r : Rc) (w : World) (hC : Kd.C kPt w A l.length l) (hc : l.length ≤ c) (hlen : l.length ≤ 64) (hid : r.id ≤ 2199023255552) (hid0 : -9223372036854775808 ≤ r.id) (hk : r.kind = 2 ∨ r.kind = 3) (hn : l.findIdx? (fun x => decide (x.id = r.id)) = none) :
    Calls Tryd.prog 27 #[.agg #[.slice A l.length c, .int .i64 nx], .agg (rcL r).toArray] w fun e w' => ∃ v : Value, e = .returned (.tuple #[.agg #[v, .int .i64 (stepP ⟨l, nx⟩ r).1.next], .bool (stepP ⟨l, nx⟩ r).2]) ∧ Kd.R kPt 75 w' w.heap.size (fun _ => True) v (stepP ⟨l, nx⟩ r).1.parts ∧ Below w.heap.size w w' := by
  have HC := Aside0.mk hC
  clear hC
  have hi := show fstI (fun x : Pt => decide (x.id = r.id)) l = -1 by unfold fstI; rw [hn]
  have HI := Aside0.mk hi
  have HP := Aside0.mk (show stepP ⟨l, nx⟩ r = (⟨l, nx⟩, false) by rcases hk with hk | hk <;> simp [stepP, hk, hn])
  clear hi hn
  rcases hk with hk | hk
  all_goals
    go_enter Tryd.func27, Tryd.ntmps27
    go_wp2_with (first | (go_at_call 79; refine (ownS_calls A c l nx _ (Kd.C_below HC.out ?_) hc (Nat.le_trans hlen (by decide))).mono ?_; (exact below_alloc (below_alloc (below_alloc (Below.refl _ _) _) _) _); rintro e w2 ⟨v, rfl, ho, hb2⟩; obtain ⟨A2, c2, rfl⟩ := Kd.R_slice ho; obtain ⟨hcl, hfz⟩ := bcell hb2; have z0 : ¬ (w.heap.size = w2.heap.size) := (by have h_ := hb2.size; simp at h_; omega); have y0 : w.heap.size < w2.heap.size := (by have h_ := hb2.size; simp at h_; omega); have c0_0 : w2.cell? ⟨w.heap.size, 0, none⟩ = some (.slice A l.length c) := (by rw [hcl _ _ (by first | omega | (simp; done) | (simp; omega))]; first | (go_simp; done) | (simp [*]; done) | (simp [go_sem, *]; done)); have f0_0 : w2.frozen? ⟨w.heap.size, 0, none⟩ = false := (by rw [hfz _ _ (by first | omega | (simp; done) | (simp; omega))]; first | (go_simp; done) | (simp [*]; done) | (simp [go_sem, *]; done)); have c0_1 : w2.cell? ⟨w.heap.size, 1, none⟩ = some (.int .i64 nx) := (by rw [hcl _ _ (by first | omega | (simp; done) | (simp; omega))]; first | (go_simp; done) | (simp [*]; done) | (simp [go_sem, *]; done)); have f0_1 : w2.frozen? ⟨w.heap.size, 1, none⟩ = false := (by rw [hfz _ _ (by first | omega | (simp; done) | (simp; omega))]; first | (go_simp; done) | (simp [*]; done) | (simp [go_sem, *]; done)); have z1 : ¬ (w.heap.size + 1 = w2.heap.size) := (by have h_ := hb2.size; simp at h_; omega); have y1 : w.heap.size + 1 < w2.heap.size := (by have h_ := hb2.size; simp at h_; omega); have c1_0 : w2.cell? ⟨w.heap.size + 1, 0, none⟩ = some (.int .u8 r.kind) := (by rw [hcl _ _ (by first | omega | (simp; done) | (simp; omega))]; first | (go_simp; done) | (simp [*]; done) | (simp [go_sem, *]; done)); have c1_1 : w2.cell? ⟨w.heap.size + 1, 1, none⟩ = some (.int .i64 r.id) := (by rw [hcl _ _ (by first | omega | (simp; done) | (simp; omega))]; first | (go_simp; done) | (simp [*]; done) | (simp [go_sem, *]; done)); have c1_36 : w2.cell? ⟨w.heap.size + 1, 36, none⟩ = some (.int .i64 r.off) := (by rw [hcl _ _ (by first | omega | (simp; done) | (simp; omega))]; first | (go_simp; done) | (simp [*]; done) | (simp [go_sem, *]; done)); have z2 : ¬ (w.heap.size + 1 + 1 = w2.heap.size) := (by have h_ := hb2.size; simp at h_; omega); have y2 : w.heap.size + 1 + 1 < w2.heap.size := (by have h_ := hb2.size; simp at h_; omega); have c2_0 : w2.cell? ⟨w.heap.size + 1 + 1, 0, none⟩ = some (.slice none 0 0) := (by rw [hcl _ _ (by first | omega | (simp; done) | (simp; omega))]; first | (go_simp; done) | (simp [*]; done) | (simp [go_sem, *]; done)); have f2_0 : w2.frozen? ⟨w.heap.size + 1 + 1, 0, none⟩ = false := (by rw [hfz _ _ (by first | omega | (simp; done) | (simp; omega))]; first | (go_simp; done) | (simp [*]; done) | (simp [go_sem, *]; done)); have c2_1 : w2.cell? ⟨w.heap.size + 1 + 1, 1, none⟩ = some (.int .i64 0) := (by rw [hcl _ _ (by first | omega | (simp; done) | (simp; omega))]; first | (go_simp; done) | (simp [*]; done) | (simp [go_sem, *]; done)); have f2_1 : w2.frozen? ⟨w.heap.size + 1 + 1, 1, none⟩ = false := (by rw [hfz _ _ (by first | omega | (simp; done) | (simp; omega))]; first | (go_simp; done) | (simp [*]; done) | (simp [go_sem, *]; done)); have r0 : rowAt w2 ⟨w.heap.size + 1, 0, none⟩ 37 = some (rcL r) := (by rw [rowAt_below hb2 (by first | omega | (simp; done) | (simp; omega))]; first | (go_simp; done) | (simp [*]; done) | (simp [go_sem, *]; done)); have HO2 := Aside0.mk (Kd.R_lower (base' := w.heap.size + 1 + 1 + 1) ho (by simp)); have HB2 := Aside0.mk (Below.trans (below_alloc (below_alloc (below_alloc (Below.refl w.heap.size w) _) _) _) (hb2.mono (by simp; omega))); clear hb2 hcl hfz ho) | (go_at_call 80; refine (idx_id A2 c2 l r.id _ _ (Kd.R_reads' (flat_put (flat_put HO2.out (by omega)) (by omega))).2.2 (Nat.le_trans hlen (by decide)) ?hc1).mono ?_; (case hc1 => first | (go_simp; done) | (simp [go_sem, *]; done)); rintro e w3 ⟨rfl, hb3⟩; obtain ⟨hcl, hfz⟩ := bcell hb3; have zi0 : ¬ (w.heap.size = w3.heap.size) := (by have h_ := hb3.size; simp at h_; omega); have yi0 : w.heap.size < w3.heap.size := (by have h_ := hb3.size; simp at h_; omega); have ci0_0 : w3.cell? ⟨w.heap.size, 0, none⟩ = some (.slice A2 l.length c2) := (by rw [hcl _ _ (by first | omega | (simp; done) | (simp; omega))]; first | (go_simp; done) | (simp [*]; done) | (simp [go_sem, *]; done)); have fi0_0 : w3.frozen? ⟨w.heap.size, 0, none⟩ = false := (by rw [hfz _ _ (by first | omega | (simp; done) | (simp; omega))]; first | (go_simp; done) | (simp [*]; done) | (simp [go_sem, *]; done)); have ci0_1 : w3.cell? ⟨w.heap.size, 1, none⟩ = some (.int .i64 nx) := (by rw [hcl _ _ (by first | omega | (simp; done) | (simp; omega))]; first | (go_simp; done) | (simp [*]; done) | (simp [go_sem, *]; done)); have fi0_1 : w3.frozen? ⟨w.heap.size, 1, none⟩ = false := (by rw [hfz _ _ (by first | omega | (simp; done) | (simp; omega))]; first | (go_simp; done) | (simp [*]; done) | (simp [go_sem, *]; done)); have zi1 : ¬ (w.heap.size + 1 = w3.heap.size) := (by have h_ := hb3.size; simp at h_; omega); have yi1 : w.heap.size + 1 < w3.heap.size := (by have h_ := hb3.size; simp at h_; omega); have ci1_0 : w3.cell? ⟨w.heap.size + 1, 0, none⟩ = some (.int .u8 r.kind) := (by rw [hcl _ _ (by first | omega | (simp; done) | (simp; omega))]; first | (go_simp; done) | (simp [*]; done) | (simp [go_sem, *]; done)); have ci1_1 : w3.cell? ⟨w.heap.size + 1, 1, none⟩ = some (.int .i64 r.id) := (by rw [hcl _ _ (by first | omega | (simp; done) | (simp; omega))]; first | (go_simp; done) | (simp [*]; done) | (simp [go_sem, *]; done)); have ci1_36 : w3.cell? ⟨w.heap.size + 1, 36, none⟩ = some (.int .i64 r.off) := (by rw [hcl _ _ (by first | omega | (simp; done) | (simp; omega))]; first | (go_simp; done) | (simp [*]; done) | (simp [go_sem, *]; done)); have zi2 : ¬ (w.heap.size + 1 + 1 = w3.heap.size) := (by have h_ := hb3.size; simp at h_; omega); have yi2 : w.heap.size + 1 + 1 < w3.heap.size := (by have h_ := hb3.size; simp at h_; omega); have ci2_0 : w3.cell? ⟨w.heap.size + 1 + 1, 0, none⟩ = some (.slice none 0 0) := (by rw [hcl _ _ (by first | omega | (simp; done) | (simp; omega))]; first | (go_simp; done) | (simp [*]; done) | (simp [go_sem, *]; done)); have fi2_0 : w3.frozen? ⟨w.heap.size + 1 + 1, 0, none⟩ = false := (by rw [hfz _ _ (by first | omega | (simp; done) | (simp; omega))]; first | (go_simp; done) | (simp [*]; done) | (simp [go_sem, *]; done)); have ci2_1 : w3.cell? ⟨w.heap.size + 1 + 1, 1, none⟩ = some (.int .i64 0) := (by rw [hcl _ _ (by first | omega | (simp; done) | (simp; omega))]; first | (go_simp; done) | (simp [*]; done) | (simp [go_sem, *]; done)); have fi2_1 : w3.frozen? ⟨w.heap.size + 1 + 1, 1, none⟩ = false := (by rw [hfz _ _ (by first | omega | (simp; done) | (simp; omega))]; first | (go_simp; done) | (simp [*]; done) | (simp [go_sem, *]; done)); have ri0 : rowAt w3 ⟨w.heap.size + 1, 0, none⟩ 37 = some (rcL r) := (by rw [rowAt_below hb3 (by first | omega | (simp; done) | (simp; omega))]; first | (go_simp; done) | (simp [*]; done) | (simp [go_sem, *]; done)); have HO3 := Aside0.mk (Kd.R_below (flat_put (flat_put HO2.out (by omega)) (by omega)) hb3); have HB3 := Aside0.mk (Below.trans (below_setCell (below_setCell HB2.out (by omega) _) (by omega) _) (hb3.mono (by simp; omega))); clear hb3 hcl hfz; rw [HI.out]))
    refine bodyPost_ret (v := .tuple #[.agg #[.slice A2 l.length c2, .int .i64 nx], .bool false]) (by simp [results, Tryd.results27, go_sem, *]) rfl ⟨_, by rw [HP.out], ?_, ?_⟩
    · rw [HP.out]; exact Kd.R_lower (flat_put (flat_put (HO3.out) (by omega)) (by omega)) (by omega)
    · have hs3 := HB3.out.size; (repeat' (first | exact HB3.out | (with_reducible refine below_setCell ?_ ?_ _) | (with_reducible refine below_setRow ?_ ?_ _) | (with_reducible refine Below.alloc ?_ ?_ _) | (with_reducible refine below_drew ?_) | (with_reducible refine pw_below_drewN ?_ _) | (with_reducible exact Below.refl _ _) | omega | (simp; done) | (simp; omega)))
  
set_option linter.unusedVariables false in
set_option maxHeartbeats 8000000 in
set_option maxRecDepth 100000 in
theorem Step_del1 (A : Option Addr) (c : Nat) (l : List Pt) (nx : Int) (r : Rc) (w : World) (hC : Kd.C kPt w A l.length l) (hc : l.length ≤ c) (hlen : l.length ≤ 64) (hid : r.id ≤ 2199023255552) (hid0 : -9223372036854775808 ≤ r.id) (i : Nat) (hk : r.kind = 2 ∨ r.kind = 3) (hn : l.findIdx? (fun x => decide (x.id = r.id)) = some i) :
    Calls Tryd.prog 27 #[.agg #[.slice A l.length c, .int .i64 nx], .agg (rcL r).toArray] w fun e w' => ∃ v : Value, e = .returned (.tuple #[.agg #[v, .int .i64 (stepP ⟨l, nx⟩ r).1.next], .bool (stepP ⟨l, nx⟩ r).2]) ∧ Kd.R kPt 75 w' w.heap.size (fun _ => True) v (stepP ⟨l, nx⟩ r).1.parts ∧ Below w.heap.size w w' := by
  have HC := Aside0.mk hC
  clear hC
  obtain ⟨hil, hid2, hid3⟩ := List.findIdx?_eq_some_iff_getElem.1 hn
  clear hid3
  have hi := show fstI (fun x : Pt => decide (x.id = r.id)) l = (i : Int) by unfold fstI; rw [hn]
  have HI := Aside0.mk hi
  have HIL := Aside0.mk hil
  have HP := Aside0.mk (show stepP ⟨l, nx⟩ r = (⟨l.eraseIdx i, nx⟩, true) by rcases hk with hk | hk <;> simp [stepP, hk, hn])
  have hw1 : IntKind.i64.wrap ((i : Int) + 1) = (i : Int) + 1 := IntWalk.i64_in _ (by omega)
  clear hi hn hil hid2
  rcases hk with hk | hk
  all_goals
    go_enter Tryd.func27, Tryd.ntmps27
    go_wp2_with (first | (go_at_call 79; refine (ownS_calls A c l nx _ (Kd.C_below HC.out ?_) hc (Nat.le_trans hlen (by decide))).mono ?_; (exact below_alloc (below_alloc (below_alloc (Below.refl _ _) _) _) _); rintro e w2 ⟨v, rfl, ho, hb2⟩; obtain ⟨A2, c2, rfl⟩ := Kd.R_slice ho; obtain ⟨hcl, hfz⟩ := bcell hb2; have z0 : ¬ (w.heap.size = w2.heap.size) := (by have h_ := hb2.size; simp at h_; omega); have y0 : w.heap.size < w2.heap.size := (by have h_ := hb2.size; simp at h_; omega); have c0_0 : w2.cell? ⟨w.heap.size, 0, none⟩ = some (.slice A l.length c) := (by rw [hcl _ _ (by first | omega | (simp; done) | (simp; omega))]; first | (go_simp; done) | (simp [*]; done) | (simp [go_sem, *]; done)); have f0_0 : w2.frozen? ⟨w.heap.size, 0, none⟩ = false := (by rw [hfz _ _ (by first | omega | (simp; done) | (simp; omega))]; first | (go_simp; done) | (simp [*]; done) | (simp [go_sem, *]; done)); have c0_1 : w2.cell? ⟨w.heap.size, 1, none⟩ = some (.int .i64 nx) := (by rw [hcl _ _ (by first | omega | (simp; done) | (simp; omega))]; first | (go_simp; done) | (simp [*]; done) | (simp [go_sem, *]; done)); have f0_1 : w2.frozen? ⟨w.heap.size, 1, none⟩ = false := (by rw [hfz _ _ (by first | omega | (simp; done) | (simp; omega))]; first | (go_simp; done) | (simp [*]; done) | (simp [go_sem, *]; done)); have z1 : ¬ (w.heap.size + 1 = w2.heap.size) := (by have h_ := hb2.size; simp at h_; omega); have y1 : w.heap.size + 1 < w2.heap.size := (by have h_ := hb2.size; simp at h_; omega); have c1_0 : w2.cell? ⟨w.heap.size + 1, 0, none⟩ = some (.int .u8 r.kind) := (by rw [hcl _ _ (by first | omega | (simp; done) | (simp; omega))]; first | (go_simp; done) | (simp [*]; done) | (simp [go_sem, *]; done)); have c1_1 : w2.cell? ⟨w.heap.size + 1, 1, none⟩ = some (.int .i64 r.id) := (by rw [hcl _ _ (by first | omega | (simp; done) | (simp; omega))]; first | (go_simp; done) | (simp [*]; done) | (simp [go_sem, *]; done)); have c1_36 : w2.cell? ⟨w.heap.size + 1, 36, none⟩ = some (.int .i64 r.off) := (by rw [hcl _ _ (by first | omega | (simp; done) | (simp; omega))]; first | (go_simp; done) | (simp [*]; done) | (simp [go_sem, *]; done)); have z2 : ¬ (w.heap.size + 1 + 1 = w2.heap.size) := (by have h_ := hb2.size; simp at h_; omega); have y2 : w.heap.size + 1 + 1 < w2.heap.size := (by have h_ := hb2.size; simp at h_; omega); have c2_0 : w2.cell? ⟨w.heap.size + 1 + 1, 0, none⟩ = some (.slice none 0 0) := (by rw [hcl _ _ (by first | omega | (simp; done) | (simp; omega))]; first | (go_simp; done) | (simp [*]; done) | (simp [go_sem, *]; done)); have f2_0 : w2.frozen? ⟨w.heap.size + 1 + 1, 0, none⟩ = false := (by rw [hfz _ _ (by first | omega | (simp; done) | (simp; omega))]; first | (go_simp; done) | (simp [*]; done) | (simp [go_sem, *]; done)); have c2_1 : w2.cell? ⟨w.heap.size + 1 + 1, 1, none⟩ = some (.int .i64 0) := (by rw [hcl _ _ (by first | omega | (simp; done) | (simp; omega))]; first | (go_simp; done) | (simp [*]; done) | (simp [go_sem, *]; done)); have f2_1 : w2.frozen? ⟨w.heap.size + 1 + 1, 1, none⟩ = false := (by rw [hfz _ _ (by first | omega | (simp; done) | (simp; omega))]; first | (go_simp; done) | (simp [*]; done) | (simp [go_sem, *]; done)); have r0 : rowAt w2 ⟨w.heap.size + 1, 0, none⟩ 37 = some (rcL r) := (by rw [rowAt_below hb2 (by first | omega | (simp; done) | (simp; omega))]; first | (go_simp; done) | (simp [*]; done) | (simp [go_sem, *]; done)); have HO2 := Aside0.mk (Kd.R_lower (base' := w.heap.size + 1 + 1 + 1) ho (by simp)); have HB2 := Aside0.mk (Below.trans (below_alloc (below_alloc (below_alloc (Below.refl w.heap.size w) _) _) _) (hb2.mono (by simp; omega))); clear hb2 hcl hfz ho) | (go_at_call 80; refine (idx_id A2 c2 l r.id _ _ (Kd.R_reads' (flat_put (flat_put HO2.out (by omega)) (by omega))).2.2 (Nat.le_trans hlen (by decide)) ?hc1).mono ?_; (case hc1 => first | (go_simp; done) | (simp [go_sem, *]; done)); rintro e w3 ⟨rfl, hb3⟩; obtain ⟨hcl, hfz⟩ := bcell hb3; have zi0 : ¬ (w.heap.size = w3.heap.size) := (by have h_ := hb3.size; simp at h_; omega); have yi0 : w.heap.size < w3.heap.size := (by have h_ := hb3.size; simp at h_; omega); have ci0_0 : w3.cell? ⟨w.heap.size, 0, none⟩ = some (.slice A2 l.length c2) := (by rw [hcl _ _ (by first | omega | (simp; done) | (simp; omega))]; first | (go_simp; done) | (simp [*]; done) | (simp [go_sem, *]; done)); have fi0_0 : w3.frozen? ⟨w.heap.size, 0, none⟩ = false := (by rw [hfz _ _ (by first | omega | (simp; done) | (simp; omega))]; first | (go_simp; done) | (simp [*]; done) | (simp [go_sem, *]; done)); have ci0_1 : w3.cell? ⟨w.heap.size, 1, none⟩ = some (.int .i64 nx) := (by rw [hcl _ _ (by first | omega | (simp; done) | (simp; omega))]; first | (go_simp; done) | (simp [*]; done) | (simp [go_sem, *]; done)); have fi0_1 : w3.frozen? ⟨w.heap.size, 1, none⟩ = false := (by rw [hfz _ _ (by first | omega | (simp; done) | (simp; omega))]; first | (go_simp; done) | (simp [*]; done) | (simp [go_sem, *]; done)); have zi1 : ¬ (w.heap.size + 1 = w3.heap.size) := (by have h_ := hb3.size; simp at h_; omega); have yi1 : w.heap.size + 1 < w3.heap.size := (by have h_ := hb3.size; simp at h_; omega); have ci1_0 : w3.cell? ⟨w.heap.size + 1, 0, none⟩ = some (.int .u8 r.kind) := (by rw [hcl _ _ (by first | omega | (simp; done) | (simp; omega))]; first | (go_simp; done) | (simp [*]; done) | (simp [go_sem, *]; done)); have ci1_1 : w3.cell? ⟨w.heap.size + 1, 1, none⟩ = some (.int .i64 r.id) := (by rw [hcl _ _ (by first | omega | (simp; done) | (simp; omega))]; first | (go_simp; done) | (simp [*]; done) | (simp [go_sem, *]; done)); have ci1_36 : w3.cell? ⟨w.heap.size + 1, 36, none⟩ = some (.int .i64 r.off) := (by rw [hcl _ _ (by first | omega | (simp; done) | (simp; omega))]; first | (go_simp; done) | (simp [*]; done) | (simp [go_sem, *]; done)); have zi2 : ¬ (w.heap.size + 1 + 1 = w3.heap.size) := (by have h_ := hb3.size; simp at h_; omega); have yi2 : w.heap.size + 1 + 1 < w3.heap.size := (by have h_ := hb3.size; simp at h_; omega); have ci2_0 : w3.cell? ⟨w.heap.size + 1 + 1, 0, none⟩ = some (.slice none 0 0) := (by rw [hcl _ _ (by first | omega | (simp; done) | (simp; omega))]; first | (go_simp; done) | (simp [*]; done) | (simp [go_sem, *]; done)); have fi2_0 : w3.frozen? ⟨w.heap.size + 1 + 1, 0, none⟩ = false := (by rw [hfz _ _ (by first | omega | (simp; done) | (simp; omega))]; first | (go_simp; done) | (simp [*]; done) | (simp [go_sem, *]; done)); have ci2_1 : w3.cell? ⟨w.heap.size + 1 + 1, 1, none⟩ = some (.int .i64 0) := (by rw [hcl _ _ (by first | omega | (simp; done) | (simp; omega))]; first | (go_simp; done) | (simp [*]; done) | (simp [go_sem, *]; done)); have fi2_1 : w3.frozen? ⟨w.heap.size + 1 + 1, 1, none⟩ = false := (by rw [hfz _ _ (by first | omega | (simp; done) | (simp; omega))]; first | (go_simp; done) | (simp [*]; done) | (simp [go_sem, *]; done)); have ri0 : rowAt w3 ⟨w.heap.size + 1, 0, none⟩ 37 = some (rcL r) := (by rw [rowAt_below hb3 (by first | omega | (simp; done) | (simp; omega))]; first | (go_simp; done) | (simp [*]; done) | (simp [go_sem, *]; done)); have HO3 := Aside0.mk (Kd.R_below (flat_put (flat_put HO2.out (by omega)) (by omega)) hb3); have HB3 := Aside0.mk (Below.trans (below_setCell (below_setCell HB2.out (by omega) _) (by omega) _) (hb3.mono (by simp; omega))); clear hb3 hcl hfz; rw [HI.out]; obtain ⟨g, rfl, hg1, hg2⟩ := R_some HO3.out (Nat.lt_of_le_of_lt (Nat.zero_le _) HIL.out); have HG := Aside0.mk (And.intro hg1 hg2); clear hg1 hg2) | (go_at_call 83; refine (Delete_at g c2 i (w.heap.size + 1 + 1 + 1) _ l w3 HO3.out HIL.out (Nat.le_trans hlen (by decide)) (by have := HG.out.2; omega)).mono ?_; rintro e w4 ⟨rfl, ho4, hon⟩; have hb4 := hon.below HG.out.1 (by have := HG.out.2; omega); have hcl : ∀ b o, b < w.heap.size + 1 + 1 + 1 → w4.cell? ⟨b, o, none⟩ = w3.cell? ⟨b, o, none⟩ := fun b o h => hb4.cell (p := ⟨b, o, none⟩) h; have hfz : ∀ b o, b < w.heap.size + 1 + 1 + 1 → w4.frozen? ⟨b, o, none⟩ = w3.frozen? ⟨b, o, none⟩ := fun b o h => hb4.frozen (p := ⟨b, o, none⟩) h; have cd0_0 : w4.cell? ⟨w.heap.size, 0, none⟩ = some (.slice (some ⟨g, 0, none⟩) l.length c2) := (by rw [hcl _ _ (by first | omega | (simp; done) | (simp; omega))]; first | (go_simp; done) | (simp [*]; done) | (simp [go_sem, *]; done)); have fd0_0 : w4.frozen? ⟨w.heap.size, 0, none⟩ = false := (by rw [hfz _ _ (by first | omega | (simp; done) | (simp; omega))]; first | (go_simp; done) | (simp [*]; done) | (simp [go_sem, *]; done)); have cd0_1 : w4.cell? ⟨w.heap.size, 1, none⟩ = some (.int .i64 nx) := (by rw [hcl _ _ (by first | omega | (simp; done) | (simp; omega))]; first | (go_simp; done) | (simp [*]; done) | (simp [go_sem, *]; done)); have fd0_1 : w4.frozen? ⟨w.heap.size, 1, none⟩ = false := (by rw [hfz _ _ (by first | omega | (simp; done) | (simp; omega))]; first | (go_simp; done) | (simp [*]; done) | (simp [go_sem, *]; done)); have cd1_0 : w4.cell? ⟨w.heap.size + 1 + 1, 0, none⟩ = some (.slice none 0 0) := (by rw [hcl _ _ (by first | omega | (simp; done) | (simp; omega))]; first | (go_simp; done) | (simp [*]; done) | (simp [go_sem, *]; done)); have fd1_0 : w4.frozen? ⟨w.heap.size + 1 + 1, 0, none⟩ = false := (by rw [hfz _ _ (by first | omega | (simp; done) | (simp; omega))]; first | (go_simp; done) | (simp [*]; done) | (simp [go_sem, *]; done)); have cd1_1 : w4.cell? ⟨w.heap.size + 1 + 1, 1, none⟩ = some (.int .i64 0) := (by rw [hcl _ _ (by first | omega | (simp; done) | (simp; omega))]; first | (go_simp; done) | (simp [*]; done) | (simp [go_sem, *]; done)); have fd1_1 : w4.frozen? ⟨w.heap.size + 1 + 1, 1, none⟩ = false := (by rw [hfz _ _ (by first | omega | (simp; done) | (simp; omega))]; first | (go_simp; done) | (simp [*]; done) | (simp [go_sem, *]; done)); have HO4 := Aside0.mk ho4; have HB4 := Aside0.mk (HB3.out.trans (hb4.mono (by omega))); have HS4 := Aside0.mk hon.size; clear ho4 hon hb4 hcl hfz))
    refine bodyPost_ret (v := .tuple #[.agg #[.slice (some ⟨g, 0, none⟩) (l.length - 1) c2, .int .i64 nx], .bool true]) (by simp [results, Tryd.results27, go_sem, *]) rfl ⟨_, by rw [HP.out], ?_, ?_⟩
    · rw [HP.out]; exact Kd.R_lower (flat_put (flat_put (flat_put (HO4.out) (by omega)) (by omega)) (by omega)) (by omega)
    · have hs4 := HS4.out; have hs3 := HG.out.2; (repeat' (first | exact HB4.out | (with_reducible refine below_setCell ?_ ?_ _) | (with_reducible refine below_setRow ?_ ?_ _) | (with_reducible refine Below.alloc ?_ ?_ _) | (with_reducible refine below_drew ?_) | (with_reducible refine pw_below_drewN ?_ _) | (with_reducible exact Below.refl _ _) | omega | (simp; done) | (simp; omega)))
end Go.Proofs.YtiohgpcbdefokaaDoor.B
/- sumpterlaw15.same of two lists that are one. No condition. -/
namespace Go.Proofs.YtiohgpcbdefokaaDoor.B
open Go.RowKit Go.Proofs.YtiohgpcbdefokaaDoorW.PrintWords Go.Proofs.YtiohgpcbdefokaaDoor.RowLaws
attribute [local go_sem ↓ high] lvO_hs ldO_hs stO_hs lvO_pt ldO_pt stO_pt zero_pt eqA_pt lvO_ptR ldO_ptR stO_ptR zero_ptR eqA_ptR lvO_rc ldO_rc stO_rc zero_rc eqA_rc lvO_rcR ldO_rcR stO_rcR zero_rcR eqA_rcR lvO_tk ldO_tk stO_tk zero_tk eqA_tk lvO_tkR ldO_tkR stO_tkR zero_tkR eqA_tkR lvO_it ldO_it stO_it zero_it eqA_it blO_pt blO_ptR blO_rc blO_rcR blO_tk blO_tkR blO_it bsO_pt bsO_ptR bsO_rc bsO_rcR bsO_it
attribute [local go_sem high] rowAt_setCell rowAt_setRow cell_setRow_ne isRow_setRow_ne rowAt_alloc rowAt_drew isRow_alloc isRow_drew isRow_setCell rowRun_some okL_hs ldV_hs ldA_hs stA_hs setRow_alloc get_pt_id get_pt_path cut_pt_sum get_pt_size get_pt_off cut_pt okL_pt size_pt lenb_pt eta_pt ldV_pt ldA_pt stA_pt ldV_ptR ldA_ptR stA_ptR get_rc_kind get_rc_id get_rc_path cut_rc_sum get_rc_size get_rc_off cut_rc okL_rc size_rc lenb_rc eta_rc ldV_rc ldA_rc stA_rc ldV_rcR ldA_rcR stA_rcR get_tk_path cut_tk_sum get_tk_size get_tk_off cut_tk_old cut_tk okL_tk size_tk lenb_tk eta_tk ldV_tk ldA_tk stA_tk ldV_tkR ldA_tkR stA_tkR get_it_path get_it_dir get_it_size cut_it_sum cut_it okL_it size_it lenb_it eta_it ldV_it ldA_it stA_it bld_pt_01234 bld_pt_0123 bld_pt_z bld_ptR_01234 bld_ptR_0123 bld_ptR_z bld_rc_012345 bld_rc_015 bld_rc_01 bld_rc_z bld_rc_01234 bld_rc_24 bld_rc_05 bld_rc_0 bld_rcR_012345 bld_rcR_015 bld_rcR_01 bld_rcR_z bld_rcR_01234 bld_rcR_24 bld_rcR_05 bld_rcR_0 bld_tk_01234 bld_tk_0 bld_tk_z bld_tkR_01234 bld_tkR_0 bld_tkR_z bld_it_0123 bld_it_023 bld_it_01 bld_it_0 bld_it_z bs0_pt bs1_pt bs0_ptR bs1_ptR bs0_rc bs1_rc bs0_rcR bs1_rcR bs0_it bs1_it
theorem keepSm {a b : Addr} {x y : List Value} {n : Nat} {W W' : World} (h : rowAt W a n = some x ∧ rowAt W b n = some y) {B : Nat} (hb : Below B W W') (h1 : a.block < B) (h2 : b.block < B) : rowAt W' a n = some x ∧ rowAt W' b n = some y :=
  ⟨by rw [rowAt_below hb h1]; exact h.1, by rw [rowAt_below hb h2]; exact h.2⟩
set_option linter.unusedVariables false in
set_option maxHeartbeats 8000000 in
set_option maxRecDepth 100000 in
theorem same_calls (A A' : Option Addr) (c c' : Nat) (l : List Rc) (w : World) (hC : Kd.C kRc w A l.length l) (hD : Kd.C kRc w A' l.length l) (hlen : l.length ≤ 1000) :
    Calls Tryd.prog 36 #[.slice A l.length c, .slice A' l.length c'] w fun e w' => e = .returned (.bool true) ∧ Below w.heap.size w w' := by
  have HC := Aside0.mk hC
  have HD := Aside0.mk hD
  clear hC hD
  go_enter Tryd.func36, Tryd.ntmps36
  go_wp2
  go_loopw [5] (fun i wr => ∃ k : Nat, k ≤ l.length ∧ i = .int .i64 k ∧ Aside0 (Below w.heap.size w wr)) (fun i _ => l.length - (intOf i).toNat)
  case atStart => exact ⟨0, Nat.zero_le _, rfl, ⟨Below.refl _ _⟩⟩
  case round =>
    obtain ⟨k, hk, rfl, HB⟩ := hrel
    by_cases hlt : k < l.length
    · obtain ⟨b, o, hA, hb, hr⟩ := flat_at HC.out (by decide) (by omega)
      obtain ⟨b', o', hA', hb', hr'⟩ := flat_at HD.out (by decide) (by omega)
      subst hA hA'
      have hrow := (hr k hlt).1
      have hrow' := (hr' k hlt).1
      rw [← rowAt_below HB.out hb] at hrow
      rw [← rowAt_below HB.out hb'] at hrow'
      obtain ⟨x, hx⟩ : ∃ x, x = l[k] := ⟨_, rfl⟩
      rw [← hx] at hrow hrow'
      have HBZ := Aside0.mk (And.intro (Nat.lt_of_lt_of_le hb HB.out.size) (Nat.lt_of_lt_of_le hb' HB.out.size))
      clear hr hr' hx
      have hlt2 : (k : Int) < (l.length : Int) := by omega
      have hS := And.intro hrow hrow'
      clear hrow hrow'
      go_wp2
      go_region_held3 (fun w' => rowAt w' ⟨b, o + k * 37, none⟩ 37 = some (rcL x) ∧ rowAt w' ⟨b', o' + k * 37, none⟩ 37 = some (rcL x)) (first | assumption | exact keepSm hS (below_drew (Below.refl wr.heap.size wr)) HBZ.out.1 HBZ.out.2)
        (first
          | (go_at_call 86; refine (as_calls x _).mono ?_; rintro e w2 ⟨rfl, hb2⟩; have hb2' : Below wr.heap.size wr w2 := (by first | exact hb2 | exact Below.trans (below_drew (Below.refl wr.heap.size wr)) hb2); have hS2 := keepSm hS hb2' HBZ.out.1 HBZ.out.2; have HB2 := Aside0.mk (below_step HB.out hb2'); clear hb2 hb2'))
      all_goals
        go_wp2
        go_roundw
        case rel => exact ⟨k + 1, by omega, by simp, HB2⟩
        case measure => simp [intOf]; omega
    · have hk2 : k = l.length := by omega
      subst hk2
      go_wp2
      go_ret
      exact ⟨rfl, HB.out⟩
end Go.Proofs.YtiohgpcbdefokaaDoor.B
/- Laws for regions that draw their order and only read: one operation after the other, with the rest kept shut. No condition. -/
namespace Go.Proofs.YtiohgpcbdefokaaDoor.B
open Go.RowKit
theorem wpStill_plain {P : Program} {ops : Array Oper} {w : World} {Q : Act → Prop} {a : Act} {o : Oper} {rest : List Oper} (hg : o.guard = none)
    (h : ∀ K : Act → Prop, Hid (K = wpStill P ops w Q rest) → o.still P a w K) : wpStill P ops w Q (o :: rest) a := by
  show if _ then _ else _
  rw [if_pos (by simp [Region.wanted, hg])]; exact h _ rfl
theorem wpStill_held {P : Program} {ops : Array Oper} {w : World} {Q : Act → Prop} {a : Act} {o : Oper} {rest : List Oper} (hg : Region.wanted o (yielded ops a.tmps) = true)
    (h : ∀ K : Act → Prop, Hid (K = wpStill P ops w Q rest) → o.still P a w K) : wpStill P ops w Q (o :: rest) a := by
  show if _ then _ else _
  rw [if_pos hg]; exact h _ rfl
theorem wpStill_skip {P : Program} {ops : Array Oper} {w : World} {Q : Act → Prop} {a : Act} {o : Oper} {rest : List Oper} (hg : Region.wanted o (yielded ops a.tmps) = false)
    (h : ∀ K : Act → Prop, Hid (K = wpStill P ops w Q rest) → K (a.put o.dst undef)) : wpStill P ops w Q (o :: rest) a := by
  show if _ then _ else _
  rw [if_neg (by rw [hg]; decide)]; exact h _ rfl
theorem still_back {K F : Act → Prop} {a : Act} (h : Hid (K = F)) (hf : F a) : K a := by rw [show K = F from h]; exact hf
end Go.Proofs.YtiohgpcbdefokaaDoor.B
/- record.Step at a mark. No condition. -/
namespace Go.Proofs.YtiohgpcbdefokaaDoor.B
open Go.RowKit Go.Proofs.YtiohgpcbdefokaaDoorW.PrintWords Go.Proofs.YtiohgpcbdefokaaDoor.RowLaws
attribute [local go_sem ↓ high] lvO_hs ldO_hs stO_hs lvO_pt ldO_pt stO_pt zero_pt eqA_pt lvO_ptR ldO_ptR stO_ptR zero_ptR eqA_ptR lvO_rc ldO_rc stO_rc zero_rc eqA_rc lvO_rcR ldO_rcR stO_rcR zero_rcR eqA_rcR lvO_tk ldO_tk stO_tk zero_tk eqA_tk lvO_tkR ldO_tkR stO_tkR zero_tkR eqA_tkR lvO_it ldO_it stO_it zero_it eqA_it blO_pt blO_ptR blO_rc blO_rcR blO_tk blO_tkR blO_it bsO_pt bsO_ptR bsO_rc bsO_rcR bsO_it
attribute [local go_sem high] rowAt_setCell rowAt_setRow cell_setRow_ne isRow_setRow_ne rowAt_alloc rowAt_drew isRow_alloc isRow_drew isRow_setCell rowRun_some okL_hs ldV_hs ldA_hs stA_hs setRow_alloc get_pt_id get_pt_path cut_pt_sum get_pt_size get_pt_off cut_pt okL_pt size_pt lenb_pt eta_pt ldV_pt ldA_pt stA_pt ldV_ptR ldA_ptR stA_ptR get_rc_kind get_rc_id get_rc_path cut_rc_sum get_rc_size get_rc_off cut_rc okL_rc size_rc lenb_rc eta_rc ldV_rc ldA_rc stA_rc ldV_rcR ldA_rcR stA_rcR get_tk_path cut_tk_sum get_tk_size get_tk_off cut_tk_old cut_tk okL_tk size_tk lenb_tk eta_tk ldV_tk ldA_tk stA_tk ldV_tkR ldA_tkR stA_tkR get_it_path get_it_dir get_it_size cut_it_sum cut_it okL_it size_it lenb_it eta_it ldV_it ldA_it stA_it bld_pt_01234 bld_pt_0123 bld_pt_z bld_ptR_01234 bld_ptR_0123 bld_ptR_z bld_rc_012345 bld_rc_015 bld_rc_01 bld_rc_z bld_rc_01234 bld_rc_24 bld_rc_05 bld_rc_0 bld_rcR_012345 bld_rcR_015 bld_rcR_01 bld_rcR_z bld_rcR_01234 bld_rcR_24 bld_rcR_05 bld_rcR_0 bld_tk_01234 bld_tk_0 bld_tk_z bld_tkR_01234 bld_tkR_0 bld_tkR_z bld_it_0123 bld_it_023 bld_it_01 bld_it_0 bld_it_z bs0_pt bs1_pt bs0_ptR bs1_ptR bs0_rc bs1_rc bs0_rcR bs1_rcR bs0_it bs1_it
attribute [local irreducible] wpStill
theorem part_off {e : Nat} {W : World} {B c i g n : Nat} {ok : Nat → Prop} {l : List Pt} {p : Pt} (h : Kd.R kPt e W B ok (.slice (some ⟨g, 0, none⟩) n c) l) (hx : l[i]? = some p) (x : Int) :
    Kd.R kPt e (W.setCell ⟨g, i * 36 + 35, none⟩ (.int .i64 x)) B ok (.slice (some ⟨g, 0, none⟩) n c) (l.set i { p with off := x }) := by
  have hi := List.getElem?_eq_some_iff.1 hx
  obtain rfl := (Kd.R_reads' h).1
  have hil := hi.1
  obtain ⟨b, o, hA, _, hr⟩ := flat_at (Kd.R_reads' h).2.2 (by decide) (Nat.lt_of_le_of_lt (Nat.zero_le _) hil)
  injection hA with hA
  injection hA with hb ho
  subst hb ho
  have h2 := (hr i hi.1).2
  rw [hi.2] at h2
  have := Kd.R_seg (okp := fun k => ok k ∧ k ≠ g) (x' := { p with off := x }) h (i : Int) (by omega) (by omega) (c := ptL p) (seg := [.int .i64 x]) (j := 35) (ptL_len p) (fun j u hu => by have := h2 j u hu; rw [Nat.zero_add] at this; exact this) (show 35 + 1 ≤ 36 by decide) (show (ptL p).take 35 ++ [Value.int .i64 x] ++ (ptL p).drop (35 + 1) = ptL _ from ptL_off p x) (fun _ h => h)
  exact this.1
theorem part_frozen {W : World} {B c g n : Nat} {ok : Nat → Prop} {l : List Pt} (h : Kd.R kPt 75 W B ok (.slice (some ⟨g, 0, none⟩) n c) l) (j : Nat) : W.frozen? ⟨g, j, none⟩ = false := by
  obtain ⟨_, _, _, cur, hc, _⟩ := R_block h
  exact blk_frozen hc _
set_option linter.unusedVariables false in
set_option maxHeartbeats 8000000 in
set_option maxRecDepth 100000 in
theorem Step_mark1 (A : Option Addr) (c : Nat) (l : List Pt) (nx : Int) (r : Rc) (w : World) (hC : Kd.C kPt w A l.length l) (hc : l.length ≤ c) (hlen : l.length ≤ 64) (hid : r.id ≤ 2199023255552) (hid0 : -9223372036854775808 ≤ r.id) (hk : r.kind = 1) (i : Nat) (p : Pt) (hn : l.findIdx? (fun x => decide (x.id = r.id)) = some i) (hx : l[i]? = some p) (h1 : r.off < p.off) :
    Calls Tryd.prog 27 #[.agg #[.slice A l.length c, .int .i64 nx], .agg (rcL r).toArray] w fun e w' => ∃ v : Value, e = .returned (.tuple #[.agg #[v, .int .i64 (stepP ⟨l, nx⟩ r).1.next], .bool (stepP ⟨l, nx⟩ r).2]) ∧ Kd.R kPt 75 w' w.heap.size (fun _ => True) v (stepP ⟨l, nx⟩ r).1.parts ∧ Below w.heap.size w w' := by
  have HC := Aside0.mk hC
  clear hC
  obtain ⟨hil, hid2, hid3⟩ := List.findIdx?_eq_some_iff_getElem.1 hn
  clear hid3
  have hi := show fstI (fun x : Pt => decide (x.id = r.id)) l = (i : Int) by unfold fstI; rw [hn]
  have HI := Aside0.mk hi
  have HIL := Aside0.mk hil
  have HX := Aside0.mk hx
  have HP := Aside0.mk (show stepP ⟨l, nx⟩ r = (⟨l, nx⟩, false) by simp only [stepP]; rw [if_neg (by rw [hk]; decide), if_neg (by rw [hk]; decide), if_pos hk]; simp only [hn, hx]; rw [if_pos (.inl h1)])
  have hw2 : (i : Int) < (l.length : Int) := by omega
  clear hi hn hil hid2 hx
  go_enter Tryd.func27, Tryd.ntmps27
  go_wp2_with (first | (go_at_call 79; refine (ownS_calls A c l nx _ (Kd.C_below HC.out ?_) hc (Nat.le_trans hlen (by decide))).mono ?_; (exact below_alloc (below_alloc (below_alloc (Below.refl _ _) _) _) _); rintro e w2 ⟨v, rfl, ho, hb2⟩; obtain ⟨A2, c2, rfl⟩ := Kd.R_slice ho; obtain ⟨hcl, hfz⟩ := bcell hb2; have z0 : ¬ (w.heap.size = w2.heap.size) := (by have h_ := hb2.size; simp at h_; omega); have y0 : w.heap.size < w2.heap.size := (by have h_ := hb2.size; simp at h_; omega); have c0_0 : w2.cell? ⟨w.heap.size, 0, none⟩ = some (.slice A l.length c) := (by rw [hcl _ _ (by first | omega | (simp; done) | (simp; omega))]; first | (go_simp; done) | (simp [*]; done) | (simp [go_sem, *]; done)); have f0_0 : w2.frozen? ⟨w.heap.size, 0, none⟩ = false := (by rw [hfz _ _ (by first | omega | (simp; done) | (simp; omega))]; first | (go_simp; done) | (simp [*]; done) | (simp [go_sem, *]; done)); have c0_1 : w2.cell? ⟨w.heap.size, 1, none⟩ = some (.int .i64 nx) := (by rw [hcl _ _ (by first | omega | (simp; done) | (simp; omega))]; first | (go_simp; done) | (simp [*]; done) | (simp [go_sem, *]; done)); have f0_1 : w2.frozen? ⟨w.heap.size, 1, none⟩ = false := (by rw [hfz _ _ (by first | omega | (simp; done) | (simp; omega))]; first | (go_simp; done) | (simp [*]; done) | (simp [go_sem, *]; done)); have z1 : ¬ (w.heap.size + 1 = w2.heap.size) := (by have h_ := hb2.size; simp at h_; omega); have y1 : w.heap.size + 1 < w2.heap.size := (by have h_ := hb2.size; simp at h_; omega); have c1_0 : w2.cell? ⟨w.heap.size + 1, 0, none⟩ = some (.int .u8 r.kind) := (by rw [hcl _ _ (by first | omega | (simp; done) | (simp; omega))]; first | (go_simp; done) | (simp [*]; done) | (simp [go_sem, *]; done)); have c1_1 : w2.cell? ⟨w.heap.size + 1, 1, none⟩ = some (.int .i64 r.id) := (by rw [hcl _ _ (by first | omega | (simp; done) | (simp; omega))]; first | (go_simp; done) | (simp [*]; done) | (simp [go_sem, *]; done)); have c1_36 : w2.cell? ⟨w.heap.size + 1, 36, none⟩ = some (.int .i64 r.off) := (by rw [hcl _ _ (by first | omega | (simp; done) | (simp; omega))]; first | (go_simp; done) | (simp [*]; done) | (simp [go_sem, *]; done)); have z2 : ¬ (w.heap.size + 1 + 1 = w2.heap.size) := (by have h_ := hb2.size; simp at h_; omega); have y2 : w.heap.size + 1 + 1 < w2.heap.size := (by have h_ := hb2.size; simp at h_; omega); have c2_0 : w2.cell? ⟨w.heap.size + 1 + 1, 0, none⟩ = some (.slice none 0 0) := (by rw [hcl _ _ (by first | omega | (simp; done) | (simp; omega))]; first | (go_simp; done) | (simp [*]; done) | (simp [go_sem, *]; done)); have f2_0 : w2.frozen? ⟨w.heap.size + 1 + 1, 0, none⟩ = false := (by rw [hfz _ _ (by first | omega | (simp; done) | (simp; omega))]; first | (go_simp; done) | (simp [*]; done) | (simp [go_sem, *]; done)); have c2_1 : w2.cell? ⟨w.heap.size + 1 + 1, 1, none⟩ = some (.int .i64 0) := (by rw [hcl _ _ (by first | omega | (simp; done) | (simp; omega))]; first | (go_simp; done) | (simp [*]; done) | (simp [go_sem, *]; done)); have f2_1 : w2.frozen? ⟨w.heap.size + 1 + 1, 1, none⟩ = false := (by rw [hfz _ _ (by first | omega | (simp; done) | (simp; omega))]; first | (go_simp; done) | (simp [*]; done) | (simp [go_sem, *]; done)); have r0 : rowAt w2 ⟨w.heap.size + 1, 0, none⟩ 37 = some (rcL r) := (by rw [rowAt_below hb2 (by first | omega | (simp; done) | (simp; omega))]; first | (go_simp; done) | (simp [*]; done) | (simp [go_sem, *]; done)); have HO2 := Aside0.mk (Kd.R_lower (base' := w.heap.size + 1 + 1 + 1) ho (by simp)); have HB2 := Aside0.mk (Below.trans (below_alloc (below_alloc (below_alloc (Below.refl w.heap.size w) _) _) _) (hb2.mono (by simp; omega))); clear hb2 hcl hfz ho) | (go_at_call 80; refine (idx_id A2 c2 l r.id _ _ (Kd.R_reads' (flat_put (flat_put HO2.out (by omega)) (by omega))).2.2 (Nat.le_trans hlen (by decide)) ?hc1).mono ?_; (case hc1 => first | (go_simp; done) | (simp [go_sem, *]; done)); rintro e w3 ⟨rfl, hb3⟩; obtain ⟨hcl, hfz⟩ := bcell hb3; have zi0 : ¬ (w.heap.size = w3.heap.size) := (by have h_ := hb3.size; simp at h_; omega); have yi0 : w.heap.size < w3.heap.size := (by have h_ := hb3.size; simp at h_; omega); have ci0_0 : w3.cell? ⟨w.heap.size, 0, none⟩ = some (.slice A2 l.length c2) := (by rw [hcl _ _ (by first | omega | (simp; done) | (simp; omega))]; first | (go_simp; done) | (simp [*]; done) | (simp [go_sem, *]; done)); have fi0_0 : w3.frozen? ⟨w.heap.size, 0, none⟩ = false := (by rw [hfz _ _ (by first | omega | (simp; done) | (simp; omega))]; first | (go_simp; done) | (simp [*]; done) | (simp [go_sem, *]; done)); have ci0_1 : w3.cell? ⟨w.heap.size, 1, none⟩ = some (.int .i64 nx) := (by rw [hcl _ _ (by first | omega | (simp; done) | (simp; omega))]; first | (go_simp; done) | (simp [*]; done) | (simp [go_sem, *]; done)); have fi0_1 : w3.frozen? ⟨w.heap.size, 1, none⟩ = false := (by rw [hfz _ _ (by first | omega | (simp; done) | (simp; omega))]; first | (go_simp; done) | (simp [*]; done) | (simp [go_sem, *]; done)); have zi1 : ¬ (w.heap.size + 1 = w3.heap.size) := (by have h_ := hb3.size; simp at h_; omega); have yi1 : w.heap.size + 1 < w3.heap.size := (by have h_ := hb3.size; simp at h_; omega); have ci1_0 : w3.cell? ⟨w.heap.size + 1, 0, none⟩ = some (.int .u8 r.kind) := (by rw [hcl _ _ (by first | omega | (simp; done) | (simp; omega))]; first | (go_simp; done) | (simp [*]; done) | (simp [go_sem, *]; done)); have ci1_1 : w3.cell? ⟨w.heap.size + 1, 1, none⟩ = some (.int .i64 r.id) := (by rw [hcl _ _ (by first | omega | (simp; done) | (simp; omega))]; first | (go_simp; done) | (simp [*]; done) | (simp [go_sem, *]; done)); have ci1_36 : w3.cell? ⟨w.heap.size + 1, 36, none⟩ = some (.int .i64 r.off) := (by rw [hcl _ _ (by first | omega | (simp; done) | (simp; omega))]; first | (go_simp; done) | (simp [*]; done) | (simp [go_sem, *]; done)); have zi2 : ¬ (w.heap.size + 1 + 1 = w3.heap.size) := (by have h_ := hb3.size; simp at h_; omega); have yi2 : w.heap.size + 1 + 1 < w3.heap.size := (by have h_ := hb3.size; simp at h_; omega); have ci2_0 : w3.cell? ⟨w.heap.size + 1 + 1, 0, none⟩ = some (.slice none 0 0) := (by rw [hcl _ _ (by first | omega | (simp; done) | (simp; omega))]; first | (go_simp; done) | (simp [*]; done) | (simp [go_sem, *]; done)); have fi2_0 : w3.frozen? ⟨w.heap.size + 1 + 1, 0, none⟩ = false := (by rw [hfz _ _ (by first | omega | (simp; done) | (simp; omega))]; first | (go_simp; done) | (simp [*]; done) | (simp [go_sem, *]; done)); have ci2_1 : w3.cell? ⟨w.heap.size + 1 + 1, 1, none⟩ = some (.int .i64 0) := (by rw [hcl _ _ (by first | omega | (simp; done) | (simp; omega))]; first | (go_simp; done) | (simp [*]; done) | (simp [go_sem, *]; done)); have fi2_1 : w3.frozen? ⟨w.heap.size + 1 + 1, 1, none⟩ = false := (by rw [hfz _ _ (by first | omega | (simp; done) | (simp; omega))]; first | (go_simp; done) | (simp [*]; done) | (simp [go_sem, *]; done)); have ri0 : rowAt w3 ⟨w.heap.size + 1, 0, none⟩ 37 = some (rcL r) := (by rw [rowAt_below hb3 (by first | omega | (simp; done) | (simp; omega))]; first | (go_simp; done) | (simp [*]; done) | (simp [go_sem, *]; done)); have HO3 := Aside0.mk (Kd.R_below (flat_put (flat_put HO2.out (by omega)) (by omega)) hb3); have HB3 := Aside0.mk (Below.trans (below_setCell (below_setCell HB2.out (by omega) _) (by omega) _) (hb3.mono (by simp; omega))); clear hb3 hcl hfz; rw [HI.out]; obtain ⟨g, rfl, hg1, hg2⟩ := R_some HO3.out (Nat.lt_of_le_of_lt (Nat.zero_le _) HIL.out); have HG := Aside0.mk (And.intro hg1 hg2); clear hg1 hg2; obtain ⟨x4, x5⟩ := part_cells HO3.out HX.out; have HG0 := Aside0.mk HB3.out.size))
  refine still_tail_at 23 (by kernel_rfl) (by kernel_rfl) ?_
  intro W hW
  have HOW := Aside0.mk (show Kd.R kPt 75 W (w.heap.size + 1 + 1 + 1) (fun _ => True) (.slice (some ⟨g, 0, none⟩) l.length c2) l from by rw [hW]; exact Kd.R_drew HO3.out)
  have HBW := Aside0.mk (show Below w.heap.size w W from by rw [hW]; exact below_drew HB3.out)
  have hd1 : decide ((i : Int) < 0) = false := by simp
  have hd2 : decide (r.off < p.off) = true := by simp; omega
  have k0 : W.cell? ⟨w.heap.size, 0, none⟩ = some (.slice (some ⟨g, 0, none⟩) l.length c2) := by rw [hW]; exact ci0_0
  have k1 : W.cell? ⟨w.heap.size + 1, 36, none⟩ = some (.int .i64 r.off) := by rw [hW]; exact ci1_36
  have k2 : W.cell? ⟨g, i * 36 + 34, none⟩ = some (.int .i64 p.size) := by rw [hW]; exact x4
  have k3 : W.cell? ⟨g, i * 36 + 35, none⟩ = some (.int .i64 p.off) := by rw [hW]; exact x5
  have HZ := Aside0.mk (show W.cell? ⟨w.heap.size, 0, none⟩ = some (.slice (some ⟨g, 0, none⟩) l.length c2) ∧ W.cell? ⟨w.heap.size, 1, none⟩ = some (.int .i64 nx) ∧ W.frozen? ⟨w.heap.size, 0, none⟩ = false ∧ W.frozen? ⟨w.heap.size, 1, none⟩ = false ∧ W.cell? ⟨w.heap.size + 1 + 1, 0, none⟩ = some (.slice none 0 0) ∧ W.cell? ⟨w.heap.size + 1 + 1, 1, none⟩ = some (.int .i64 0) ∧ W.frozen? ⟨w.heap.size + 1 + 1, 0, none⟩ = false ∧ W.frozen? ⟨w.heap.size + 1 + 1, 1, none⟩ = false from by rw [hW]; exact ⟨ci0_0, ci0_1, fi0_0, fi0_1, ci2_0, ci2_1, fi2_0, fi2_1⟩)
  clear hW z0 y0 c0_0 f0_0 c0_1 f0_1 z1 y1 c1_0 c1_1 c1_36 z2 y2 c2_0 f2_0 c2_1 f2_1 r0 zi0 yi0 ci0_0 fi0_0 ci0_1 fi0_1 zi1 yi1 ci1_0 ci1_1 ci1_36 zi2 yi2 ci2_0 fi2_0 ci2_1 fi2_1 ri0 x4 x5 h1
  simp only [List.take_succ_cons, List.take_zero, List.drop_succ_cons, List.drop_zero]
  repeat (first | ((with_reducible refine wpStill_plain ?hg (fun K hK => ?_)); (case hg => with_reducible rfl); go_simp; refine still_back hK ?_; clear hK K) | ((with_reducible refine wpStill_skip ?hg (fun K hK => ?_)); (case hg => exact rfl); go_simp; refine still_back hK ?_; clear hK K) | ((with_reducible refine wpStill_held ?hg (fun K hK => ?_)); (case hg => exact rfl); go_simp; refine still_back hK ?_; clear hK K))
  refine wpStill_nil ?_
  obtain ⟨j0, j1, j2, j3, j4, j5, j6, j7⟩ := HZ.out
  go_wp2
  refine bodyPost_ret (v := .tuple #[.agg #[.slice (some ⟨g, 0, none⟩) l.length c2, .int .i64 nx], .bool false]) (by simp [results, Tryd.results27, go_sem, *]) rfl ⟨_, by rw [HP.out], ?_, ?_⟩
  · rw [HP.out]; exact Kd.R_lower (flat_put (flat_put (HOW.out) (by omega)) (by omega)) (by omega)
  · have hs3 := HG0.out; (repeat' (first | exact HBW.out | (with_reducible refine below_setCell ?_ ?_ _) | (with_reducible refine below_setRow ?_ ?_ _) | (with_reducible refine Below.alloc ?_ ?_ _) | (with_reducible refine below_drew ?_) | (with_reducible refine pw_below_drewN ?_ _) | (with_reducible exact Below.refl _ _) | omega | (simp; done) | (simp; omega)))
set_option linter.unusedVariables false in
set_option maxHeartbeats 8000000 in
set_option maxRecDepth 100000 in
theorem Step_mark2 (A : Option Addr) (c : Nat) (l : List Pt) (nx : Int) (r : Rc) (w : World) (hC : Kd.C kPt w A l.length l) (hc : l.length ≤ c) (hlen : l.length ≤ 64) (hid : r.id ≤ 2199023255552) (hid0 : -9223372036854775808 ≤ r.id) (hk : r.kind = 1) (i : Nat) (p : Pt) (hn : l.findIdx? (fun x => decide (x.id = r.id)) = some i) (hx : l[i]? = some p) (h1 : ¬ r.off < p.off) (h2 : p.size < r.off) :
    Calls Tryd.prog 27 #[.agg #[.slice A l.length c, .int .i64 nx], .agg (rcL r).toArray] w fun e w' => ∃ v : Value, e = .returned (.tuple #[.agg #[v, .int .i64 (stepP ⟨l, nx⟩ r).1.next], .bool (stepP ⟨l, nx⟩ r).2]) ∧ Kd.R kPt 75 w' w.heap.size (fun _ => True) v (stepP ⟨l, nx⟩ r).1.parts ∧ Below w.heap.size w w' := by
  have HC := Aside0.mk hC
  clear hC
  obtain ⟨hil, hid2, hid3⟩ := List.findIdx?_eq_some_iff_getElem.1 hn
  clear hid3
  have hi := show fstI (fun x : Pt => decide (x.id = r.id)) l = (i : Int) by unfold fstI; rw [hn]
  have HI := Aside0.mk hi
  have HIL := Aside0.mk hil
  have HX := Aside0.mk hx
  have HP := Aside0.mk (show stepP ⟨l, nx⟩ r = (⟨l, nx⟩, false) by simp only [stepP]; rw [if_neg (by rw [hk]; decide), if_neg (by rw [hk]; decide), if_pos hk]; simp only [hn, hx]; rw [if_pos (.inr h2)])
  have hw2 : (i : Int) < (l.length : Int) := by omega
  clear hi hn hil hid2 hx
  go_enter Tryd.func27, Tryd.ntmps27
  go_wp2_with (first | (go_at_call 79; refine (ownS_calls A c l nx _ (Kd.C_below HC.out ?_) hc (Nat.le_trans hlen (by decide))).mono ?_; (exact below_alloc (below_alloc (below_alloc (Below.refl _ _) _) _) _); rintro e w2 ⟨v, rfl, ho, hb2⟩; obtain ⟨A2, c2, rfl⟩ := Kd.R_slice ho; obtain ⟨hcl, hfz⟩ := bcell hb2; have z0 : ¬ (w.heap.size = w2.heap.size) := (by have h_ := hb2.size; simp at h_; omega); have y0 : w.heap.size < w2.heap.size := (by have h_ := hb2.size; simp at h_; omega); have c0_0 : w2.cell? ⟨w.heap.size, 0, none⟩ = some (.slice A l.length c) := (by rw [hcl _ _ (by first | omega | (simp; done) | (simp; omega))]; first | (go_simp; done) | (simp [*]; done) | (simp [go_sem, *]; done)); have f0_0 : w2.frozen? ⟨w.heap.size, 0, none⟩ = false := (by rw [hfz _ _ (by first | omega | (simp; done) | (simp; omega))]; first | (go_simp; done) | (simp [*]; done) | (simp [go_sem, *]; done)); have c0_1 : w2.cell? ⟨w.heap.size, 1, none⟩ = some (.int .i64 nx) := (by rw [hcl _ _ (by first | omega | (simp; done) | (simp; omega))]; first | (go_simp; done) | (simp [*]; done) | (simp [go_sem, *]; done)); have f0_1 : w2.frozen? ⟨w.heap.size, 1, none⟩ = false := (by rw [hfz _ _ (by first | omega | (simp; done) | (simp; omega))]; first | (go_simp; done) | (simp [*]; done) | (simp [go_sem, *]; done)); have z1 : ¬ (w.heap.size + 1 = w2.heap.size) := (by have h_ := hb2.size; simp at h_; omega); have y1 : w.heap.size + 1 < w2.heap.size := (by have h_ := hb2.size; simp at h_; omega); have c1_0 : w2.cell? ⟨w.heap.size + 1, 0, none⟩ = some (.int .u8 r.kind) := (by rw [hcl _ _ (by first | omega | (simp; done) | (simp; omega))]; first | (go_simp; done) | (simp [*]; done) | (simp [go_sem, *]; done)); have c1_1 : w2.cell? ⟨w.heap.size + 1, 1, none⟩ = some (.int .i64 r.id) := (by rw [hcl _ _ (by first | omega | (simp; done) | (simp; omega))]; first | (go_simp; done) | (simp [*]; done) | (simp [go_sem, *]; done)); have c1_36 : w2.cell? ⟨w.heap.size + 1, 36, none⟩ = some (.int .i64 r.off) := (by rw [hcl _ _ (by first | omega | (simp; done) | (simp; omega))]; first | (go_simp; done) | (simp [*]; done) | (simp [go_sem, *]; done)); have z2 : ¬ (w.heap.size + 1 + 1 = w2.heap.size) := (by have h_ := hb2.size; simp at h_; omega); have y2 : w.heap.size + 1 + 1 < w2.heap.size := (by have h_ := hb2.size; simp at h_; omega); have c2_0 : w2.cell? ⟨w.heap.size + 1 + 1, 0, none⟩ = some (.slice none 0 0) := (by rw [hcl _ _ (by first | omega | (simp; done) | (simp; omega))]; first | (go_simp; done) | (simp [*]; done) | (simp [go_sem, *]; done)); have f2_0 : w2.frozen? ⟨w.heap.size + 1 + 1, 0, none⟩ = false := (by rw [hfz _ _ (by first | omega | (simp; done) | (simp; omega))]; first | (go_simp; done) | (simp [*]; done) | (simp [go_sem, *]; done)); have c2_1 : w2.cell? ⟨w.heap.size + 1 + 1, 1, none⟩ = some (.int .i64 0) := (by rw [hcl _ _ (by first | omega | (simp; done) | (simp; omega))]; first | (go_simp; done) | (simp [*]; done) | (simp [go_sem, *]; done)); have f2_1 : w2.frozen? ⟨w.heap.size + 1 + 1, 1, none⟩ = false := (by rw [hfz _ _ (by first | omega | (simp; done) | (simp; omega))]; first | (go_simp; done) | (simp [*]; done) | (simp [go_sem, *]; done)); have r0 : rowAt w2 ⟨w.heap.size + 1, 0, none⟩ 37 = some (rcL r) := (by rw [rowAt_below hb2 (by first | omega | (simp; done) | (simp; omega))]; first | (go_simp; done) | (simp [*]; done) | (simp [go_sem, *]; done)); have HO2 := Aside0.mk (Kd.R_lower (base' := w.heap.size + 1 + 1 + 1) ho (by simp)); have HB2 := Aside0.mk (Below.trans (below_alloc (below_alloc (below_alloc (Below.refl w.heap.size w) _) _) _) (hb2.mono (by simp; omega))); clear hb2 hcl hfz ho) | (go_at_call 80; refine (idx_id A2 c2 l r.id _ _ (Kd.R_reads' (flat_put (flat_put HO2.out (by omega)) (by omega))).2.2 (Nat.le_trans hlen (by decide)) ?hc1).mono ?_; (case hc1 => first | (go_simp; done) | (simp [go_sem, *]; done)); rintro e w3 ⟨rfl, hb3⟩; obtain ⟨hcl, hfz⟩ := bcell hb3; have zi0 : ¬ (w.heap.size = w3.heap.size) := (by have h_ := hb3.size; simp at h_; omega); have yi0 : w.heap.size < w3.heap.size := (by have h_ := hb3.size; simp at h_; omega); have ci0_0 : w3.cell? ⟨w.heap.size, 0, none⟩ = some (.slice A2 l.length c2) := (by rw [hcl _ _ (by first | omega | (simp; done) | (simp; omega))]; first | (go_simp; done) | (simp [*]; done) | (simp [go_sem, *]; done)); have fi0_0 : w3.frozen? ⟨w.heap.size, 0, none⟩ = false := (by rw [hfz _ _ (by first | omega | (simp; done) | (simp; omega))]; first | (go_simp; done) | (simp [*]; done) | (simp [go_sem, *]; done)); have ci0_1 : w3.cell? ⟨w.heap.size, 1, none⟩ = some (.int .i64 nx) := (by rw [hcl _ _ (by first | omega | (simp; done) | (simp; omega))]; first | (go_simp; done) | (simp [*]; done) | (simp [go_sem, *]; done)); have fi0_1 : w3.frozen? ⟨w.heap.size, 1, none⟩ = false := (by rw [hfz _ _ (by first | omega | (simp; done) | (simp; omega))]; first | (go_simp; done) | (simp [*]; done) | (simp [go_sem, *]; done)); have zi1 : ¬ (w.heap.size + 1 = w3.heap.size) := (by have h_ := hb3.size; simp at h_; omega); have yi1 : w.heap.size + 1 < w3.heap.size := (by have h_ := hb3.size; simp at h_; omega); have ci1_0 : w3.cell? ⟨w.heap.size + 1, 0, none⟩ = some (.int .u8 r.kind) := (by rw [hcl _ _ (by first | omega | (simp; done) | (simp; omega))]; first | (go_simp; done) | (simp [*]; done) | (simp [go_sem, *]; done)); have ci1_1 : w3.cell? ⟨w.heap.size + 1, 1, none⟩ = some (.int .i64 r.id) := (by rw [hcl _ _ (by first | omega | (simp; done) | (simp; omega))]; first | (go_simp; done) | (simp [*]; done) | (simp [go_sem, *]; done)); have ci1_36 : w3.cell? ⟨w.heap.size + 1, 36, none⟩ = some (.int .i64 r.off) := (by rw [hcl _ _ (by first | omega | (simp; done) | (simp; omega))]; first | (go_simp; done) | (simp [*]; done) | (simp [go_sem, *]; done)); have zi2 : ¬ (w.heap.size + 1 + 1 = w3.heap.size) := (by have h_ := hb3.size; simp at h_; omega); have yi2 : w.heap.size + 1 + 1 < w3.heap.size := (by have h_ := hb3.size; simp at h_; omega); have ci2_0 : w3.cell? ⟨w.heap.size + 1 + 1, 0, none⟩ = some (.slice none 0 0) := (by rw [hcl _ _ (by first | omega | (simp; done) | (simp; omega))]; first | (go_simp; done) | (simp [*]; done) | (simp [go_sem, *]; done)); have fi2_0 : w3.frozen? ⟨w.heap.size + 1 + 1, 0, none⟩ = false := (by rw [hfz _ _ (by first | omega | (simp; done) | (simp; omega))]; first | (go_simp; done) | (simp [*]; done) | (simp [go_sem, *]; done)); have ci2_1 : w3.cell? ⟨w.heap.size + 1 + 1, 1, none⟩ = some (.int .i64 0) := (by rw [hcl _ _ (by first | omega | (simp; done) | (simp; omega))]; first | (go_simp; done) | (simp [*]; done) | (simp [go_sem, *]; done)); have fi2_1 : w3.frozen? ⟨w.heap.size + 1 + 1, 1, none⟩ = false := (by rw [hfz _ _ (by first | omega | (simp; done) | (simp; omega))]; first | (go_simp; done) | (simp [*]; done) | (simp [go_sem, *]; done)); have ri0 : rowAt w3 ⟨w.heap.size + 1, 0, none⟩ 37 = some (rcL r) := (by rw [rowAt_below hb3 (by first | omega | (simp; done) | (simp; omega))]; first | (go_simp; done) | (simp [*]; done) | (simp [go_sem, *]; done)); have HO3 := Aside0.mk (Kd.R_below (flat_put (flat_put HO2.out (by omega)) (by omega)) hb3); have HB3 := Aside0.mk (Below.trans (below_setCell (below_setCell HB2.out (by omega) _) (by omega) _) (hb3.mono (by simp; omega))); clear hb3 hcl hfz; rw [HI.out]; obtain ⟨g, rfl, hg1, hg2⟩ := R_some HO3.out (Nat.lt_of_le_of_lt (Nat.zero_le _) HIL.out); have HG := Aside0.mk (And.intro hg1 hg2); clear hg1 hg2; obtain ⟨x4, x5⟩ := part_cells HO3.out HX.out; have HG0 := Aside0.mk HB3.out.size))
  refine still_tail_at 23 (by kernel_rfl) (by kernel_rfl) ?_
  intro W hW
  have HOW := Aside0.mk (show Kd.R kPt 75 W (w.heap.size + 1 + 1 + 1) (fun _ => True) (.slice (some ⟨g, 0, none⟩) l.length c2) l from by rw [hW]; exact Kd.R_drew HO3.out)
  have HBW := Aside0.mk (show Below w.heap.size w W from by rw [hW]; exact below_drew HB3.out)
  have hd1 : decide ((i : Int) < 0) = false := by simp
  have hd2 : decide (r.off < p.off) = false := by simp; omega
  have hd3 : decide (p.size < r.off) = true := by simp; omega
  have k0 : W.cell? ⟨w.heap.size, 0, none⟩ = some (.slice (some ⟨g, 0, none⟩) l.length c2) := by rw [hW]; exact ci0_0
  have k1 : W.cell? ⟨w.heap.size + 1, 36, none⟩ = some (.int .i64 r.off) := by rw [hW]; exact ci1_36
  have k2 : W.cell? ⟨g, i * 36 + 34, none⟩ = some (.int .i64 p.size) := by rw [hW]; exact x4
  have k3 : W.cell? ⟨g, i * 36 + 35, none⟩ = some (.int .i64 p.off) := by rw [hW]; exact x5
  have HZ := Aside0.mk (show W.cell? ⟨w.heap.size, 0, none⟩ = some (.slice (some ⟨g, 0, none⟩) l.length c2) ∧ W.cell? ⟨w.heap.size, 1, none⟩ = some (.int .i64 nx) ∧ W.frozen? ⟨w.heap.size, 0, none⟩ = false ∧ W.frozen? ⟨w.heap.size, 1, none⟩ = false ∧ W.cell? ⟨w.heap.size + 1 + 1, 0, none⟩ = some (.slice none 0 0) ∧ W.cell? ⟨w.heap.size + 1 + 1, 1, none⟩ = some (.int .i64 0) ∧ W.frozen? ⟨w.heap.size + 1 + 1, 0, none⟩ = false ∧ W.frozen? ⟨w.heap.size + 1 + 1, 1, none⟩ = false from by rw [hW]; exact ⟨ci0_0, ci0_1, fi0_0, fi0_1, ci2_0, ci2_1, fi2_0, fi2_1⟩)
  clear hW z0 y0 c0_0 f0_0 c0_1 f0_1 z1 y1 c1_0 c1_1 c1_36 z2 y2 c2_0 f2_0 c2_1 f2_1 r0 zi0 yi0 ci0_0 fi0_0 ci0_1 fi0_1 zi1 yi1 ci1_0 ci1_1 ci1_36 zi2 yi2 ci2_0 fi2_0 ci2_1 fi2_1 ri0 x4 x5 h1 h2
  simp only [List.take_succ_cons, List.take_zero, List.drop_succ_cons, List.drop_zero]
  repeat (first | ((with_reducible refine wpStill_plain ?hg (fun K hK => ?_)); (case hg => with_reducible rfl); go_simp; refine still_back hK ?_; clear hK K) | ((with_reducible refine wpStill_skip ?hg (fun K hK => ?_)); (case hg => exact rfl); go_simp; refine still_back hK ?_; clear hK K) | ((with_reducible refine wpStill_held ?hg (fun K hK => ?_)); (case hg => exact rfl); go_simp; refine still_back hK ?_; clear hK K))
  refine wpStill_nil ?_
  obtain ⟨j0, j1, j2, j3, j4, j5, j6, j7⟩ := HZ.out
  go_wp2
  refine bodyPost_ret (v := .tuple #[.agg #[.slice (some ⟨g, 0, none⟩) l.length c2, .int .i64 nx], .bool false]) (by simp [results, Tryd.results27, go_sem, *]) rfl ⟨_, by rw [HP.out], ?_, ?_⟩
  · rw [HP.out]; exact Kd.R_lower (flat_put (flat_put (HOW.out) (by omega)) (by omega)) (by omega)
  · have hs3 := HG0.out; (repeat' (first | exact HBW.out | (with_reducible refine below_setCell ?_ ?_ _) | (with_reducible refine below_setRow ?_ ?_ _) | (with_reducible refine Below.alloc ?_ ?_ _) | (with_reducible refine below_drew ?_) | (with_reducible refine pw_below_drewN ?_ _) | (with_reducible exact Below.refl _ _) | omega | (simp; done) | (simp; omega)))
set_option linter.unusedVariables false in
set_option maxHeartbeats 8000000 in
set_option maxRecDepth 100000 in
theorem Step_mark3 (A : Option Addr) (c : Nat) (l : List Pt) (nx : Int) (r : Rc) (w : World) (hC : Kd.C kPt w A l.length l) (hc : l.length ≤ c) (hlen : l.length ≤ 64) (hid : r.id ≤ 2199023255552) (hid0 : -9223372036854775808 ≤ r.id) (hk : r.kind = 1) (i : Nat) (p : Pt) (hn : l.findIdx? (fun x => decide (x.id = r.id)) = some i) (hx : l[i]? = some p) (h1 : ¬ r.off < p.off) (h2 : ¬ p.size < r.off) :
    Calls Tryd.prog 27 #[.agg #[.slice A l.length c, .int .i64 nx], .agg (rcL r).toArray] w fun e w' => ∃ v : Value, e = .returned (.tuple #[.agg #[v, .int .i64 (stepP ⟨l, nx⟩ r).1.next], .bool (stepP ⟨l, nx⟩ r).2]) ∧ Kd.R kPt 75 w' w.heap.size (fun _ => True) v (stepP ⟨l, nx⟩ r).1.parts ∧ Below w.heap.size w w' := by
  have HC := Aside0.mk hC
  clear hC
  obtain ⟨hil, hid2, hid3⟩ := List.findIdx?_eq_some_iff_getElem.1 hn
  clear hid3
  have hi := show fstI (fun x : Pt => decide (x.id = r.id)) l = (i : Int) by unfold fstI; rw [hn]
  have HI := Aside0.mk hi
  have HIL := Aside0.mk hil
  have HX := Aside0.mk hx
  have HP := Aside0.mk (show stepP ⟨l, nx⟩ r = (⟨l.set i { p with off := r.off }, nx⟩, true) by simp only [stepP]; rw [if_neg (by rw [hk]; decide), if_neg (by rw [hk]; decide), if_pos hk]; simp only [hn, hx]; rw [if_neg (fun h => h.elim h1 h2)])
  have hw2 : (i : Int) < (l.length : Int) := by omega
  clear hi hn hil hid2 hx
  go_enter Tryd.func27, Tryd.ntmps27
  go_wp2_with (first | (go_at_call 79; refine (ownS_calls A c l nx _ (Kd.C_below HC.out ?_) hc (Nat.le_trans hlen (by decide))).mono ?_; (exact below_alloc (below_alloc (below_alloc (Below.refl _ _) _) _) _); rintro e w2 ⟨v, rfl, ho, hb2⟩; obtain ⟨A2, c2, rfl⟩ := Kd.R_slice ho; obtain ⟨hcl, hfz⟩ := bcell hb2; have z0 : ¬ (w.heap.size = w2.heap.size) := (by have h_ := hb2.size; simp at h_; omega); have y0 : w.heap.size < w2.heap.size := (by have h_ := hb2.size; simp at h_; omega); have c0_0 : w2.cell? ⟨w.heap.size, 0, none⟩ = some (.slice A l.length c) := (by rw [hcl _ _ (by first | omega | (simp; done) | (simp; omega))]; first | (go_simp; done) | (simp [*]; done) | (simp [go_sem, *]; done)); have f0_0 : w2.frozen? ⟨w.heap.size, 0, none⟩ = false := (by rw [hfz _ _ (by first | omega | (simp; done) | (simp; omega))]; first | (go_simp; done) | (simp [*]; done) | (simp [go_sem, *]; done)); have c0_1 : w2.cell? ⟨w.heap.size, 1, none⟩ = some (.int .i64 nx) := (by rw [hcl _ _ (by first | omega | (simp; done) | (simp; omega))]; first | (go_simp; done) | (simp [*]; done) | (simp [go_sem, *]; done)); have f0_1 : w2.frozen? ⟨w.heap.size, 1, none⟩ = false := (by rw [hfz _ _ (by first | omega | (simp; done) | (simp; omega))]; first | (go_simp; done) | (simp [*]; done) | (simp [go_sem, *]; done)); have z1 : ¬ (w.heap.size + 1 = w2.heap.size) := (by have h_ := hb2.size; simp at h_; omega); have y1 : w.heap.size + 1 < w2.heap.size := (by have h_ := hb2.size; simp at h_; omega); have c1_0 : w2.cell? ⟨w.heap.size + 1, 0, none⟩ = some (.int .u8 r.kind) := (by rw [hcl _ _ (by first | omega | (simp; done) | (simp; omega))]; first | (go_simp; done) | (simp [*]; done) | (simp [go_sem, *]; done)); have c1_1 : w2.cell? ⟨w.heap.size + 1, 1, none⟩ = some (.int .i64 r.id) := (by rw [hcl _ _ (by first | omega | (simp; done) | (simp; omega))]; first | (go_simp; done) | (simp [*]; done) | (simp [go_sem, *]; done)); have c1_36 : w2.cell? ⟨w.heap.size + 1, 36, none⟩ = some (.int .i64 r.off) := (by rw [hcl _ _ (by first | omega | (simp; done) | (simp; omega))]; first | (go_simp; done) | (simp [*]; done) | (simp [go_sem, *]; done)); have z2 : ¬ (w.heap.size + 1 + 1 = w2.heap.size) := (by have h_ := hb2.size; simp at h_; omega); have y2 : w.heap.size + 1 + 1 < w2.heap.size := (by have h_ := hb2.size; simp at h_; omega); have c2_0 : w2.cell? ⟨w.heap.size + 1 + 1, 0, none⟩ = some (.slice none 0 0) := (by rw [hcl _ _ (by first | omega | (simp; done) | (simp; omega))]; first | (go_simp; done) | (simp [*]; done) | (simp [go_sem, *]; done)); have f2_0 : w2.frozen? ⟨w.heap.size + 1 + 1, 0, none⟩ = false := (by rw [hfz _ _ (by first | omega | (simp; done) | (simp; omega))]; first | (go_simp; done) | (simp [*]; done) | (simp [go_sem, *]; done)); have c2_1 : w2.cell? ⟨w.heap.size + 1 + 1, 1, none⟩ = some (.int .i64 0) := (by rw [hcl _ _ (by first | omega | (simp; done) | (simp; omega))]; first | (go_simp; done) | (simp [*]; done) | (simp [go_sem, *]; done)); have f2_1 : w2.frozen? ⟨w.heap.size + 1 + 1, 1, none⟩ = false := (by rw [hfz _ _ (by first | omega | (simp; done) | (simp; omega))]; first | (go_simp; done) | (simp [*]; done) | (simp [go_sem, *]; done)); have r0 : rowAt w2 ⟨w.heap.size + 1, 0, none⟩ 37 = some (rcL r) := (by rw [rowAt_below hb2 (by first | omega | (simp; done) | (simp; omega))]; first | (go_simp; done) | (simp [*]; done) | (simp [go_sem, *]; done)); have HO2 := Aside0.mk (Kd.R_lower (base' := w.heap.size + 1 + 1 + 1) ho (by simp)); have HB2 := Aside0.mk (Below.trans (below_alloc (below_alloc (below_alloc (Below.refl w.heap.size w) _) _) _) (hb2.mono (by simp; omega))); clear hb2 hcl hfz ho) | (go_at_call 80; refine (idx_id A2 c2 l r.id _ _ (Kd.R_reads' (flat_put (flat_put HO2.out (by omega)) (by omega))).2.2 (Nat.le_trans hlen (by decide)) ?hc1).mono ?_; (case hc1 => first | (go_simp; done) | (simp [go_sem, *]; done)); rintro e w3 ⟨rfl, hb3⟩; obtain ⟨hcl, hfz⟩ := bcell hb3; have zi0 : ¬ (w.heap.size = w3.heap.size) := (by have h_ := hb3.size; simp at h_; omega); have yi0 : w.heap.size < w3.heap.size := (by have h_ := hb3.size; simp at h_; omega); have ci0_0 : w3.cell? ⟨w.heap.size, 0, none⟩ = some (.slice A2 l.length c2) := (by rw [hcl _ _ (by first | omega | (simp; done) | (simp; omega))]; first | (go_simp; done) | (simp [*]; done) | (simp [go_sem, *]; done)); have fi0_0 : w3.frozen? ⟨w.heap.size, 0, none⟩ = false := (by rw [hfz _ _ (by first | omega | (simp; done) | (simp; omega))]; first | (go_simp; done) | (simp [*]; done) | (simp [go_sem, *]; done)); have ci0_1 : w3.cell? ⟨w.heap.size, 1, none⟩ = some (.int .i64 nx) := (by rw [hcl _ _ (by first | omega | (simp; done) | (simp; omega))]; first | (go_simp; done) | (simp [*]; done) | (simp [go_sem, *]; done)); have fi0_1 : w3.frozen? ⟨w.heap.size, 1, none⟩ = false := (by rw [hfz _ _ (by first | omega | (simp; done) | (simp; omega))]; first | (go_simp; done) | (simp [*]; done) | (simp [go_sem, *]; done)); have zi1 : ¬ (w.heap.size + 1 = w3.heap.size) := (by have h_ := hb3.size; simp at h_; omega); have yi1 : w.heap.size + 1 < w3.heap.size := (by have h_ := hb3.size; simp at h_; omega); have ci1_0 : w3.cell? ⟨w.heap.size + 1, 0, none⟩ = some (.int .u8 r.kind) := (by rw [hcl _ _ (by first | omega | (simp; done) | (simp; omega))]; first | (go_simp; done) | (simp [*]; done) | (simp [go_sem, *]; done)); have ci1_1 : w3.cell? ⟨w.heap.size + 1, 1, none⟩ = some (.int .i64 r.id) := (by rw [hcl _ _ (by first | omega | (simp; done) | (simp; omega))]; first | (go_simp; done) | (simp [*]; done) | (simp [go_sem, *]; done)); have ci1_36 : w3.cell? ⟨w.heap.size + 1, 36, none⟩ = some (.int .i64 r.off) := (by rw [hcl _ _ (by first | omega | (simp; done) | (simp; omega))]; first | (go_simp; done) | (simp [*]; done) | (simp [go_sem, *]; done)); have zi2 : ¬ (w.heap.size + 1 + 1 = w3.heap.size) := (by have h_ := hb3.size; simp at h_; omega); have yi2 : w.heap.size + 1 + 1 < w3.heap.size := (by have h_ := hb3.size; simp at h_; omega); have ci2_0 : w3.cell? ⟨w.heap.size + 1 + 1, 0, none⟩ = some (.slice none 0 0) := (by rw [hcl _ _ (by first | omega | (simp; done) | (simp; omega))]; first | (go_simp; done) | (simp [*]; done) | (simp [go_sem, *]; done)); have fi2_0 : w3.frozen? ⟨w.heap.size + 1 + 1, 0, none⟩ = false := (by rw [hfz _ _ (by first | omega | (simp; done) | (simp; omega))]; first | (go_simp; done) | (simp [*]; done) | (simp [go_sem, *]; done)); have ci2_1 : w3.cell? ⟨w.heap.size + 1 + 1, 1, none⟩ = some (.int .i64 0) := (by rw [hcl _ _ (by first | omega | (simp; done) | (simp; omega))]; first | (go_simp; done) | (simp [*]; done) | (simp [go_sem, *]; done)); have fi2_1 : w3.frozen? ⟨w.heap.size + 1 + 1, 1, none⟩ = false := (by rw [hfz _ _ (by first | omega | (simp; done) | (simp; omega))]; first | (go_simp; done) | (simp [*]; done) | (simp [go_sem, *]; done)); have ri0 : rowAt w3 ⟨w.heap.size + 1, 0, none⟩ 37 = some (rcL r) := (by rw [rowAt_below hb3 (by first | omega | (simp; done) | (simp; omega))]; first | (go_simp; done) | (simp [*]; done) | (simp [go_sem, *]; done)); have HO3 := Aside0.mk (Kd.R_below (flat_put (flat_put HO2.out (by omega)) (by omega)) hb3); have HB3 := Aside0.mk (Below.trans (below_setCell (below_setCell HB2.out (by omega) _) (by omega) _) (hb3.mono (by simp; omega))); clear hb3 hcl hfz; rw [HI.out]; obtain ⟨g, rfl, hg1, hg2⟩ := R_some HO3.out (Nat.lt_of_le_of_lt (Nat.zero_le _) HIL.out); have HG := Aside0.mk (And.intro hg1 hg2); clear hg1 hg2; obtain ⟨x4, x5⟩ := part_cells HO3.out HX.out; have HG0 := Aside0.mk HB3.out.size))
  refine still_tail_at 23 (by kernel_rfl) (by kernel_rfl) ?_
  intro W hW
  have HOW := Aside0.mk (show Kd.R kPt 75 W (w.heap.size + 1 + 1 + 1) (fun _ => True) (.slice (some ⟨g, 0, none⟩) l.length c2) l from by rw [hW]; exact Kd.R_drew HO3.out)
  have HBW := Aside0.mk (show Below w.heap.size w W from by rw [hW]; exact below_drew HB3.out)
  have hd1 : decide ((i : Int) < 0) = false := by simp
  have hd2 : decide (r.off < p.off) = false := by simp; omega
  have hd3 : decide (p.size < r.off) = false := by simp; omega
  have k0 : W.cell? ⟨w.heap.size, 0, none⟩ = some (.slice (some ⟨g, 0, none⟩) l.length c2) := by rw [hW]; exact ci0_0
  have k1 : W.cell? ⟨w.heap.size + 1, 36, none⟩ = some (.int .i64 r.off) := by rw [hW]; exact ci1_36
  have k2 : W.cell? ⟨g, i * 36 + 34, none⟩ = some (.int .i64 p.size) := by rw [hW]; exact x4
  have k3 : W.cell? ⟨g, i * 36 + 35, none⟩ = some (.int .i64 p.off) := by rw [hW]; exact x5
  have HZ := Aside0.mk (show W.cell? ⟨w.heap.size, 0, none⟩ = some (.slice (some ⟨g, 0, none⟩) l.length c2) ∧ W.cell? ⟨w.heap.size, 1, none⟩ = some (.int .i64 nx) ∧ W.frozen? ⟨w.heap.size, 0, none⟩ = false ∧ W.frozen? ⟨w.heap.size, 1, none⟩ = false ∧ W.cell? ⟨w.heap.size + 1 + 1, 0, none⟩ = some (.slice none 0 0) ∧ W.cell? ⟨w.heap.size + 1 + 1, 1, none⟩ = some (.int .i64 0) ∧ W.frozen? ⟨w.heap.size + 1 + 1, 0, none⟩ = false ∧ W.frozen? ⟨w.heap.size + 1 + 1, 1, none⟩ = false ∧ W.cell? ⟨g, i * 36 + 35, none⟩ = some (.int .i64 p.off) ∧ W.frozen? ⟨g, i * 36 + 35, none⟩ = false from by rw [hW]; exact ⟨ci0_0, ci0_1, fi0_0, fi0_1, ci2_0, ci2_1, fi2_0, fi2_1, x5, part_frozen HO3.out _⟩)
  clear hW z0 y0 c0_0 f0_0 c0_1 f0_1 z1 y1 c1_0 c1_1 c1_36 z2 y2 c2_0 f2_0 c2_1 f2_1 r0 zi0 yi0 ci0_0 fi0_0 ci0_1 fi0_1 zi1 yi1 ci1_0 ci1_1 ci1_36 zi2 yi2 ci2_0 fi2_0 ci2_1 fi2_1 ri0 x4 x5 h1 h2
  simp only [List.take_succ_cons, List.take_zero, List.drop_succ_cons, List.drop_zero]
  repeat (first | ((with_reducible refine wpStill_plain ?hg (fun K hK => ?_)); (case hg => with_reducible rfl); go_simp; refine still_back hK ?_; clear hK K) | ((with_reducible refine wpStill_skip ?hg (fun K hK => ?_)); (case hg => exact rfl); go_simp; refine still_back hK ?_; clear hK K) | ((with_reducible refine wpStill_held ?hg (fun K hK => ?_)); (case hg => exact rfl); go_simp; refine still_back hK ?_; clear hK K))
  refine wpStill_nil ?_
  obtain ⟨j0, j1, j2, j3, j4, j5, j6, j7, j8, j9⟩ := HZ.out
  have n1 : ¬ (w.heap.size = g) := by have := HG.out.1; omega
  have n2 : ¬ (g = w.heap.size) := by have := HG.out.1; omega
  have n3 : ¬ (w.heap.size + 1 = g) := by have := HG.out.1; omega
  have n4 : ¬ (w.heap.size + 1 + 1 = g) := by have := HG.out.1; omega
  go_wp2
  refine bodyPost_ret (v := .tuple #[.agg #[.slice (some ⟨g, 0, none⟩) l.length c2, .int .i64 nx], .bool true]) (by simp [results, Tryd.results27, go_sem, *]) rfl ⟨_, by rw [HP.out], ?_, ?_⟩
  · have hg3 := HG.out.1; rw [HP.out]; exact Kd.R_lower (flat_put (flat_put (part_off HOW.out HX.out r.off) (by omega)) (by omega)) (by omega)
  · have hs3 := HG0.out; have hg3 := HG.out.1; (repeat' (first | exact HBW.out | (with_reducible refine below_setCell ?_ ?_ _) | (with_reducible refine below_setRow ?_ ?_ _) | (with_reducible refine Below.alloc ?_ ?_ _) | (with_reducible refine below_drew ?_) | (with_reducible refine pw_below_drewN ?_ _) | (with_reducible exact Below.refl _ _) | omega | (simp; done) | (simp; omega)))
set_option linter.unusedVariables false in
set_option maxHeartbeats 8000000 in
set_option maxRecDepth 100000 in
theorem Step_mark0 (A : Option Addr) (c : Nat) (l : List Pt) (nx : Int) (r : Rc) (w : World) (hC : Kd.C kPt w A l.length l) (hc : l.length ≤ c) (hlen : l.length ≤ 64) (hid : r.id ≤ 2199023255552) (hid0 : -9223372036854775808 ≤ r.id) (hk : r.kind = 1) (hn : l.findIdx? (fun x => decide (x.id = r.id)) = none) :
    Calls Tryd.prog 27 #[.agg #[.slice A l.length c, .int .i64 nx], .agg (rcL r).toArray] w fun e w' => ∃ v : Value, e = .returned (.tuple #[.agg #[v, .int .i64 (stepP ⟨l, nx⟩ r).1.next], .bool (stepP ⟨l, nx⟩ r).2]) ∧ Kd.R kPt 75 w' w.heap.size (fun _ => True) v (stepP ⟨l, nx⟩ r).1.parts ∧ Below w.heap.size w w' := by
  have HC := Aside0.mk hC
  clear hC
  have hi := show fstI (fun x : Pt => decide (x.id = r.id)) l = -1 by unfold fstI; rw [hn]
  have HI := Aside0.mk hi
  have HP := Aside0.mk (show stepP ⟨l, nx⟩ r = (⟨l, nx⟩, false) by simp [stepP, hk, hn])
  clear hi hn
  go_enter Tryd.func27, Tryd.ntmps27
  go_wp2_with (first | (go_at_call 79; refine (ownS_calls A c l nx _ (Kd.C_below HC.out ?_) hc (Nat.le_trans hlen (by decide))).mono ?_; (exact below_alloc (below_alloc (below_alloc (Below.refl _ _) _) _) _); rintro e w2 ⟨v, rfl, ho, hb2⟩; obtain ⟨A2, c2, rfl⟩ := Kd.R_slice ho; obtain ⟨hcl, hfz⟩ := bcell hb2; have z0 : ¬ (w.heap.size = w2.heap.size) := (by have h_ := hb2.size; simp at h_; omega); have y0 : w.heap.size < w2.heap.size := (by have h_ := hb2.size; simp at h_; omega); have c0_0 : w2.cell? ⟨w.heap.size, 0, none⟩ = some (.slice A l.length c) := (by rw [hcl _ _ (by first | omega | (simp; done) | (simp; omega))]; first | (go_simp; done) | (simp [*]; done) | (simp [go_sem, *]; done)); have f0_0 : w2.frozen? ⟨w.heap.size, 0, none⟩ = false := (by rw [hfz _ _ (by first | omega | (simp; done) | (simp; omega))]; first | (go_simp; done) | (simp [*]; done) | (simp [go_sem, *]; done)); have c0_1 : w2.cell? ⟨w.heap.size, 1, none⟩ = some (.int .i64 nx) := (by rw [hcl _ _ (by first | omega | (simp; done) | (simp; omega))]; first | (go_simp; done) | (simp [*]; done) | (simp [go_sem, *]; done)); have f0_1 : w2.frozen? ⟨w.heap.size, 1, none⟩ = false := (by rw [hfz _ _ (by first | omega | (simp; done) | (simp; omega))]; first | (go_simp; done) | (simp [*]; done) | (simp [go_sem, *]; done)); have z1 : ¬ (w.heap.size + 1 = w2.heap.size) := (by have h_ := hb2.size; simp at h_; omega); have y1 : w.heap.size + 1 < w2.heap.size := (by have h_ := hb2.size; simp at h_; omega); have c1_0 : w2.cell? ⟨w.heap.size + 1, 0, none⟩ = some (.int .u8 r.kind) := (by rw [hcl _ _ (by first | omega | (simp; done) | (simp; omega))]; first | (go_simp; done) | (simp [*]; done) | (simp [go_sem, *]; done)); have c1_1 : w2.cell? ⟨w.heap.size + 1, 1, none⟩ = some (.int .i64 r.id) := (by rw [hcl _ _ (by first | omega | (simp; done) | (simp; omega))]; first | (go_simp; done) | (simp [*]; done) | (simp [go_sem, *]; done)); have c1_36 : w2.cell? ⟨w.heap.size + 1, 36, none⟩ = some (.int .i64 r.off) := (by rw [hcl _ _ (by first | omega | (simp; done) | (simp; omega))]; first | (go_simp; done) | (simp [*]; done) | (simp [go_sem, *]; done)); have z2 : ¬ (w.heap.size + 1 + 1 = w2.heap.size) := (by have h_ := hb2.size; simp at h_; omega); have y2 : w.heap.size + 1 + 1 < w2.heap.size := (by have h_ := hb2.size; simp at h_; omega); have c2_0 : w2.cell? ⟨w.heap.size + 1 + 1, 0, none⟩ = some (.slice none 0 0) := (by rw [hcl _ _ (by first | omega | (simp; done) | (simp; omega))]; first | (go_simp; done) | (simp [*]; done) | (simp [go_sem, *]; done)); have f2_0 : w2.frozen? ⟨w.heap.size + 1 + 1, 0, none⟩ = false := (by rw [hfz _ _ (by first | omega | (simp; done) | (simp; omega))]; first | (go_simp; done) | (simp [*]; done) | (simp [go_sem, *]; done)); have c2_1 : w2.cell? ⟨w.heap.size + 1 + 1, 1, none⟩ = some (.int .i64 0) := (by rw [hcl _ _ (by first | omega | (simp; done) | (simp; omega))]; first | (go_simp; done) | (simp [*]; done) | (simp [go_sem, *]; done)); have f2_1 : w2.frozen? ⟨w.heap.size + 1 + 1, 1, none⟩ = false := (by rw [hfz _ _ (by first | omega | (simp; done) | (simp; omega))]; first | (go_simp; done) | (simp [*]; done) | (simp [go_sem, *]; done)); have r0 : rowAt w2 ⟨w.heap.size + 1, 0, none⟩ 37 = some (rcL r) := (by rw [rowAt_below hb2 (by first | omega | (simp; done) | (simp; omega))]; first | (go_simp; done) | (simp [*]; done) | (simp [go_sem, *]; done)); have HO2 := Aside0.mk (Kd.R_lower (base' := w.heap.size + 1 + 1 + 1) ho (by simp)); have HB2 := Aside0.mk (Below.trans (below_alloc (below_alloc (below_alloc (Below.refl w.heap.size w) _) _) _) (hb2.mono (by simp; omega))); clear hb2 hcl hfz ho) | (go_at_call 80; refine (idx_id A2 c2 l r.id _ _ (Kd.R_reads' (flat_put (flat_put HO2.out (by omega)) (by omega))).2.2 (Nat.le_trans hlen (by decide)) ?hc1).mono ?_; (case hc1 => first | (go_simp; done) | (simp [go_sem, *]; done)); rintro e w3 ⟨rfl, hb3⟩; obtain ⟨hcl, hfz⟩ := bcell hb3; have zi0 : ¬ (w.heap.size = w3.heap.size) := (by have h_ := hb3.size; simp at h_; omega); have yi0 : w.heap.size < w3.heap.size := (by have h_ := hb3.size; simp at h_; omega); have ci0_0 : w3.cell? ⟨w.heap.size, 0, none⟩ = some (.slice A2 l.length c2) := (by rw [hcl _ _ (by first | omega | (simp; done) | (simp; omega))]; first | (go_simp; done) | (simp [*]; done) | (simp [go_sem, *]; done)); have fi0_0 : w3.frozen? ⟨w.heap.size, 0, none⟩ = false := (by rw [hfz _ _ (by first | omega | (simp; done) | (simp; omega))]; first | (go_simp; done) | (simp [*]; done) | (simp [go_sem, *]; done)); have ci0_1 : w3.cell? ⟨w.heap.size, 1, none⟩ = some (.int .i64 nx) := (by rw [hcl _ _ (by first | omega | (simp; done) | (simp; omega))]; first | (go_simp; done) | (simp [*]; done) | (simp [go_sem, *]; done)); have fi0_1 : w3.frozen? ⟨w.heap.size, 1, none⟩ = false := (by rw [hfz _ _ (by first | omega | (simp; done) | (simp; omega))]; first | (go_simp; done) | (simp [*]; done) | (simp [go_sem, *]; done)); have zi1 : ¬ (w.heap.size + 1 = w3.heap.size) := (by have h_ := hb3.size; simp at h_; omega); have yi1 : w.heap.size + 1 < w3.heap.size := (by have h_ := hb3.size; simp at h_; omega); have ci1_0 : w3.cell? ⟨w.heap.size + 1, 0, none⟩ = some (.int .u8 r.kind) := (by rw [hcl _ _ (by first | omega | (simp; done) | (simp; omega))]; first | (go_simp; done) | (simp [*]; done) | (simp [go_sem, *]; done)); have ci1_1 : w3.cell? ⟨w.heap.size + 1, 1, none⟩ = some (.int .i64 r.id) := (by rw [hcl _ _ (by first | omega | (simp; done) | (simp; omega))]; first | (go_simp; done) | (simp [*]; done) | (simp [go_sem, *]; done)); have ci1_36 : w3.cell? ⟨w.heap.size + 1, 36, none⟩ = some (.int .i64 r.off) := (by rw [hcl _ _ (by first | omega | (simp; done) | (simp; omega))]; first | (go_simp; done) | (simp [*]; done) | (simp [go_sem, *]; done)); have zi2 : ¬ (w.heap.size + 1 + 1 = w3.heap.size) := (by have h_ := hb3.size; simp at h_; omega); have yi2 : w.heap.size + 1 + 1 < w3.heap.size := (by have h_ := hb3.size; simp at h_; omega); have ci2_0 : w3.cell? ⟨w.heap.size + 1 + 1, 0, none⟩ = some (.slice none 0 0) := (by rw [hcl _ _ (by first | omega | (simp; done) | (simp; omega))]; first | (go_simp; done) | (simp [*]; done) | (simp [go_sem, *]; done)); have fi2_0 : w3.frozen? ⟨w.heap.size + 1 + 1, 0, none⟩ = false := (by rw [hfz _ _ (by first | omega | (simp; done) | (simp; omega))]; first | (go_simp; done) | (simp [*]; done) | (simp [go_sem, *]; done)); have ci2_1 : w3.cell? ⟨w.heap.size + 1 + 1, 1, none⟩ = some (.int .i64 0) := (by rw [hcl _ _ (by first | omega | (simp; done) | (simp; omega))]; first | (go_simp; done) | (simp [*]; done) | (simp [go_sem, *]; done)); have fi2_1 : w3.frozen? ⟨w.heap.size + 1 + 1, 1, none⟩ = false := (by rw [hfz _ _ (by first | omega | (simp; done) | (simp; omega))]; first | (go_simp; done) | (simp [*]; done) | (simp [go_sem, *]; done)); have ri0 : rowAt w3 ⟨w.heap.size + 1, 0, none⟩ 37 = some (rcL r) := (by rw [rowAt_below hb3 (by first | omega | (simp; done) | (simp; omega))]; first | (go_simp; done) | (simp [*]; done) | (simp [go_sem, *]; done)); have HO3 := Aside0.mk (Kd.R_below (flat_put (flat_put HO2.out (by omega)) (by omega)) hb3); have HB3 := Aside0.mk (Below.trans (below_setCell (below_setCell HB2.out (by omega) _) (by omega) _) (hb3.mono (by simp; omega))); clear hb3 hcl hfz; rw [HI.out]; have HG0 := Aside0.mk HB3.out.size))
  refine still_tail_at 23 (by kernel_rfl) (by kernel_rfl) ?_
  intro W hW
  have HOW := Aside0.mk (show Kd.R kPt 75 W (w.heap.size + 1 + 1 + 1) (fun _ => True) (.slice A2 l.length c2) l from by rw [hW]; exact Kd.R_drew HO3.out)
  have HBW := Aside0.mk (show Below w.heap.size w W from by rw [hW]; exact below_drew HB3.out)
  have HZ := Aside0.mk (show W.cell? ⟨w.heap.size, 0, none⟩ = some (.slice A2 l.length c2) ∧ W.cell? ⟨w.heap.size, 1, none⟩ = some (.int .i64 nx) ∧ W.frozen? ⟨w.heap.size, 0, none⟩ = false ∧ W.frozen? ⟨w.heap.size, 1, none⟩ = false ∧ W.cell? ⟨w.heap.size + 1 + 1, 0, none⟩ = some (.slice none 0 0) ∧ W.cell? ⟨w.heap.size + 1 + 1, 1, none⟩ = some (.int .i64 0) ∧ W.frozen? ⟨w.heap.size + 1 + 1, 0, none⟩ = false ∧ W.frozen? ⟨w.heap.size + 1 + 1, 1, none⟩ = false from by rw [hW]; exact ⟨ci0_0, ci0_1, fi0_0, fi0_1, ci2_0, ci2_1, fi2_0, fi2_1⟩)
  clear hW z0 y0 c0_0 f0_0 c0_1 f0_1 z1 y1 c1_0 c1_1 c1_36 z2 y2 c2_0 f2_0 c2_1 f2_1 r0 zi0 yi0 ci0_0 fi0_0 ci0_1 fi0_1 zi1 yi1 ci1_0 ci1_1 ci1_36 zi2 yi2 ci2_0 fi2_0 ci2_1 fi2_1 ri0 
  simp only [List.take_succ_cons, List.take_zero, List.drop_succ_cons, List.drop_zero]
  repeat (first | ((with_reducible refine wpStill_plain ?hg (fun K hK => ?_)); (case hg => with_reducible rfl); go_simp; refine still_back hK ?_; clear hK K) | ((with_reducible refine wpStill_skip ?hg (fun K hK => ?_)); (case hg => exact rfl); go_simp; refine still_back hK ?_; clear hK K) | ((with_reducible refine wpStill_held ?hg (fun K hK => ?_)); (case hg => exact rfl); go_simp; refine still_back hK ?_; clear hK K))
  refine wpStill_nil ?_
  obtain ⟨j0, j1, j2, j3, j4, j5, j6, j7⟩ := HZ.out
  go_wp2
  refine bodyPost_ret (v := .tuple #[.agg #[.slice A2 l.length c2, .int .i64 nx], .bool false]) (by simp [results, Tryd.results27, go_sem, *]) rfl ⟨_, by rw [HP.out], ?_, ?_⟩
  · rw [HP.out]; exact Kd.R_lower (flat_put (flat_put (HOW.out) (by omega)) (by omega)) (by omega)
  · have hs3 := HG0.out; (repeat' (first | exact HBW.out | (with_reducible refine below_setCell ?_ ?_ _) | (with_reducible refine below_setRow ?_ ?_ _) | (with_reducible refine Below.alloc ?_ ?_ _) | (with_reducible refine below_drew ?_) | (with_reducible refine pw_below_drewN ?_ _) | (with_reducible exact Below.refl _ _) | omega | (simp; done) | (simp; omega)))
end Go.Proofs.YtiohgpcbdefokaaDoor.B
/- record.Step, whole. No condition. -/
namespace Go.Proofs.YtiohgpcbdefokaaDoor.B
open Go.RowKit Go.Proofs.YtiohgpcbdefokaaDoorW.PrintWords Go.Proofs.YtiohgpcbdefokaaDoor.RowLaws
attribute [local go_sem ↓ high] lvO_hs ldO_hs stO_hs lvO_pt ldO_pt stO_pt zero_pt eqA_pt lvO_ptR ldO_ptR stO_ptR zero_ptR eqA_ptR lvO_rc ldO_rc stO_rc zero_rc eqA_rc lvO_rcR ldO_rcR stO_rcR zero_rcR eqA_rcR lvO_tk ldO_tk stO_tk zero_tk eqA_tk lvO_tkR ldO_tkR stO_tkR zero_tkR eqA_tkR lvO_it ldO_it stO_it zero_it eqA_it blO_pt blO_ptR blO_rc blO_rcR blO_tk blO_tkR blO_it bsO_pt bsO_ptR bsO_rc bsO_rcR bsO_it
attribute [local go_sem high] rowAt_setCell rowAt_setRow cell_setRow_ne isRow_setRow_ne rowAt_alloc rowAt_drew isRow_alloc isRow_drew isRow_setCell rowRun_some okL_hs ldV_hs ldA_hs stA_hs setRow_alloc get_pt_id get_pt_path cut_pt_sum get_pt_size get_pt_off cut_pt okL_pt size_pt lenb_pt eta_pt ldV_pt ldA_pt stA_pt ldV_ptR ldA_ptR stA_ptR get_rc_kind get_rc_id get_rc_path cut_rc_sum get_rc_size get_rc_off cut_rc okL_rc size_rc lenb_rc eta_rc ldV_rc ldA_rc stA_rc ldV_rcR ldA_rcR stA_rcR get_tk_path cut_tk_sum get_tk_size get_tk_off cut_tk_old cut_tk okL_tk size_tk lenb_tk eta_tk ldV_tk ldA_tk stA_tk ldV_tkR ldA_tkR stA_tkR get_it_path get_it_dir get_it_size cut_it_sum cut_it okL_it size_it lenb_it eta_it ldV_it ldA_it stA_it bld_pt_01234 bld_pt_0123 bld_pt_z bld_ptR_01234 bld_ptR_0123 bld_ptR_z bld_rc_012345 bld_rc_015 bld_rc_01 bld_rc_z bld_rc_01234 bld_rc_24 bld_rc_05 bld_rc_0 bld_rcR_012345 bld_rcR_015 bld_rcR_01 bld_rcR_z bld_rcR_01234 bld_rcR_24 bld_rcR_05 bld_rcR_0 bld_tk_01234 bld_tk_0 bld_tk_z bld_tkR_01234 bld_tkR_0 bld_tkR_z bld_it_0123 bld_it_023 bld_it_01 bld_it_0 bld_it_z bs0_pt bs1_pt bs0_ptR bs1_ptR bs0_rc bs1_rc bs0_rcR bs1_rcR bs0_it bs1_it
set_option linter.unusedVariables false in
set_option maxHeartbeats 8000000 in
set_option maxRecDepth 100000 in
theorem Step_begin (A : Option Addr) (c : Nat) (l : List Pt) (nx : Int) (r : Rc) (w : World) (hC : Kd.C kPt w A l.length l) (hc : l.length ≤ c) (hlen : l.length ≤ 64) (hid : r.id ≤ 2199023255552) (hid0 : -9223372036854775808 ≤ r.id) (hk : r.kind = 0) :
    Calls Tryd.prog 27 #[.agg #[.slice A l.length c, .int .i64 nx], .agg (rcL r).toArray] w fun e w' => ∃ v : Value, e = .returned (.tuple #[.agg #[v, .int .i64 (stepP ⟨l, nx⟩ r).1.next], .bool (stepP ⟨l, nx⟩ r).2]) ∧ Kd.R kPt 75 w' w.heap.size (fun _ => True) v (stepP ⟨l, nx⟩ r).1.parts ∧ Below w.heap.size w w' := by
  have HC := Aside0.mk hC
  clear hC
  obtain ⟨q, hq⟩ : ∃ q, beginP ⟨l, nx⟩ r = q := ⟨_, rfl⟩
  have HQ := Aside0.mk hq
  have HP := Aside0.mk (show stepP ⟨l, nx⟩ r = q by unfold stepP; rw [if_pos hk, hq])
  clear hq
  obtain ⟨⟨ql, qn⟩, qb⟩ := q
  go_enter Tryd.func27, Tryd.ntmps27
  go_wp2_with (first | (go_at_call 79; refine (ownS_calls A c l nx _ (Kd.C_below HC.out ?_) hc (Nat.le_trans hlen (by decide))).mono ?_; (exact below_alloc (below_alloc (below_alloc (Below.refl _ _) _) _) _); rintro e w2 ⟨v, rfl, ho, hb2⟩; obtain ⟨A2, c2, rfl⟩ := Kd.R_slice ho; obtain ⟨hcl, hfz⟩ := bcell hb2; have z0 : ¬ (w.heap.size = w2.heap.size) := (by have h_ := hb2.size; simp at h_; omega); have y0 : w.heap.size < w2.heap.size := (by have h_ := hb2.size; simp at h_; omega); have c0_0 : w2.cell? ⟨w.heap.size, 0, none⟩ = some (.slice A l.length c) := (by rw [hcl _ _ (by first | omega | (simp; done) | (simp; omega))]; first | (go_simp; done) | (simp [*]; done) | (simp [go_sem, *]; done)); have f0_0 : w2.frozen? ⟨w.heap.size, 0, none⟩ = false := (by rw [hfz _ _ (by first | omega | (simp; done) | (simp; omega))]; first | (go_simp; done) | (simp [*]; done) | (simp [go_sem, *]; done)); have c0_1 : w2.cell? ⟨w.heap.size, 1, none⟩ = some (.int .i64 nx) := (by rw [hcl _ _ (by first | omega | (simp; done) | (simp; omega))]; first | (go_simp; done) | (simp [*]; done) | (simp [go_sem, *]; done)); have f0_1 : w2.frozen? ⟨w.heap.size, 1, none⟩ = false := (by rw [hfz _ _ (by first | omega | (simp; done) | (simp; omega))]; first | (go_simp; done) | (simp [*]; done) | (simp [go_sem, *]; done)); have z1 : ¬ (w.heap.size + 1 = w2.heap.size) := (by have h_ := hb2.size; simp at h_; omega); have y1 : w.heap.size + 1 < w2.heap.size := (by have h_ := hb2.size; simp at h_; omega); have c1_0 : w2.cell? ⟨w.heap.size + 1, 0, none⟩ = some (.int .u8 r.kind) := (by rw [hcl _ _ (by first | omega | (simp; done) | (simp; omega))]; first | (go_simp; done) | (simp [*]; done) | (simp [go_sem, *]; done)); have c1_1 : w2.cell? ⟨w.heap.size + 1, 1, none⟩ = some (.int .i64 r.id) := (by rw [hcl _ _ (by first | omega | (simp; done) | (simp; omega))]; first | (go_simp; done) | (simp [*]; done) | (simp [go_sem, *]; done)); have c1_36 : w2.cell? ⟨w.heap.size + 1, 36, none⟩ = some (.int .i64 r.off) := (by rw [hcl _ _ (by first | omega | (simp; done) | (simp; omega))]; first | (go_simp; done) | (simp [*]; done) | (simp [go_sem, *]; done)); have z2 : ¬ (w.heap.size + 1 + 1 = w2.heap.size) := (by have h_ := hb2.size; simp at h_; omega); have y2 : w.heap.size + 1 + 1 < w2.heap.size := (by have h_ := hb2.size; simp at h_; omega); have c2_0 : w2.cell? ⟨w.heap.size + 1 + 1, 0, none⟩ = some (.slice none 0 0) := (by rw [hcl _ _ (by first | omega | (simp; done) | (simp; omega))]; first | (go_simp; done) | (simp [*]; done) | (simp [go_sem, *]; done)); have f2_0 : w2.frozen? ⟨w.heap.size + 1 + 1, 0, none⟩ = false := (by rw [hfz _ _ (by first | omega | (simp; done) | (simp; omega))]; first | (go_simp; done) | (simp [*]; done) | (simp [go_sem, *]; done)); have c2_1 : w2.cell? ⟨w.heap.size + 1 + 1, 1, none⟩ = some (.int .i64 0) := (by rw [hcl _ _ (by first | omega | (simp; done) | (simp; omega))]; first | (go_simp; done) | (simp [*]; done) | (simp [go_sem, *]; done)); have f2_1 : w2.frozen? ⟨w.heap.size + 1 + 1, 1, none⟩ = false := (by rw [hfz _ _ (by first | omega | (simp; done) | (simp; omega))]; first | (go_simp; done) | (simp [*]; done) | (simp [go_sem, *]; done)); have r0 : rowAt w2 ⟨w.heap.size + 1, 0, none⟩ 37 = some (rcL r) := (by rw [rowAt_below hb2 (by first | omega | (simp; done) | (simp; omega))]; first | (go_simp; done) | (simp [*]; done) | (simp [go_sem, *]; done)); have HO2 := Aside0.mk (Kd.R_lower (base' := w.heap.size + 1 + 1 + 1) ho (by simp)); have HB2 := Aside0.mk (Below.trans (below_alloc (below_alloc (below_alloc (Below.refl w.heap.size w) _) _) _) (hb2.mono (by simp; omega))); clear hb2 hcl hfz ho) | (go_at_call 80; refine (idx_id A2 c2 l r.id _ _ (Kd.R_reads' (flat_put (flat_put HO2.out (by omega)) (by omega))).2.2 (Nat.le_trans hlen (by decide)) ?hc1).mono ?_; (case hc1 => first | (go_simp; done) | (simp [go_sem, *]; done)); rintro e w3 ⟨rfl, hb3⟩; obtain ⟨hcl, hfz⟩ := bcell hb3; have zi0 : ¬ (w.heap.size = w3.heap.size) := (by have h_ := hb3.size; simp at h_; omega); have yi0 : w.heap.size < w3.heap.size := (by have h_ := hb3.size; simp at h_; omega); have ci0_0 : w3.cell? ⟨w.heap.size, 0, none⟩ = some (.slice A2 l.length c2) := (by rw [hcl _ _ (by first | omega | (simp; done) | (simp; omega))]; first | (go_simp; done) | (simp [*]; done) | (simp [go_sem, *]; done)); have fi0_0 : w3.frozen? ⟨w.heap.size, 0, none⟩ = false := (by rw [hfz _ _ (by first | omega | (simp; done) | (simp; omega))]; first | (go_simp; done) | (simp [*]; done) | (simp [go_sem, *]; done)); have ci0_1 : w3.cell? ⟨w.heap.size, 1, none⟩ = some (.int .i64 nx) := (by rw [hcl _ _ (by first | omega | (simp; done) | (simp; omega))]; first | (go_simp; done) | (simp [*]; done) | (simp [go_sem, *]; done)); have fi0_1 : w3.frozen? ⟨w.heap.size, 1, none⟩ = false := (by rw [hfz _ _ (by first | omega | (simp; done) | (simp; omega))]; first | (go_simp; done) | (simp [*]; done) | (simp [go_sem, *]; done)); have zi1 : ¬ (w.heap.size + 1 = w3.heap.size) := (by have h_ := hb3.size; simp at h_; omega); have yi1 : w.heap.size + 1 < w3.heap.size := (by have h_ := hb3.size; simp at h_; omega); have ci1_0 : w3.cell? ⟨w.heap.size + 1, 0, none⟩ = some (.int .u8 r.kind) := (by rw [hcl _ _ (by first | omega | (simp; done) | (simp; omega))]; first | (go_simp; done) | (simp [*]; done) | (simp [go_sem, *]; done)); have ci1_1 : w3.cell? ⟨w.heap.size + 1, 1, none⟩ = some (.int .i64 r.id) := (by rw [hcl _ _ (by first | omega | (simp; done) | (simp; omega))]; first | (go_simp; done) | (simp [*]; done) | (simp [go_sem, *]; done)); have ci1_36 : w3.cell? ⟨w.heap.size + 1, 36, none⟩ = some (.int .i64 r.off) := (by rw [hcl _ _ (by first | omega | (simp; done) | (simp; omega))]; first | (go_simp; done) | (simp [*]; done) | (simp [go_sem, *]; done)); have zi2 : ¬ (w.heap.size + 1 + 1 = w3.heap.size) := (by have h_ := hb3.size; simp at h_; omega); have yi2 : w.heap.size + 1 + 1 < w3.heap.size := (by have h_ := hb3.size; simp at h_; omega); have ci2_0 : w3.cell? ⟨w.heap.size + 1 + 1, 0, none⟩ = some (.slice none 0 0) := (by rw [hcl _ _ (by first | omega | (simp; done) | (simp; omega))]; first | (go_simp; done) | (simp [*]; done) | (simp [go_sem, *]; done)); have fi2_0 : w3.frozen? ⟨w.heap.size + 1 + 1, 0, none⟩ = false := (by rw [hfz _ _ (by first | omega | (simp; done) | (simp; omega))]; first | (go_simp; done) | (simp [*]; done) | (simp [go_sem, *]; done)); have ci2_1 : w3.cell? ⟨w.heap.size + 1 + 1, 1, none⟩ = some (.int .i64 0) := (by rw [hcl _ _ (by first | omega | (simp; done) | (simp; omega))]; first | (go_simp; done) | (simp [*]; done) | (simp [go_sem, *]; done)); have fi2_1 : w3.frozen? ⟨w.heap.size + 1 + 1, 1, none⟩ = false := (by rw [hfz _ _ (by first | omega | (simp; done) | (simp; omega))]; first | (go_simp; done) | (simp [*]; done) | (simp [go_sem, *]; done)); have ri0 : rowAt w3 ⟨w.heap.size + 1, 0, none⟩ 37 = some (rcL r) := (by rw [rowAt_below hb3 (by first | omega | (simp; done) | (simp; omega))]; first | (go_simp; done) | (simp [*]; done) | (simp [go_sem, *]; done)); have HO3 := Aside0.mk (Kd.R_below (flat_put (flat_put HO2.out (by omega)) (by omega)) hb3); have HB3 := Aside0.mk (Below.trans (below_setCell (below_setCell HB2.out (by omega) _) (by omega) _) (hb3.mono (by simp; omega))); clear hb3 hcl hfz; have HG0 := Aside0.mk HB3.out.size) | (go_at_call 82; refine (begins_calls A2 c2 l nx r (w.heap.size + 1 + 1 + 1) _ HO3.out hlen (by omega) hid hid0).mono ?_; rintro e w4 ⟨v4, he4, ho4, hb4⟩; rw [HQ.out] at he4 ho4; subst he4; obtain ⟨A4, c4, rfl⟩ := Kd.R_slice ho4; have hcl : ∀ b o, b < w.heap.size + 1 + 1 + 1 → w4.cell? ⟨b, o, none⟩ = w3.cell? ⟨b, o, none⟩ := fun b o h => hb4.cell (p := ⟨b, o, none⟩) h; have hfz : ∀ b o, b < w.heap.size + 1 + 1 + 1 → w4.frozen? ⟨b, o, none⟩ = w3.frozen? ⟨b, o, none⟩ := fun b o h => hb4.frozen (p := ⟨b, o, none⟩) h; have cd0_0 : w4.cell? ⟨w.heap.size + 1 + 1, 0, none⟩ = some (.slice none 0 0) := (by rw [hcl _ _ (by first | omega | (simp; done) | (simp; omega))]; first | (go_simp; done) | (simp [*]; done) | (simp [go_sem, *]; done)); have fd0_0 : w4.frozen? ⟨w.heap.size + 1 + 1, 0, none⟩ = false := (by rw [hfz _ _ (by first | omega | (simp; done) | (simp; omega))]; first | (go_simp; done) | (simp [*]; done) | (simp [go_sem, *]; done)); have cd0_1 : w4.cell? ⟨w.heap.size + 1 + 1, 1, none⟩ = some (.int .i64 0) := (by rw [hcl _ _ (by first | omega | (simp; done) | (simp; omega))]; first | (go_simp; done) | (simp [*]; done) | (simp [go_sem, *]; done)); have fd0_1 : w4.frozen? ⟨w.heap.size + 1 + 1, 1, none⟩ = false := (by rw [hfz _ _ (by first | omega | (simp; done) | (simp; omega))]; first | (go_simp; done) | (simp [*]; done) | (simp [go_sem, *]; done)); have HO4 := Aside0.mk ho4; have HB4 := Aside0.mk (HB3.out.trans (hb4.mono (by omega))); clear ho4 hb4 hcl hfz))
  refine bodyPost_ret (v := .tuple #[.agg #[.slice A4 ql.length c4, .int .i64 qn], .bool qb]) (by simp [results, Tryd.results27, go_sem, *]) rfl ⟨_, by rw [HP.out], ?_, ?_⟩
  · rw [HP.out]; exact Kd.R_lower (flat_put (flat_put (HO4.out) (by omega)) (by omega)) (by omega)
  · (repeat' (first | exact HB4.out | (with_reducible refine below_setCell ?_ ?_ _) | (with_reducible refine below_setRow ?_ ?_ _) | (with_reducible refine Below.alloc ?_ ?_ _) | (with_reducible refine below_drew ?_) | (with_reducible refine pw_below_drewN ?_ _) | (with_reducible exact Below.refl _ _) | omega | (simp; done) | (simp; omega)))
theorem Step_calls (A : Option Addr) (c : Nat) (l : List Pt) (nx : Int) (r : Rc) (w : World) (hC : Kd.C kPt w A l.length l) (hc : l.length ≤ c) (hlen : l.length ≤ 64) (hid : r.id ≤ 2199023255552) (hid0 : -9223372036854775808 ≤ r.id) :
    Calls Tryd.prog 27 #[.agg #[.slice A l.length c, .int .i64 nx], .agg (rcL r).toArray] w fun e w' => ∃ v : Value, e = .returned (.tuple #[.agg #[v, .int .i64 (stepP ⟨l, nx⟩ r).1.next], .bool (stepP ⟨l, nx⟩ r).2]) ∧ Kd.R kPt 75 w' w.heap.size (fun _ => True) v (stepP ⟨l, nx⟩ r).1.parts ∧ Below w.heap.size w w' := by
  by_cases h0 : r.kind = 0
  · exact Step_begin A c l nx r w hC hc hlen hid hid0 h0
  by_cases h4 : r.kind = 4
  · by_cases h : r.id < nx
    · exact Step_skip0 A c l nx r w hC hc hlen hid hid0 h4 h
    · exact Step_skip1 A c l nx r w hC hc hlen hid hid0 h4 h
  by_cases h1 : r.kind = 1
  · cases hn : l.findIdx? (fun x => decide (x.id = r.id)) with
    | none => exact Step_mark0 A c l nx r w hC hc hlen hid hid0 h1 hn
    | some i =>
      obtain ⟨hil, _, _⟩ := List.findIdx?_eq_some_iff_getElem.1 hn
      have hx : l[i]? = some l[i] := List.getElem?_eq_getElem hil
      by_cases h2 : r.off < l[i].off
      · exact Step_mark1 A c l nx r w hC hc hlen hid hid0 h1 i _ hn hx h2
      by_cases h3 : l[i].size < r.off
      · exact Step_mark2 A c l nx r w hC hc hlen hid hid0 h1 i _ hn hx h2 h3
      · exact Step_mark3 A c l nx r w hC hc hlen hid hid0 h1 i _ hn hx h2 h3
  by_cases h2 : r.kind = 2 ∨ r.kind = 3
  · cases hn : l.findIdx? (fun x => decide (x.id = r.id)) with
    | none => exact Step_del0 A c l nx r w hC hc hlen hid hid0 h2 hn
    | some i => exact Step_del1 A c l nx r w hC hc hlen hid hid0 i h2 hn
  · exact Step_other A c l nx r w hC hc hlen hid hid0 h0 h1 (fun h => h2 (.inl h)) (fun h => h2 (.inr h)) h4
#print axioms Step_calls
end Go.Proofs.YtiohgpcbdefokaaDoor.B
/- What RecordRises asks, in plain words: what a record that may be makes of a state keeps its order. No condition. -/
namespace Go.Proofs.YtiohgpcbdefokaaDoor.B
/-- Parts with rising IDs below the next one, unlike paths, offsets up to their sizes. -/
structure Good (s : St) : Prop where
  few : s.parts.length ≤ 64
  at_ : ∀ x ∈ s.parts, x.id < s.next ∧ 0 ≤ x.off ∧ x.off ≤ x.size
  ids : s.parts.Pairwise (fun a b => a.id < b.id)
  paths : s.parts.Pairwise (fun a b => a.path ≠ b.path)
end Go.Proofs.YtiohgpcbdefokaaDoor.B
/- What RecordImaged asks, in plain words: the image of a good state plays just that. No condition. -/
namespace Go.Proofs.YtiohgpcbdefokaaDoor.B
/-- What records make of a state, and how many were taken. -/
def playAt (s : St) : List Rc → St × Nat
  | [] => (s, 0)
  | r :: l => if (stepP s r).2 = true then (let q := playAt (stepP s r).1 l; (q.1, q.2 + 1)) else (s, 0)
def playP (l : List Rc) : St × Nat := playAt St.zero l
theorem playAt_one {s : St} {r : Rc} {l : List Rc} (h : (stepP s r).2 = true) : playAt s (r :: l) = ((playAt (stepP s r).1 l).1, (playAt (stepP s r).1 l).2 + 1) := by
  show (if (stepP s r).2 = true then _ else _) = _
  rw [if_pos h]
theorem playAt_nil (s : St) : playAt s [] = (s, 0) := rfl
end Go.Proofs.YtiohgpcbdefokaaDoor.B
/- record.Play: what records make. No condition. -/
namespace Go.Proofs.YtiohgpcbdefokaaDoor.B
open Go.RowKit Go.Proofs.YtiohgpcbdefokaaDoorW.PrintWords Go.Proofs.YtiohgpcbdefokaaDoor.RowLaws
attribute [local go_sem ↓ high] lvO_hs ldO_hs stO_hs lvO_pt ldO_pt stO_pt zero_pt eqA_pt lvO_ptR ldO_ptR stO_ptR zero_ptR eqA_ptR lvO_rc ldO_rc stO_rc zero_rc eqA_rc lvO_rcR ldO_rcR stO_rcR zero_rcR eqA_rcR lvO_tk ldO_tk stO_tk zero_tk eqA_tk lvO_tkR ldO_tkR stO_tkR zero_tkR eqA_tkR lvO_it ldO_it stO_it zero_it eqA_it blO_pt blO_ptR blO_rc blO_rcR blO_tk blO_tkR blO_it bsO_pt bsO_ptR bsO_rc bsO_rcR bsO_it
attribute [local go_sem high] rowAt_setCell rowAt_setRow cell_setRow_ne isRow_setRow_ne rowAt_alloc rowAt_drew isRow_alloc isRow_drew isRow_setCell rowRun_some okL_hs ldV_hs ldA_hs stA_hs setRow_alloc get_pt_id get_pt_path cut_pt_sum get_pt_size get_pt_off cut_pt okL_pt size_pt lenb_pt eta_pt ldV_pt ldA_pt stA_pt ldV_ptR ldA_ptR stA_ptR get_rc_kind get_rc_id get_rc_path cut_rc_sum get_rc_size get_rc_off cut_rc okL_rc size_rc lenb_rc eta_rc ldV_rc ldA_rc stA_rc ldV_rcR ldA_rcR stA_rcR get_tk_path cut_tk_sum get_tk_size get_tk_off cut_tk_old cut_tk okL_tk size_tk lenb_tk eta_tk ldV_tk ldA_tk stA_tk ldV_tkR ldA_tkR stA_tkR get_it_path get_it_dir get_it_size cut_it_sum cut_it okL_it size_it lenb_it eta_it ldV_it ldA_it stA_it bld_pt_01234 bld_pt_0123 bld_pt_z bld_ptR_01234 bld_ptR_0123 bld_ptR_z bld_rc_012345 bld_rc_015 bld_rc_01 bld_rc_z bld_rc_01234 bld_rc_24 bld_rc_05 bld_rc_0 bld_rcR_012345 bld_rcR_015 bld_rcR_01 bld_rcR_z bld_rcR_01234 bld_rcR_24 bld_rcR_05 bld_rcR_0 bld_tk_01234 bld_tk_0 bld_tk_z bld_tkR_01234 bld_tkR_0 bld_tkR_z bld_it_0123 bld_it_023 bld_it_01 bld_it_0 bld_it_z bs0_pt bs1_pt bs0_ptR bs1_ptR bs0_rc bs1_rc bs0_rcR bs1_rcR bs0_it bs1_it
theorem beginP_len (s : St) (r : Rc) (h : s.parts.length ≤ 64) : (beginP s r).1.parts.length ≤ 64 := by
  unfold beginP
  split
  · exact h
  · rename_i hn
    show (s.parts ++ [_]).length ≤ 64
    rw [List.length_append, List.length_singleton]
    have : ¬ 64 ≤ s.parts.length := fun e => hn (.inr (.inr e))
    omega
theorem stepP_len (s : St) (r : Rc) (h : s.parts.length ≤ 64) : (stepP s r).1.parts.length ≤ 64 := by
  unfold stepP
  split
  · exact beginP_len s r h
  split
  · split <;> exact h
  split
  · split
    · exact h
    · split
      · exact h
      · split
        · exact h
        · show (s.parts.set _ _).length ≤ 64
          rw [List.length_set]; exact h
  split
  · split
    · exact h
    · exact Nat.le_trans (List.length_eraseIdx_le _ _) h
  · exact h
/-- IDs that Step can take. -/
def okId (r : Rc) : Prop := r.id ≤ 2199023255552 ∧ -9223372036854775808 ≤ r.id
/-- The boxes of Play, at the loop's head. -/
structure PlayW (w : World) (ps : List Pt) (nx : Int) (wr : World) : Prop where
  b : Below w.heap.size w wr
  z : w.heap.size + 1 + 1 ≤ wr.heap.size
  len : ps.length ≤ 64
  at_ : ∃ A2 c2, wr.cell? ⟨w.heap.size, 0, none⟩ = some (.slice none 0 0) ∧ wr.cell? ⟨w.heap.size, 1, none⟩ = some (.int .i64 0) ∧ wr.cell? ⟨w.heap.size + 1, 0, none⟩ = some (.slice A2 ps.length c2) ∧ wr.cell? ⟨w.heap.size + 1, 1, none⟩ = some (.int .i64 nx) ∧
    wr.frozen? ⟨w.heap.size, 0, none⟩ = false ∧ wr.frozen? ⟨w.heap.size, 1, none⟩ = false ∧ wr.frozen? ⟨w.heap.size + 1, 0, none⟩ = false ∧ wr.frozen? ⟨w.heap.size + 1, 1, none⟩ = false ∧ Kd.R kPt 75 wr (w.heap.size + 1 + 1) (fun _ => True) (.slice A2 ps.length c2) ps
set_option maxHeartbeats 4000000 in
theorem playW_next {w w4 : World} {ql : List Pt} {qn : Int} {A4 : Option Addr} {c4 : Nat} {x y : Value} {o : Obj} (hb : Below w.heap.size w w4) (hz : w.heap.size + 1 + 1 ≤ w4.heap.size) (hl : ql.length ≤ 64)
    (h0 : w4.cell? ⟨w.heap.size, 0, none⟩ = some (.slice none 0 0)) (h1 : w4.cell? ⟨w.heap.size, 1, none⟩ = some (.int .i64 0)) (h2 : w4.cell? ⟨w.heap.size + 1, 0, none⟩ = some x) (h3 : w4.cell? ⟨w.heap.size + 1, 1, none⟩ = some y)
    (f0 : w4.frozen? ⟨w.heap.size, 0, none⟩ = false) (f1 : w4.frozen? ⟨w.heap.size, 1, none⟩ = false) (f2 : w4.frozen? ⟨w.heap.size + 1, 0, none⟩ = false) (f3 : w4.frozen? ⟨w.heap.size + 1, 1, none⟩ = false)
    (hO : Kd.R kPt 75 w4 (w.heap.size + 1 + 1) (fun _ => True) (.slice A4 ql.length c4) ql) :
    PlayW w ql qn (((w4.setCell ⟨w.heap.size + 1, 0, none⟩ (.slice A4 ql.length c4)).setCell ⟨w.heap.size + 1, 1, none⟩ (.int .i64 qn)).alloc o) := by
  have n0 : ¬ (w.heap.size = w4.heap.size) := by omega
  have n1 : ¬ (w.heap.size + 1 = w4.heap.size) := by omega
  have n2 : w.heap.size < w4.heap.size := by omega
  have n3 : w.heap.size + 1 < w4.heap.size := by omega
  refine ⟨below_alloc (below_setCell (below_setCell hb (by omega) _) (by omega) _) _, by simp; omega, hl, A4, c4, ?_, ?_, ?_, ?_, ?_, ?_, ?_, ?_, Kd.R_below (flat_put (flat_put hO (by omega)) (by omega)) (below_alloc (Below.refl _ _) _)⟩ <;> clear hO hb <;> first | (go_simp; done) | (simp [*]; done) | (simp [go_sem, *]; done)
theorem play_step {s t : St} {l : List Rc} {k : Nat} {x : Rc} (hx : l[k]? = some x) (h : stepP s x = (t, true)) : playAt s (l.drop k) = ((playAt t (l.drop (k + 1))).1, (playAt t (l.drop (k + 1))).2 + 1) := by
  obtain ⟨hk, hx⟩ := List.getElem?_eq_some_iff.1 hx
  rw [List.drop_eq_getElem_cons hk, hx, playAt_one (by rw [h]), h]
theorem play_stop {s t : St} {l : List Rc} {k : Nat} {x : Rc} (hx : l[k]? = some x) (h : stepP s x = (t, false)) : playAt s (l.drop k) = (s, 0) := by
  obtain ⟨hk, hx⟩ := List.getElem?_eq_some_iff.1 hx
  rw [List.drop_eq_getElem_cons hk, hx]
  show (if (stepP s x).2 = true then _ else _) = _
  rw [if_neg (by rw [h]; exact Bool.false_ne_true)]
set_option linter.unusedVariables false in
set_option maxHeartbeats 8000000 in
set_option maxRecDepth 100000 in
theorem Play_calls (A : Option Addr) (c : Nat) (l : List Rc) (w : World) (hC : Kd.C kRc w A l.length l) (hlen : l.length ≤ 1000) (hid : ∀ r ∈ l, okId r) :
    Calls Tryd.prog 31 #[.slice A l.length c] w fun e w' => ∃ v : Value, e = .returned (.tuple #[.agg #[v, .int .i64 (playP l).1.next], .int .i64 ((playP l).2 : Nat)]) ∧ Kd.R kPt 75 w' w.heap.size (fun _ => True) v (playP l).1.parts ∧ Below w.heap.size w w' := by
  have HC := Aside0.mk hC
  have HID := Aside0.mk hid
  clear hC hid
  go_enter Tryd.func31, Tryd.ntmps31
  go_wp2
  go_loopw [11] (fun iv wr => ∃ (k : Nat) (ps : List Pt) (nx : Int), k ≤ l.length ∧ iv = .int .i64 k ∧ Aside0 (PlayW w ps nx wr) ∧ Aside0 (playP l = ((playAt ⟨ps, nx⟩ (l.drop k)).1, (playAt ⟨ps, nx⟩ (l.drop k)).2 + k))) (fun iv _ => l.length - (intOf iv).toNat)
  case atStart =>
    refine ⟨0, [], 0, Nat.zero_le _, rfl, ⟨?_⟩, ⟨by rw [List.drop_zero]; rfl⟩⟩
    refine ⟨below_alloc (below_alloc (Below.refl _ _) _) _, by simp, by decide, none, 0, ?_, ?_, ?_, ?_, ?_, ?_, ?_, ?_, Kd.R_nil _ _ _ _ _⟩ <;> first | (go_simp; done) | (simp; done)
  case round =>
    obtain ⟨k, ps, nx, hk, rfl, HW, HP⟩ := hrel
    obtain ⟨A2, c2, m0, m1, m2, m3, m4, m5, m6, m7, hO⟩ := HW.out.at_
    have HB := Aside0.mk HW.out.b
    have hz := HW.out.z
    have HO := Aside0.mk hO
    have HCR := Aside0.mk (Kd.R_reads' hO).2.2
    have HL := Aside0.mk (And.intro HW.out.len (Kd.R_reads' hO).2.1)
    clear hO
    have n2 : w.heap.size < wr.heap.size := by omega
    have n3 : w.heap.size + 1 < wr.heap.size := by omega
    have n0 : ¬ (w.heap.size = wr.heap.size) := by omega
    have n1 : ¬ (w.heap.size + 1 = wr.heap.size) := by omega
    by_cases hlt : k < l.length
    · obtain ⟨b, o, hA, hb, hr⟩ := flat_at HC.out (by decide) (by omega)
      subst hA
      obtain ⟨hrow, _⟩ := hr k hlt
      rw [← rowAt_below HB.out hb] at hrow
      have HX := Aside0.mk (show l[k]? = some l[k] from List.getElem?_eq_getElem hlt)
      have HX1 := Aside0.mk (HID.out l[k] (List.getElem_mem hlt))
      obtain ⟨x, hx⟩ : ∃ x, x = l[k] := ⟨_, rfl⟩
      rw [← hx] at hrow HX HX1
      clear hr hx
      have hlt2 : (k : Int) < (l.length : Int) := by omega
      have HBB := Aside0.mk (show b < wr.heap.size from by have := HB.out.size; omega)
      obtain ⟨q, hq⟩ : ∃ q, stepP ⟨ps, nx⟩ x = q := ⟨_, rfl⟩
      have HLQ := Aside0.mk (stepP_len ⟨ps, nx⟩ x HL.out.1)
      rw [hq] at HLQ
      have HQ := Aside0.mk hq
      clear hq
      obtain ⟨⟨ql, qn⟩, qb⟩ := q
      cases qb with
      | true =>
        go_wp2_with (go_at_call 27; refine (Step_calls A2 c2 ps nx x _ ?hc1 HL.out.2 HL.out.1 HX1.out.1 HX1.out.2).mono ?_; (case hc1 => exact Kd.C_below HCR.out (below_alloc (Below.refl _ _) _)); rintro e w4 ⟨v4, he4, ho4, hb4⟩; rw [HQ.out] at he4 ho4; subst he4; obtain ⟨A4, c4, rfl⟩ := Kd.R_slice ho4; obtain ⟨hcl, hfz⟩ := bcell hb4; have zd0 : ¬ (w.heap.size = w4.heap.size) := (by have h_ := hb4.size; simp at h_; omega); have yd0 : w.heap.size < w4.heap.size := (by have h_ := hb4.size; simp at h_; omega); have cd0_0 : w4.cell? ⟨w.heap.size, 0, none⟩ = some (.slice none 0 0) := (by rw [hcl _ _ (by first | omega | (simp; done) | (simp; omega))]; first | (go_simp; done) | (simp [*]; done) | (simp [go_sem, *]; done)); have fd0_0 : w4.frozen? ⟨w.heap.size, 0, none⟩ = false := (by rw [hfz _ _ (by first | omega | (simp; done) | (simp; omega))]; first | (go_simp; done) | (simp [*]; done) | (simp [go_sem, *]; done)); have cd0_1 : w4.cell? ⟨w.heap.size, 1, none⟩ = some (.int .i64 0) := (by rw [hcl _ _ (by first | omega | (simp; done) | (simp; omega))]; first | (go_simp; done) | (simp [*]; done) | (simp [go_sem, *]; done)); have fd0_1 : w4.frozen? ⟨w.heap.size, 1, none⟩ = false := (by rw [hfz _ _ (by first | omega | (simp; done) | (simp; omega))]; first | (go_simp; done) | (simp [*]; done) | (simp [go_sem, *]; done)); have zd1 : ¬ (w.heap.size + 1 = w4.heap.size) := (by have h_ := hb4.size; simp at h_; omega); have yd1 : w.heap.size + 1 < w4.heap.size := (by have h_ := hb4.size; simp at h_; omega); have cd1_0 : w4.cell? ⟨w.heap.size + 1, 0, none⟩ = some (.slice A2 ps.length c2) := (by rw [hcl _ _ (by first | omega | (simp; done) | (simp; omega))]; first | (go_simp; done) | (simp [*]; done) | (simp [go_sem, *]; done)); have fd1_0 : w4.frozen? ⟨w.heap.size + 1, 0, none⟩ = false := (by rw [hfz _ _ (by first | omega | (simp; done) | (simp; omega))]; first | (go_simp; done) | (simp [*]; done) | (simp [go_sem, *]; done)); have cd1_1 : w4.cell? ⟨w.heap.size + 1, 1, none⟩ = some (.int .i64 nx) := (by rw [hcl _ _ (by first | omega | (simp; done) | (simp; omega))]; first | (go_simp; done) | (simp [*]; done) | (simp [go_sem, *]; done)); have fd1_1 : w4.frozen? ⟨w.heap.size + 1, 1, none⟩ = false := (by rw [hfz _ _ (by first | omega | (simp; done) | (simp; omega))]; first | (go_simp; done) | (simp [*]; done) | (simp [go_sem, *]; done)); have HO4 := Aside0.mk (Kd.R_lower (base' := w.heap.size + 1 + 1) ho4 (by simp; omega)); have HB4 := Aside0.mk (Below.trans (below_alloc HB.out _) (hb4.mono (by simp; omega))); have HS4 := Aside0.mk (show wr.heap.size + 1 ≤ w4.heap.size from by have h_ := hb4.size; simpa using h_); have HBS := Aside0.mk hb4; clear ho4 hb4 hcl hfz)
        go_roundw
        case rel =>
          refine ⟨k + 1, ql, qn, by omega, by simp, ⟨?_⟩, ⟨by rw [HP.out, play_step HX.out HQ.out]; simp only; congr 1; omega⟩⟩
          exact playW_next HB4.out (by have := HS4.out; omega) HLQ.out cd0_0 cd0_1 cd1_0 cd1_1 fd0_0 fd0_1 fd1_0 fd1_1 HO4.out
        case measure => simp [intOf]; omega
      | false =>
        go_wp2_with (go_at_call 27; refine (Step_calls A2 c2 ps nx x _ ?hc1 HL.out.2 HL.out.1 HX1.out.1 HX1.out.2).mono ?_; (case hc1 => exact Kd.C_below HCR.out (below_alloc (Below.refl _ _) _)); rintro e w4 ⟨v4, he4, ho4, hb4⟩; rw [HQ.out] at he4 ho4; subst he4; obtain ⟨A4, c4, rfl⟩ := Kd.R_slice ho4; obtain ⟨hcl, hfz⟩ := bcell hb4; have zd0 : ¬ (w.heap.size = w4.heap.size) := (by have h_ := hb4.size; simp at h_; omega); have yd0 : w.heap.size < w4.heap.size := (by have h_ := hb4.size; simp at h_; omega); have cd0_0 : w4.cell? ⟨w.heap.size, 0, none⟩ = some (.slice none 0 0) := (by rw [hcl _ _ (by first | omega | (simp; done) | (simp; omega))]; first | (go_simp; done) | (simp [*]; done) | (simp [go_sem, *]; done)); have fd0_0 : w4.frozen? ⟨w.heap.size, 0, none⟩ = false := (by rw [hfz _ _ (by first | omega | (simp; done) | (simp; omega))]; first | (go_simp; done) | (simp [*]; done) | (simp [go_sem, *]; done)); have cd0_1 : w4.cell? ⟨w.heap.size, 1, none⟩ = some (.int .i64 0) := (by rw [hcl _ _ (by first | omega | (simp; done) | (simp; omega))]; first | (go_simp; done) | (simp [*]; done) | (simp [go_sem, *]; done)); have fd0_1 : w4.frozen? ⟨w.heap.size, 1, none⟩ = false := (by rw [hfz _ _ (by first | omega | (simp; done) | (simp; omega))]; first | (go_simp; done) | (simp [*]; done) | (simp [go_sem, *]; done)); have zd1 : ¬ (w.heap.size + 1 = w4.heap.size) := (by have h_ := hb4.size; simp at h_; omega); have yd1 : w.heap.size + 1 < w4.heap.size := (by have h_ := hb4.size; simp at h_; omega); have cd1_0 : w4.cell? ⟨w.heap.size + 1, 0, none⟩ = some (.slice A2 ps.length c2) := (by rw [hcl _ _ (by first | omega | (simp; done) | (simp; omega))]; first | (go_simp; done) | (simp [*]; done) | (simp [go_sem, *]; done)); have fd1_0 : w4.frozen? ⟨w.heap.size + 1, 0, none⟩ = false := (by rw [hfz _ _ (by first | omega | (simp; done) | (simp; omega))]; first | (go_simp; done) | (simp [*]; done) | (simp [go_sem, *]; done)); have cd1_1 : w4.cell? ⟨w.heap.size + 1, 1, none⟩ = some (.int .i64 nx) := (by rw [hcl _ _ (by first | omega | (simp; done) | (simp; omega))]; first | (go_simp; done) | (simp [*]; done) | (simp [go_sem, *]; done)); have fd1_1 : w4.frozen? ⟨w.heap.size + 1, 1, none⟩ = false := (by rw [hfz _ _ (by first | omega | (simp; done) | (simp; omega))]; first | (go_simp; done) | (simp [*]; done) | (simp [go_sem, *]; done)); have HO4 := Aside0.mk (Kd.R_lower (base' := w.heap.size + 1 + 1) ho4 (by simp; omega)); have HB4 := Aside0.mk (Below.trans (below_alloc HB.out _) (hb4.mono (by simp; omega))); have HS4 := Aside0.mk (show wr.heap.size + 1 ≤ w4.heap.size from by have h_ := hb4.size; simpa using h_); have HBS := Aside0.mk hb4; clear ho4 hb4 hcl hfz)
        refine bodyPost_ret (v := .tuple #[.agg #[.slice A2 ps.length c2, .int .i64 nx], .int .i64 k]) (by simp [results, Tryd.results31, go_sem, *]) rfl ⟨.slice A2 ps.length c2, ?_, ?_, ?_⟩
        · rw [HP.out, play_stop HX.out HQ.out]; simp
        · rw [HP.out, play_stop HX.out HQ.out]
          exact Kd.R_lower (Kd.R_below (flat_put (flat_put (Kd.R_below (Kd.R_below HO.out (below_alloc (Below.refl _ _) _)) HBS.out) (by omega)) (by omega)) (below_alloc (Below.refl _ _) _)) (by omega)
        · have hs4 := HS4.out; (repeat' (first | exact HB4.out | (with_reducible refine below_setCell ?_ ?_ _) | (with_reducible refine below_setRow ?_ ?_ _) | (with_reducible refine Below.alloc ?_ ?_ _) | (with_reducible refine below_drew ?_) | (with_reducible refine pw_below_drewN ?_ _) | (with_reducible exact Below.refl _ _) | omega | (simp; done) | (simp; omega)))
    · have hk2 : k = l.length := by omega
      subst hk2
      go_wp2
      refine bodyPost_ret (v := .tuple #[.agg #[.slice A2 ps.length c2, .int .i64 nx], .int .i64 l.length]) (by simp [results, Tryd.results31, go_sem, *]) rfl ⟨.slice A2 ps.length c2, ?_, ?_, ?_⟩
      · rw [HP.out, List.drop_length, playAt_nil]; simp
      · rw [HP.out, List.drop_length, playAt_nil]
        exact Kd.R_lower (flat_put (flat_put HO.out (by omega)) (by omega)) (by omega)
      · exact below_setCell (below_setCell HB.out (by omega) _) (by omega) _
end Go.Proofs.YtiohgpcbdefokaaDoor.B
/- sumpterlaw15.awake. No condition. -/
namespace Go.Proofs.YtiohgpcbdefokaaDoor.B
open Go.RowKit Go.Proofs.YtiohgpcbdefokaaDoorW.PrintWords Go.Proofs.YtiohgpcbdefokaaDoor.RowLaws
attribute [local go_sem ↓ high] lvO_hs ldO_hs stO_hs lvO_pt ldO_pt stO_pt zero_pt eqA_pt lvO_ptR ldO_ptR stO_ptR zero_ptR eqA_ptR lvO_rc ldO_rc stO_rc zero_rc eqA_rc lvO_rcR ldO_rcR stO_rcR zero_rcR eqA_rcR lvO_tk ldO_tk stO_tk zero_tk eqA_tk lvO_tkR ldO_tkR stO_tkR zero_tkR eqA_tkR lvO_it ldO_it stO_it zero_it eqA_it blO_pt blO_ptR blO_rc blO_rcR blO_tk blO_tkR blO_it bsO_pt bsO_ptR bsO_rc bsO_rcR bsO_it
attribute [local go_sem high] rowAt_setCell rowAt_setRow cell_setRow_ne isRow_setRow_ne rowAt_alloc rowAt_drew isRow_alloc isRow_drew isRow_setCell rowRun_some okL_hs ldV_hs ldA_hs stA_hs setRow_alloc get_pt_id get_pt_path cut_pt_sum get_pt_size get_pt_off cut_pt okL_pt size_pt lenb_pt eta_pt ldV_pt ldA_pt stA_pt ldV_ptR ldA_ptR stA_ptR get_rc_kind get_rc_id get_rc_path cut_rc_sum get_rc_size get_rc_off cut_rc okL_rc size_rc lenb_rc eta_rc ldV_rc ldA_rc stA_rc ldV_rcR ldA_rcR stA_rcR get_tk_path cut_tk_sum get_tk_size get_tk_off cut_tk_old cut_tk okL_tk size_tk lenb_tk eta_tk ldV_tk ldA_tk stA_tk ldV_tkR ldA_tkR stA_tkR get_it_path get_it_dir get_it_size cut_it_sum cut_it okL_it size_it lenb_it eta_it ldV_it ldA_it stA_it bld_pt_01234 bld_pt_0123 bld_pt_z bld_ptR_01234 bld_ptR_0123 bld_ptR_z bld_rc_012345 bld_rc_015 bld_rc_01 bld_rc_z bld_rc_01234 bld_rc_24 bld_rc_05 bld_rc_0 bld_rcR_012345 bld_rcR_015 bld_rcR_01 bld_rcR_z bld_rcR_01234 bld_rcR_24 bld_rcR_05 bld_rcR_0 bld_tk_01234 bld_tk_0 bld_tk_z bld_tkR_01234 bld_tkR_0 bld_tkR_z bld_it_0123 bld_it_023 bld_it_01 bld_it_0 bld_it_z bs0_pt bs1_pt bs0_ptR bs1_ptR bs0_rc bs1_rc bs0_rcR bs1_rcR bs0_it bs1_it
def rA : Rc := ⟨1, 5, ByteArray.empty, Hs.zero, 0, 9⟩
def sA : List Int := (crc_Seal.f 40 (([1] ++ [5]) ++ [9])).getD []
def tA : List Int := (field_Text.f 40 (strOfNums sA)).getD []
theorem sA_eq : crc_Seal.f 40 (([1] ++ [5]) ++ [9]) = some sA := by decide +kernel
theorem tA_eq : field_Text.f 40 (strOfNums sA) = some tA := by decide +kernel
theorem chkA : chkE rA = 0 := by
  unfold chkE
  rw [if_neg (by decide), if_neg (by decide), if_pos (show rA = bareRc rA from rfl)]
  decide
theorem eightA : Eight 40 tA rA where
  len := by decide +kernel
  num := by decide +kernel
  open_ := by decide +kernel
  one := by decide +kernel
  two := by decide +kernel
  lo := by decide
  lo2 := by decide
  is := rfl
  chk := chkA
theorem takeA : tA.take 4 = [7, 1, 5, 9] := by decide +kernel
def r1A : Rc := ⟨0, 0, ⟨#[97]⟩, Hs.zero, 9, 0⟩
def r2A : Rc := ⟨1, 0, ByteArray.empty, Hs.zero, 0, 3⟩
def r3A : Rc := ⟨2, 0, ByteArray.empty, Hs.zero, 0, 0⟩
theorem playA : playP [r1A, r2A, r3A] = (⟨[], 1⟩, 3) := by decide +kernel
theorem numA5 : field_Num.f 40 5 = some [5] := by decide +kernel
theorem numA9 : field_Num.f 40 9 = some [9] := by decide +kernel
theorem bs3_rc (w : World) : (bslRow 57 3 #[(0, .agg (rcL ⟨0, 0, ⟨#[97]⟩, Hs.zero, 9, 0⟩).toArray), (1, .agg (rcL ⟨1, 0, ByteArray.empty, Hs.zero, 0, 3⟩).toArray), (2, .agg (rcL ⟨2, 0, ByteArray.empty, Hs.zero, 0, 0⟩).toArray)]).run Tryd.prog w = .ok (.slice (some ⟨w.heap.size, 0, none⟩) 3 3) (w.alloc (.cells (rcL r1A ++ (rcL r2A ++ rcL r3A)).toArray 51)) := by kernel_rfl
theorem C3 (w : World) (a b c : Rc) (t : TypeId) : Kd.C kRc (w.alloc (.cells (rcL a ++ (rcL b ++ rcL c)).toArray t)) (some ⟨w.heap.size, 0, none⟩) 3 [a, b, c] := by
  refine ⟨rfl, by decide, fun _ => ⟨_, rfl, fun j p hp => ⟨rcL p, rcL_len p, rfl, fun i u hu => ?_⟩⟩⟩
  have hi : i < 37 := by have := (List.getElem?_eq_some_iff.1 hu).1; rwa [rcL_len] at this
  have hz : kRc.sz = 37 := rfl
  rw [hz, Addr.add_mid, cell_of_row _ _ _ _ _ _ (heap_alloc_new _ _)]
  rw [List.getElem?_toArray, Nat.zero_add]
  match j, hp with
  | 0, hp =>
    obtain rfl : a = p := by simpa using hp
    rw [List.getElem?_append_left (by rw [rcL_len]; omega)]
    simpa using hu
  | 1, hp =>
    obtain rfl : b = p := by simpa using hp
    rw [List.getElem?_append_right (by rw [rcL_len]; omega), List.getElem?_append_left (by rw [rcL_len, rcL_len]; omega), rcL_len]
    rw [show 1 * 37 + i - 37 = i by omega]; exact hu
  | 2, hp =>
    obtain rfl : c = p := by simpa using hp
    rw [List.getElem?_append_right (by rw [rcL_len]; omega), List.getElem?_append_right (by rw [rcL_len, rcL_len]; omega), rcL_len, rcL_len]
    rw [show 2 * 37 + i - 37 - 37 = i by omega]; exact hu
attribute [local go_sem high] bs3_rc
set_option linter.unusedVariables false in
set_option maxHeartbeats 8000000 in
set_option maxRecDepth 100000 in
theorem awake_calls (w : World) (hT : TabOK w) : Calls Tryd.prog 22 #[] w fun e w' => e = .returned (.bool true) ∧ Below w.heap.size w w' := by
  have HT := Aside0.mk hT
  have HT8 := Aside0.mk eightA.len
  clear hT
  go_enter Tryd.func22, Tryd.ntmps22
  go_wp2_with (first
    | (go_at_call 23; refine (PutMark_calls 40 rA [5] [9] sA tA _ HT.out rfl chkA numA5 numA9 (by decide) sA_eq tA_eq).mono ?_; rintro e w2 ⟨v2, rfl, ho2, hb2⟩; obtain ⟨A2, c2, rfl⟩ := Kd.R_slice ho2; have HR2 := Aside0.mk (Kd.R_reads' ho2); rw [HT8.out]; rw [HT8.out] at HR2; have HB2 := Aside0.mk hb2; clear ho2 hb2)
    | (go_at_call 35; refine (Scan_calls 40 A2 c2 tA rA _ (HT.out.below HB2.out) HR2.out.2.2 HR2.out.2.1 eightA).mono ?_; rintro e w3 ⟨v3, rfl, ho3, hb3⟩; obtain ⟨A3, c3, rfl⟩ := Kd.R_slice ho3; have HR3 := Aside0.mk (Kd.R_reads' ho3).2.2; have HC3 := Aside0.mk (Kd.C_below HR2.out.2.2 hb3); have HB3 := Aside0.mk (below_step HB2.out hb3); clear ho3 hb3)
    | (go_at_call 31; have hq := Play_calls (some ⟨w3.heap.size, 0, none⟩) 3 [r1A, r2A, r3A] (w3.alloc (.cells (rcL r1A ++ (rcL r2A ++ rcL r3A)).toArray 51)) (C3 w3 r1A r2A r3A _) (by decide) (by intro r hr; simp only [List.mem_cons, List.not_mem_nil, or_false] at hr; rcases hr with rfl | rfl | rfl <;> exact ⟨by decide, by decide⟩); rw [playA] at hq; refine Calls.mono (show Calls _ _ #[.slice (some ⟨w3.heap.size, 0, none⟩) 3 3] _ _ from hq) ?_; clear hq; rintro e w4 ⟨v4, rfl, ho4, hb4⟩; obtain ⟨A4, c4, rfl⟩ := Kd.R_slice ho4; have HB4 := Aside0.mk (below_step (below_alloc HB3.out _) hb4); have HC4 := Aside0.mk (Kd.C_below (Kd.C_below HC3.out (below_alloc (Below.refl _ _) _)) hb4); have hr4 := Kd.C_below (Kd.C_below HR3.out (below_alloc (Below.refl _ _) _)) hb4;
        obtain ⟨b, o, rfl, hb, hcl⟩ := flat_at hr4 (by decide) (by decide);
        have q36 := (hcl 0 (by decide)).2 36 _ (get_rc_off rA);
        rw [Nat.zero_mul, Nat.add_zero] at q36;
        have q36' : w4.cell? ⟨b, o + 36, none⟩ = some (.int .i64 9) := q36;
        have hbn : ¬ (b = w4.heap.size) := (by omega);
        have ht := print_take_of (P := Tryd.prog) (Value.int .u8) 0 22 5 .i64 Tryd.underlying22 (info_parts info5).choose_spec.1 (info_parts info5).choose_spec.2.2.1 A2 c2 tA 4 (by decide) (by rw [HT8.out]; decide) (by have := HR2.out.2.1; rw [HT8.out]; exact this);
        rw [show ((4 : Int)).toNat = 4 from rfl, takeA, HT8.out] at ht;
        have hcut := ht.1 (w4.alloc (.cells #[.slice A4 0 c4, .int .i64 1] 60));
        have hcv := Kd.C_string (P := Tryd.prog) (src := 22) (dst := 9) (c := c2) Tryd.underlying22 Tryd.underlying5 Tryd.underlying9 (Kd.C_below (Kd.C_of_reads (h1 := fun _ => rfl) (ht.2.1 w4 (Kd.reads_of_C HC4.out))) (below_alloc (Below.refl _ _) (.cells #[.slice A4 0 c4, .int .i64 1] 60)));
        rw [show strOfNums [7, 1, 5, 9] = ⟨#[7, 1, 5, 9]⟩ from rfl, show ([7, 1, 5, 9] : List Int).length = 4 from rfl] at hcv;
        rw [show ([7, 1, 5, 9] : List Int).length = 4 from rfl] at hcut;
        clear ho4 hb4 hr4 hcl ht q36))
  go_ret
  exact ⟨rfl, below_alloc HB4.out _⟩
end Go.Proofs.YtiohgpcbdefokaaDoor.B
/- What the walks of RecordRises and RecordImaged tell of the box of the state. No condition. -/
namespace Go.Proofs.YtiohgpcbdefokaaDoor.B
open Go.RowKit Go.Proofs.YtiohgpcbdefokaaDoorW.PrintWords Go.Proofs.YtiohgpcbdefokaaDoor.RowLaws
attribute [local go_sem ↓ high] lvO_hs ldO_hs stO_hs lvO_pt ldO_pt stO_pt zero_pt eqA_pt lvO_ptR ldO_ptR stO_ptR zero_ptR eqA_ptR lvO_rc ldO_rc stO_rc zero_rc eqA_rc lvO_rcR ldO_rcR stO_rcR zero_rcR eqA_rcR lvO_tk ldO_tk stO_tk zero_tk eqA_tk lvO_tkR ldO_tkR stO_tkR zero_tkR eqA_tkR lvO_it ldO_it stO_it zero_it eqA_it blO_pt blO_ptR blO_rc blO_rcR blO_tk blO_tkR blO_it bsO_pt bsO_ptR bsO_rc bsO_rcR bsO_it
attribute [local go_sem high] rowAt_setCell rowAt_setRow cell_setRow_ne isRow_setRow_ne rowAt_alloc rowAt_drew isRow_alloc isRow_drew isRow_setCell rowRun_some okL_hs ldV_hs ldA_hs stA_hs setRow_alloc get_pt_id get_pt_path cut_pt_sum get_pt_size get_pt_off cut_pt okL_pt size_pt lenb_pt eta_pt ldV_pt ldA_pt stA_pt ldV_ptR ldA_ptR stA_ptR get_rc_kind get_rc_id get_rc_path cut_rc_sum get_rc_size get_rc_off cut_rc okL_rc size_rc lenb_rc eta_rc ldV_rc ldA_rc stA_rc ldV_rcR ldA_rcR stA_rcR get_tk_path cut_tk_sum get_tk_size get_tk_off cut_tk_old cut_tk okL_tk size_tk lenb_tk eta_tk ldV_tk ldA_tk stA_tk ldV_tkR ldA_tkR stA_tkR get_it_path get_it_dir get_it_size cut_it_sum cut_it okL_it size_it lenb_it eta_it ldV_it ldA_it stA_it bld_pt_01234 bld_pt_0123 bld_pt_z bld_ptR_01234 bld_ptR_0123 bld_ptR_z bld_rc_012345 bld_rc_015 bld_rc_01 bld_rc_z bld_rc_01234 bld_rc_24 bld_rc_05 bld_rc_0 bld_rcR_012345 bld_rcR_015 bld_rcR_01 bld_rcR_z bld_rcR_01234 bld_rcR_24 bld_rcR_05 bld_rcR_0 bld_tk_01234 bld_tk_0 bld_tk_z bld_tkR_01234 bld_tkR_0 bld_tkR_z bld_it_0123 bld_it_023 bld_it_01 bld_it_0 bld_it_z bs0_pt bs1_pt bs0_ptR bs1_ptR bs0_rc bs1_rc bs0_rcR bs1_rcR bs0_it bs1_it
attribute [local irreducible] wpStill
/-- The box of the state, and its parts. -/
structure StW (w : World) (ps : List Pt) (nx : Int) (wr : World) : Prop where
  b : Below w.heap.size w wr
  z : w.heap.size + 1 ≤ wr.heap.size
  good : Good ⟨ps, nx⟩
  at_ : ∃ A2 c2, wr.cell? ⟨w.heap.size, 0, none⟩ = some (.slice A2 ps.length c2) ∧ wr.cell? ⟨w.heap.size, 1, none⟩ = some (.int .i64 nx) ∧ wr.frozen? ⟨w.heap.size, 0, none⟩ = false ∧ wr.frozen? ⟨w.heap.size, 1, none⟩ = false ∧ Kd.R kPt 75 wr (w.heap.size + 1) (fun _ => True) (.slice A2 ps.length c2) ps
theorem StW.below {w : World} {ps : List Pt} {nx : Int} {wr W : World} (h : StW w ps nx wr) (hb : Below wr.heap.size wr W) : StW w ps nx W := by
  obtain ⟨h1, h2, h3, A2, c2, m0, m1, m2, m3, hO⟩ := h
  have hs := hb.size
  exact ⟨below_step h1 hb, by omega, h3, A2, c2, (hb.cell (p := ⟨w.heap.size, 0, none⟩) (by show w.heap.size < _; omega)).trans m0, (hb.cell (p := ⟨w.heap.size, 1, none⟩) (by show w.heap.size < _; omega)).trans m1, (hb.frozen (p := ⟨w.heap.size, 0, none⟩) (by show w.heap.size < _; omega)).trans m2, (hb.frozen (p := ⟨w.heap.size, 1, none⟩) (by show w.heap.size < _; omega)).trans m3, Kd.R_below hO hb⟩
/-- What an argument's record holds, as it can be read. -/
def okRc (r : Rc) : Prop := 0 ≤ r.kind ∧ -9223372036854775808 ≤ r.id ∧ r.path.size ≤ 9223372036854775807
/-- Behind a step: the box tb of the new state. -/
structure TB (w : World) (A2 : Option Addr) (c2 : Nat) (ps : List Pt) (nx : Int) (A6 : Option Addr) (c6 : Nat) (ql : List Pt) (qn : Int) (tb : Nat) (W : World) : Prop where
  b : Below w.heap.size w W
  cps : Kd.C kPt W A2 ps.length ps
  lo : w.heap.size + 1 ≤ tb
  hi : tb < W.heap.size
  t0 : W.cell? ⟨tb, 0, none⟩ = some (.slice A6 ql.length c6)
  t1 : W.cell? ⟨tb, 1, none⟩ = some (.int .i64 qn)
  s0 : W.cell? ⟨w.heap.size, 0, none⟩ = some (.slice A2 ps.length c2)
  s1 : W.cell? ⟨w.heap.size, 1, none⟩ = some (.int .i64 nx)
  f0 : W.frozen? ⟨w.heap.size, 0, none⟩ = false
  f1 : W.frozen? ⟨w.heap.size, 1, none⟩ = false
  o : Kd.R kPt 75 W (w.heap.size + 1) (fun _ => True) (.slice A6 ql.length c6) ql
theorem TB.below {w : World} {A2 : Option Addr} {c2 : Nat} {ps : List Pt} {nx : Int} {A6 : Option Addr} {c6 : Nat} {ql : List Pt} {qn : Int} {tb : Nat} {W W' : World} (h : TB w A2 c2 ps nx A6 c6 ql qn tb W) (hb : Below W.heap.size W W') : TB w A2 c2 ps nx A6 c6 ql qn tb W' := by
  have hs := hb.size
  have hw := World.block_lt_of_cell? _ _ h.s0
  exact ⟨below_step h.b hb, Kd.C_below h.cps hb, h.lo, by have := h.hi; omega, (hb.cell (World.block_lt_of_cell? _ _ h.t0)).trans h.t0, (hb.cell (World.block_lt_of_cell? _ _ h.t1)).trans h.t1, (hb.cell (World.block_lt_of_cell? _ _ h.s0)).trans h.s0, (hb.cell (World.block_lt_of_cell? _ _ h.s1)).trans h.s1, (hb.frozen (p := ⟨w.heap.size, 0, none⟩) hw).trans h.f0, (hb.frozen (p := ⟨w.heap.size, 1, none⟩) hw).trans h.f1, Kd.R_below h.o hb⟩
end Go.Proofs.YtiohgpcbdefokaaDoor.B
/- What the walk of RecordBack tells of its lists. No condition. -/
namespace Go.Proofs.YtiohgpcbdefokaaDoor.B
open Go.RowKit Go.Proofs.YtiohgpcbdefokaaDoorW.PrintWords Go.Proofs.YtiohgpcbdefokaaDoor.RowLaws
/-- Those of a list that may be. -/
def mayL (l : List Rc) : List Rc := l.filter fun r => decide (chkE r = 0)
/-- Where each of them ends. -/
def endsL (rs : List Rc) : List Int := (List.range rs.length).map fun i => ((pos rs (i + 1) : Nat) : Int)
theorem may_yes {l : List Rc} {r : Rc} (h : chkE r = 0) : mayL (l ++ [r]) = mayL l ++ [r] := by simp [mayL, h]
theorem may_no {l : List Rc} {r : Rc} (h : ¬ chkE r = 0) : mayL (l ++ [r]) = mayL l := by simp [mayL, h]
theorem may_len (l : List Rc) : (mayL l).length ≤ l.length := List.length_filter_le _ _
theorem may_ok {l : List Rc} (h : ∀ r ∈ l, okRc r) : ∀ r ∈ mayL l, OkR r := by
  intro r hr
  have := List.mem_filter.1 hr
  exact ⟨of_decide_eq_true this.2, (h r this.1).1⟩
theorem ends_len (rs : List Rc) : (endsL rs).length = rs.length := by simp [endsL]
theorem pos_app {rs : List Rc} {r : Rc} {j : Nat} (h : j ≤ rs.length) : pos (rs ++ [r]) j = pos rs j := by
  unfold pos; rw [List.take_append_of_le_length h]
theorem ends_app (rs : List Rc) (r : Rc) : endsL (rs ++ [r]) = endsL rs ++ [(((allL rs ++ putL r).length : Nat) : Int)] := by
  unfold endsL
  rw [List.length_append, List.length_singleton, List.range_succ, List.map_append]
  congr 1
  · apply List.map_congr_left
    intro i hi
    have := List.mem_range.1 hi
    rw [pos_app (by omega)]
  · have e : pos (rs ++ [r]) (rs.length + 1) = (allL rs ++ putL r).length := by
      have := pos_all (rs ++ [r])
      rw [List.length_append, List.length_singleton] at this
      rw [this, all_app]
    simp [e]
theorem ends_get {rs : List Rc} {i : Nat} (h : i < rs.length) : (endsL rs)[i]? = some ((pos rs (i + 1) : Nat) : Int) := by
  simp [endsL, h]
theorem ne_types {e e' : Nat} {α : Type} {n : Nat} {enc : α → List Value} {hl : ∀ x, (enc x).length = n} {h1 : ∀ x, ∀ v ∈ enc x, v.oneCell' = true} (h : e ≠ e') : ∀ q, q ∈ e :: (flat n enc hl h1).E → q ≠ e' := by
  intro q hq
  rcases List.mem_cons.1 hq with rfl | hq
  · exact h
  · cases hq
/-- The three lists of the statement's loop. -/
structure BkA (w : World) (bs es : List Int) (rs : List Rc) (vb ve vm : Value) (W : World) : Prop where
  b : Below w.heap.size w W
  o : Kd.R (Kd.int .u8) 5 W w.heap.size (fun _ => True) vb bs
  e : Kd.R (Kd.int .i64) 3 W w.heap.size (fun _ => True) ve es
  m : Kd.R kRc 47 W w.heap.size (fun _ => True) vm rs
theorem BkA.below {w W W' : World} {bs es : List Int} {rs : List Rc} {vb ve vm : Value} (h : BkA w bs es rs vb ve vm W) (hb : Below W.heap.size W W') : BkA w bs es rs vb ve vm W' :=
  ⟨below_step h.b hb, Kd.R_below h.o hb, Kd.R_below h.e hb, Kd.R_below h.m hb⟩
theorem BkA.drew {w W : World} {bs es : List Int} {rs : List Rc} {vb ve vm : Value} (h : BkA w bs es rs vb ve vm W) : BkA w bs es rs vb ve vm W.drew := h.below (below_drew (Below.refl _ _))
theorem BkA.alloc {w W : World} {bs es : List Int} {rs : List Rc} {vb ve vm : Value} (h : BkA w bs es rs vb ve vm W) (o : Obj) : BkA w bs es rs vb ve vm (W.alloc o) := h.below (below_alloc (Below.refl _ _) o)
theorem BkA.putB {w W W' : World} {bs bs' es : List Int} {rs : List Rc} {vb vb' ve vm : Value} (h : BkA w bs es rs vb ve vm W) (hb : Below w.heap.size w W') (hg : W.grownBy W' vb.ownBlock) (ho : Kd.R (Kd.int .u8) 5 W' w.heap.size (fun _ => True) vb' bs') : BkA w bs' es rs vb' ve vm W' :=
  ⟨hb, ho, Kd.R_over h.e h.o (by decide) hg, Kd.R_over h.m h.o (ne_types (by decide)) hg⟩
theorem BkA.putE {w W W' : World} {bs es es' : List Int} {rs : List Rc} {vb ve ve' vm : Value} (h : BkA w bs es rs vb ve vm W) (hb : Below w.heap.size w W') (hg : W.grownBy W' ve.ownBlock) (ho : Kd.R (Kd.int .i64) 3 W' w.heap.size (fun _ => True) ve' es') : BkA w bs es' rs vb ve' vm W' :=
  ⟨hb, Kd.R_over h.o h.e (by decide) hg, ho, Kd.R_over h.m h.e (ne_types (by decide)) hg⟩
theorem BkA.putM {w W W' : World} {bs es : List Int} {rs rs' : List Rc} {vb ve vm vm' : Value} (h : BkA w bs es rs vb ve vm W) (hb : Below w.heap.size w W') (hg : W.grownBy W' vm.ownBlock) (ho : Kd.R kRc 47 W' w.heap.size (fun _ => True) vm' rs') : BkA w bs es rs' vb ve vm' W' :=
  ⟨hb, Kd.R_over h.o h.m (by decide) hg, Kd.R_over h.e h.m (by decide) hg, ho⟩
theorem R_alloc1 {α : Type} {d : Kd α} {t : TypeId} {W : World} {B : Nat} {ok : Nat → Prop} {v : Value} {xs : List α} (h : Kd.R d t W B ok v xs) (o : Obj) : Kd.R d t (W.alloc o) B ok v xs := Kd.R_below h (below_alloc (Below.refl _ _) o)
theorem blk2 {W : World} {a b : Obj} : ((W.alloc a).alloc b).heap[W.heap.size]? = some a := ((below_alloc (Below.refl _ _) b).block _ (by simp)).trans (heap_alloc_new _ _)
theorem newD {W : World} {a : Obj} : (W.alloc a).drew.heap[W.heap.size]? = some a := heap_alloc_new _ _
theorem blk2D {W : World} {a b : Obj} : ((W.alloc a).drew.alloc b).drew.heap[W.heap.size]? = some a := ((below_alloc (Below.refl _ _) b).block _ (by simp)).trans (heap_alloc_new _ _)
theorem blkDA {W : World} {a b : Obj} : ((W.alloc a).drew.alloc b).heap[W.heap.size]? = some a := ((below_alloc (Below.refl _ _) b).block _ (by simp)).trans (heap_alloc_new _ _)
theorem blkAD {W : World} {a b : Obj} : ((W.alloc a).alloc b).drew.heap[W.heap.size]? = some a := ((below_alloc (Below.refl _ _) b).block _ (by simp)).trans (heap_alloc_new _ _)
theorem newS1 {W : World} {a b : Obj} : ((W.alloc a).alloc b).heap[W.heap.size + 1]? = some b := by
  have h := heap_alloc_new (W.alloc a) b
  rwa [World.size_alloc] at h
theorem newS2 {W : World} {a b : Obj} : ((W.alloc a).drew.alloc b).heap[W.heap.size + 1]? = some b := newS1 (W := W) (a := a)
theorem newS3 {W : World} {a b : Obj} : ((W.alloc a).alloc b).drew.heap[W.heap.size + 1]? = some b := newS1 (W := W) (a := a)
theorem newS4 {W : World} {a b : Obj} : ((W.alloc a).drew.alloc b).drew.heap[W.heap.size + 1]? = some b := newS1 (W := W) (a := a)
theorem infoI : (Tryd.prog.info? 3).map (fun i => (i.zero, i.size, i.bytes)) = some (some (.int .i64 0), 1, 8) := by kernel_rfl
theorem infoRcR : (Tryd.prog.info? 47).map (fun i => (i.zero, i.size, i.bytes)) = some (some (.agg (rcL Rc.zero).toArray), 37, 80) := by kernel_rfl
/-- One number, one record, as a literal's row. -/
theorem C1_int {W : World} {p : Nat} {n : Int} {t : TypeId} (h : W.heap[p]? = some (.cells #[.int .i64 n] t (0, 0))) : Kd.C (Kd.int .i64) W (some ⟨p, 0, none⟩) 1 [n] := by
  refine Kd.C_of_reads (d := (0 : Int)) (h1 := fun _ => rfl) ⟨rfl, by decide, fun _ => ⟨_, rfl, fun j hj => ?_⟩⟩
  obtain rfl : j = 0 := by omega
  exact (cell_of_row _ _ _ _ _ _ h).trans rfl
theorem C1_rc {W : World} {p : Nat} {x : Rc} {t : TypeId} (h : W.heap[p]? = some (.cells (rcL x).toArray t (0, 0))) : Kd.C kRc W (some ⟨p, 0, none⟩) 1 [x] := by
  refine ⟨rfl, by decide, fun _ => ⟨_, rfl, fun j q hq => ?_⟩⟩
  obtain rfl : j = 0 := by
    have := (List.getElem?_eq_some_iff.1 hq).1
    simpa using this
  obtain rfl : x = q := by simpa using hq
  refine ⟨rcL x, rcL_len x, rfl, fun i u hu => ?_⟩
  rw [Addr.add_mid, cell_of_row _ _ _ _ _ _ h, List.getElem?_toArray, show 0 + (0 * kRc.sz + i) = i by omega]
  exact hu
/-- Blocks of other types stay as they are. -/
abbrev KeptBut (t : TypeId) (W W' : World) : Prop := ∀ (q : Nat) (cs : Array Value) (s : TypeId), s ≠ t → W.heap[q]? = some (.cells cs s (0, 0)) → W'.heap[q]? = some (.cells cs s (0, 0))
theorem keptBut {α : Type} {d : Kd α} {t : TypeId} {W W' : World} {B : Nat} {ok : Nat → Prop} {v : Value} {xs : List α} (h : Kd.R d t W B ok v xs) (hg : W.grownBy W' v.ownBlock) : KeptBut t W W' := by
  intro q cs s hs hq
  exact blk_grown hq hg (fun e => (Kd.R_ne h hq (fun e => hs e.symm)) e)
/-- record.Scan of all of them, and of what stands ahead of a cut. -/
theorem ScanCut (A : Option Addr) (c : Nat) (rs : List Rc) (m kk : Nat) (E : Int) (w : World) (hT : TabOK w) (hok : ∀ r ∈ rs, OkR r) (hl : rs.length ≤ 40) (hm : m ≤ rs.length) (hp : pos rs m ≤ kk) (hk : kk ≤ (allL rs).length) (hn : m < rs.length → kk < pos rs (m + 1)) (hE : (pos rs m = kk ∧ E = 0) ∨ (¬ pos rs m = kk ∧ E = 3))
    (hC : Kd.C (Kd.int .u8) w A kk ((allL rs).take kk)) (hc : kk ≤ c) :
    Calls Tryd.prog 35 #[.slice A kk c] w fun e w' => ∃ v : Value, e = .returned (.tuple #[v, .int .i64 (pos rs m : Nat), .int .i64 E]) ∧ Kd.R kRc 51 w' w.heap.size (fun _ => True) v (rs.take m) ∧ Below w.heap.size w w' := by
  have hlen : ((allL rs).take kk).length = kk := by rw [List.length_take]; omega
  have hal := all_len hok
  have htm : (rs.take m).length = m := by rw [List.length_take]; omega
  have hq := ScanG_calls A c ((allL rs).take kk) (rs.take m) (pos rs) E w hT (by rw [hlen]; exact hC) (by rw [hlen]; exact hc) (by rw [hlen]; omega) (by rw [htm]; omega) (firsts_cut hok (by omega) m kk hm hp hk) (by
    rw [htm, hlen]
    rcases hE with ⟨h1, h2⟩ | ⟨h1, h2⟩
    · exact .inl ⟨h1, h2⟩
    · refine .inr ⟨by omega, h2, ?_⟩
      have hmr : m < rs.length := by
        rcases Nat.lt_or_ge m rs.length with h | h
        · exact h
        · exfalso
          have e : m = rs.length := by omega
          subst e
          rw [pos_all] at h1 hp
          omega
      exact firsts_bad hok m kk hmr (by omega) (hn hmr))
  rw [hlen, htm] at hq
  exact hq
theorem ScanAll (A : Option Addr) (c : Nat) (rs : List Rc) (w : World) (hT : TabOK w) (hok : ∀ r ∈ rs, OkR r) (hl : rs.length ≤ 40) (hC : Kd.C (Kd.int .u8) w A (allL rs).length (allL rs)) (hc : (allL rs).length ≤ c) :
    Calls Tryd.prog 35 #[.slice A (allL rs).length c] w fun e w' => ∃ v : Value, e = .returned (.tuple #[v, .int .i64 ((allL rs).length : Nat), .int .i64 0]) ∧ Kd.R kRc 51 w' w.heap.size (fun _ => True) v rs ∧ Below w.heap.size w w' := by
  have hq := ScanCut A c rs rs.length (allL rs).length 0 w hT hok hl (Nat.le_refl _) (by rw [pos_all]; exact Nat.le_refl _) (Nat.le_refl _) (fun h => absurd h (Nat.lt_irrefl _)) (.inl ⟨pos_all rs, rfl⟩) (by rw [List.take_length]; exact hC) hc
  rw [pos_all, List.take_length] at hq
  exact hq
theorem C_take {α : Type} {d : Kd α} {W : World} {A : Option Addr} {n m : Nat} {xs : List α} (h : Kd.C d W A n xs) (hm : m ≤ n) : Kd.C d W A m (xs.take m) := by
  obtain ⟨h1, h2, h3⟩ := h
  refine ⟨by rw [List.length_take]; omega, by omega, fun h0 => ?_⟩
  obtain ⟨ad, hA, hc⟩ := h3 (by omega)
  refine ⟨ad, hA, fun j p hp => hc j p ?_⟩
  rw [List.getElem?_take] at hp
  split at hp
  · exact hp
  · cases hp
theorem emod_cast (c : Int) (n : Nat) (h : 0 ≤ c) : c % ((n : Int) + 1) = ((c.toNat % (n + 1) : Nat) : Int) := by
  obtain ⟨k, rfl⟩ : ∃ k : Nat, c = k := ⟨c.toNat, by omega⟩
  rw [Int.toNat_natCast]
  rfl
end Go.Proofs.YtiohgpcbdefokaaDoor.B
