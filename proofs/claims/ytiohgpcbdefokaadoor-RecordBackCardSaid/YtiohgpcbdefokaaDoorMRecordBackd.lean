/- Contracts and plain laws for the statement RecordBack, part d: several texts of this session behind one another. No condition. -/
import Derived.Test.YtiohgpcbdefokaaDoorMRecordBackc
import Derived.RegionTactic
import Derived.Deep.RegionLaw
import Derived.BigQuiet
/- RecordBack: its walk. No condition. -/
namespace Go.Proofs.YtiohgpcbdefokaaDoor.B
open Go.RowKit Go.Proofs.YtiohgpcbdefokaaDoorW.PrintWords Go.Proofs.YtiohgpcbdefokaaDoor.RowLaws
attribute [local go_sem ↓ high] lvO_hs ldO_hs stO_hs lvO_pt ldO_pt stO_pt zero_pt eqA_pt lvO_ptR ldO_ptR stO_ptR zero_ptR eqA_ptR lvO_rc ldO_rc stO_rc zero_rc eqA_rc lvO_rcR ldO_rcR stO_rcR zero_rcR eqA_rcR lvO_tk ldO_tk stO_tk zero_tk eqA_tk lvO_tkR ldO_tkR stO_tkR zero_tkR eqA_tkR lvO_it ldO_it stO_it zero_it eqA_it blO_pt blO_ptR blO_rc blO_rcR blO_tk blO_tkR blO_it bsO_pt bsO_ptR bsO_rc bsO_rcR bsO_it
attribute [local go_sem high] rowAt_setCell rowAt_setRow cell_setRow_ne isRow_setRow_ne rowAt_alloc rowAt_drew isRow_alloc isRow_drew isRow_setCell rowRun_some okL_hs ldV_hs ldA_hs stA_hs setRow_alloc get_pt_id get_pt_path cut_pt_sum get_pt_size get_pt_off cut_pt okL_pt size_pt lenb_pt eta_pt ldV_pt ldA_pt stA_pt ldV_ptR ldA_ptR stA_ptR get_rc_kind get_rc_id get_rc_path cut_rc_sum get_rc_size get_rc_off cut_rc okL_rc size_rc lenb_rc eta_rc ldV_rc ldA_rc stA_rc ldV_rcR ldA_rcR stA_rcR get_tk_path cut_tk_sum get_tk_size get_tk_off cut_tk_old cut_tk okL_tk size_tk lenb_tk eta_tk ldV_tk ldA_tk stA_tk ldV_tkR ldA_tkR stA_tkR get_it_path get_it_dir get_it_size cut_it_sum cut_it okL_it size_it lenb_it eta_it ldV_it ldA_it stA_it bld_pt_01234 bld_pt_0123 bld_pt_z bld_ptR_01234 bld_ptR_0123 bld_ptR_z bld_rc_012345 bld_rc_015 bld_rc_01 bld_rc_z bld_rc_01234 bld_rc_24 bld_rc_05 bld_rc_0 bld_rcR_012345 bld_rcR_015 bld_rcR_01 bld_rcR_z bld_rcR_01234 bld_rcR_24 bld_rcR_05 bld_rcR_0 bld_tk_01234 bld_tk_0 bld_tk_z bld_tkR_01234 bld_tkR_0 bld_tkR_z bld_it_0123 bld_it_023 bld_it_01 bld_it_0 bld_it_z bs0_pt bs1_pt bs0_ptR bs1_ptR bs0_rc bs1_rc bs0_rcR bs1_rcR bs0_it bs1_it
set_option linter.unusedVariables false in
set_option maxHeartbeats 16000000 in
set_option maxRecDepth 100000 in
theorem Back_walk (A : Option Addr) (c : Nat) (l : List Rc) (cut : Int) (w : World) (hT : TabOK w) (hC : Kd.C kRc w A l.length l) (hok : ∀ r ∈ l, okRc r) (hcut : 0 ≤ cut ∧ cut < 65536) :
    Calls Tryd.prog 9 #[.slice A l.length c, .int .u16 cut] w fun e w' => e = .returned (.bool true) ∧ Below w.heap.size w w' := by
  have HT := Aside0.mk hT
  have HC := Aside0.mk hC
  have HOK := Aside0.mk hok
  have HCUT := Aside0.mk hcut
  clear hT hC hok hcut
  by_cases hn : (40 : Int) < (l.length : Int)
  · have hd : decide ((40 : Int) < (l.length : Int)) = true := decide_eq_true hn
    clear hn
    go_enter Tryd.func9, Tryd.ntmps9
    go_wp2_with (go_at_call 22; refine (awake_calls _ HT.out).mono ?_; rintro e w2 ⟨rfl, hb2⟩; have HB2 := Aside0.mk (hb2); clear hb2)
    go_ret
    exact ⟨rfl, HB2.out⟩
  have hd : decide ((40 : Int) < (l.length : Int)) = false := decide_eq_false hn
  have HLEN := Aside0.mk (show l.length ≤ 40 by omega)
  clear hn
  go_enter Tryd.func9, Tryd.ntmps9
  go_wp2
  clear hd
  go_loopw [5, 6, 7, 8] (fun v5 v6 v7 iv wr => ∃ (k : Nat) (bs es : List Int) (rs : List Rc) (A5 : Option Addr) (c5 : Nat) (A6 : Option Addr) (c6 : Nat) (A7 : Option Addr) (c7 : Nat), k ≤ l.length ∧ iv = .int .i64 k ∧ v5 = .slice A5 bs.length c5 ∧ v6 = .slice A6 es.length c6 ∧ v7 = .slice A7 rs.length c7 ∧ Aside0 (rs = mayL (l.take k) ∧ bs = allL rs ∧ es = endsL rs) ∧ Aside0 (BkA w bs es rs (.slice A5 bs.length c5) (.slice A6 es.length c6) (.slice A7 rs.length c7) wr)) (fun _ _ _ iv _ => l.length - (intOf iv).toNat)
  case atStart => exact ⟨0, [], [], [], none, 0, none, 0, none, 0, Nat.zero_le _, rfl, rfl, rfl, rfl, ⟨⟨rfl, rfl, rfl⟩⟩, ⟨⟨Below.refl _ _, Kd.R_nil _ _ _ _ _, Kd.R_nil _ _ _ _ _, Kd.R_nil _ _ _ _ _⟩⟩⟩
  case round =>
    obtain ⟨k, bs, es, rs, A5, c5, A6, c6, A7, c7, hk, rfl, rfl, rfl, rfl, HV, HW⟩ := hrel
    by_cases hlt : k < l.length
    · obtain ⟨b, o, hA, hb, hr⟩ := flat_at HC.out (by decide) (by omega)
      subst hA
      obtain ⟨hrow, hcells⟩ := hr k hlt
      have hx0 := HOK.out l[k] (List.getElem_mem hlt)
      have HTK := Aside0.mk (show l.take (k + 1) = l.take k ++ [l[k]] from List.take_succ_eq_append_getElem hlt)
      obtain ⟨x, hx⟩ : ∃ x, x = l[k] := ⟨_, rfl⟩
      rw [← hx] at hrow hcells hx0 HTK
      have q2 := hcells 2 _ (get_rc_path x)
      have HROW := Aside0.mk (And.intro hrow hb)
      rw [← rowAt_below HW.out.b hb] at hrow
      rw [← HW.out.b.cell (p := ⟨b, o + k * 37 + 2, none⟩) hb] at q2
      clear hr hx hcells
      have HX0 := Aside0.mk hx0
      clear hx0
      have hlt2 : (k : Int) < (l.length : Int) := by omega
      have hkb : k + 1 ≤ 40 := by have := HLEN.out; omega
      have HRS := Aside0.mk (show rs.length ≤ 40 by
        have := HV.out.1
        rw [this]
        have := may_len (l.take k)
        rw [List.length_take] at this
        omega)
      have HBS := Aside0.mk (show bs.length ≤ 10000 by
        have h1 := HV.out.2.1
        rw [h1]
        have h2 : ∀ r ∈ rs, OkR r := by
          rw [HV.out.1]
          exact may_ok (fun r hr => HOK.out r (List.mem_of_mem_take hr))
        have := all_len h2
        have := HRS.out
        omega)
      by_cases hp : (300 : Int) < (x.path.size : Int)
      · have hd1 : decide ((300 : Int) < (x.path.size : Int)) = true := decide_eq_true hp
        clear hp
        go_wp2_with (go_at_call 22; refine (awake_calls _ (HT.out.below HW.out.b)).mono ?_; rintro e w2 ⟨rfl, hb2⟩; have HB2 := Aside0.mk (below_step HW.out.b hb2); clear hb2)
        go_ret
        exact ⟨rfl, HB2.out⟩
      have hd1 : decide ((300 : Int) < (x.path.size : Int)) = false := decide_eq_false hp
      clear hp
      by_cases hc : chkE x = 0
      case neg =>
        have hP : ∀ w, TabOK w → _ := fun w hT => Put_calls x w hT
        obtain ⟨E, hE⟩ : ∃ E, chkE x = E := ⟨_, rfl⟩
        have HM := Aside0.mk (may_no (l := l.take k) hc)
        rw [hE] at hc
        have hd2 : decide (E = 0) = false := decide_eq_false hc
        have hd3 : (E != 0) = true := bne_iff_ne.2 hc
        simp only [hE] at hP
        have HP := Aside0.mk hP
        clear hP hE hc
        go_wp2_with (first
          | (go_at_call 24; refine (own_calls x _).mono ?_; rintro e w1 ⟨rfl, hb1⟩; have HW1 := Aside0.mk (HW.out.below hb1); clear hb1)
          | (go_at_call 23; refine (HP.out _ (HT.out.below HW1.out.b)).mono ?_; rintro e w2 ⟨v2, rfl, ho2, hb2⟩; obtain ⟨A2, n2, rfl⟩ := Kd.R_slice ho2; have HW2 := Aside0.mk (HW1.out.below hb2); clear ho2 hb2))
        go_roundw
        case rel => exact ⟨k + 1, bs, es, rs, A5, c5, A6, c6, A7, c7, by omega, by simp, rfl, rfl, rfl, ⟨by rw [HTK.out, HM.out]; exact HV.out⟩, HW2⟩
        case measure => simp [intOf]; omega
      case pos =>
        have hP : ∀ w, TabOK w → _ := fun w hT => Put_calls x w hT
        have HM := Aside0.mk (may_yes (l := l.take k) hc)
        have hpv : putV x = putL x := by unfold putV; rw [if_pos hc]
        have HOX := Aside0.mk (show OkR x from ⟨hc, HX0.out.1⟩)
        simp only [hc, hpv] at hP
        have HP := Aside0.mk hP
        obtain ⟨V, hV⟩ : ∃ V, putL x = V := ⟨_, rfl⟩
        rw [hV] at HP
        have HVX := Aside0.mk hV
        have HVL := Aside0.mk (show V.length ≤ 240 by rw [← hV]; exact putL_le HOX.out)
        obtain ⟨bs2, hbs2⟩ : ∃ y, bs ++ V = y := ⟨_, rfl⟩
        have HBS2 := Aside0.mk hbs2
        clear hP hc hpv hV hbs2
        go_upto_region 14 with (first
          | (go_at_call 24; refine (own_calls x _).mono ?_; rintro e w1 ⟨rfl, hb1⟩; have HW1 := Aside0.mk (HW.out.below hb1); clear hb1)
          | (go_at_call 23; refine (HP.out _ (HT.out.below HW1.out.b)).mono ?_; rintro e w2 ⟨v2, rfl, ho2, hb2⟩; obtain ⟨A2, n2, rfl⟩ := Kd.R_slice ho2; have HW2 := Aside0.mk (HW1.out.below hb2); have HR2 := Aside0.mk (Kd.R_reads' ho2); clear ho2 hb2)
          | ((with_reducible refine gate_builtin (b := .append) (xs := #[.tmp 47, .tmp 48]) rfl ?_); at_builtin;
              refine Kd.R_append_rows (Kd.int .u8) (w0 := w) w.heap.size rfl (.tmp 47) (.tmp 48) 22 5 (.int .u8 0) 1 rfl Tryd.underlying22 info5 rfl (by decide) (by decide) (.slice A5 bs.length c5) bs V A2 V.length n2 (fun _ => True) (fun _ => False) rfl rfl HW2.out.o HR2.out.2.2 (fun _ _ h => h) (fun _ h => h.elim) (fun _ _ => trivial) HW2.out.b HW2.out.b.size ?aL ?_;
              (case aL => have := HBS.out; have := HVL.out; omega);
              intro v3 w3 ho3 hb3 hg3 hat3;
              rw [HBS2.out] at ho3;
              obtain ⟨A3, n3, rfl⟩ := Kd.R_slice ho3;
              have HW3 := Aside0.mk (HW2.out.putB hb3 hg3 ho3);
              clear ho3 hb3 hg3 hat3))
        have hrow3 : rowAt w3 ⟨b, o + k * 37, none⟩ 37 = some (rcL x) := by rw [rowAt_below HW3.out.b HROW.out.2]; exact HROW.out.1
        clear hrow q2
        have HZ3 := HW3.out.b.size
        have HEL := Aside0.mk (show es.length ≤ 40 by have := HV.out.2.2; rw [this, ends_len]; exact HRS.out)
        go_region_held3 (fun w' => rowAt w' ⟨b, o + k * 37, none⟩ 37 = some (rcL x)) (first | assumption | exact (rowAt_below (B := w.heap.size) (w := w) (by (repeat' (first | exact HW5.out.b | exact HW4.out.b | exact HW3.out.b | (with_reducible exact Below.refl _ _) | (with_reducible refine below_drew ?_) | (with_reducible refine Below.alloc ?_ ?_ _) | (have h_ := HZ3; simp; omega) | (have h_ := HW4.out.b.size; simp; omega) | (have h_ := HW5.out.b.size; simp; omega)))) HROW.out.2 _).trans HROW.out.1)
          (first
            | ((with_reducible refine gate_stepb (b := .append) (xs := #[.tmp 50, .tmp 53]) rfl ?_);
                refine Kd.R_append_rows_step (Kd.int .i64) (w0 := w) w.heap.size rfl (.tmp 50) (.tmp 53) 83 3 (.int .i64 0) 8 rfl Tryd.underlying83 infoI rfl (by decide) (by decide) (.slice A6 es.length c6) es [(bs2.length : Int)] _ 1 1 (fun _ => True) (fun _ => False) rfl rfl ?aO ?aR (fun _ _ h => h) (fun _ h => h.elim) (fun _ _ => trivial) ?aB ?aS (by have := HEL.out; omega) ?_;
                (case aO => (repeat' (first | (with_reducible exact HW5.out.e) | (with_reducible exact HW3.out.e) | (with_reducible refine R_alloc1 ?_ _) | (with_reducible refine Kd.R_drew ?_))));
                (case aR => refine C1_int (t := 3) ?_; (with_reducible first | exact heap_alloc_new _ _ | exact newD | exact blk2D | exact blk2 | exact blkDA | exact blkAD | exact newS1 | exact newS2 | exact newS3 | exact newS4 | exact HK5.out _ _ _ (by decide) (heap_alloc_new _ _) | exact HK5.out _ _ _ (by decide) newD | exact HK5.out _ _ _ (by decide) blk2D | exact HK5.out _ _ _ (by decide) blk2 | exact HK5.out _ _ _ (by decide) blkDA | exact HK5.out _ _ _ (by decide) blkAD | exact HK5.out _ _ _ (by decide) newS1 | exact HK5.out _ _ _ (by decide) newS2 | exact HK5.out _ _ _ (by decide) newS3 | exact HK5.out _ _ _ (by decide) newS4));
                (case aB => (repeat' (first | (with_reducible exact HW5.out.b) | (with_reducible exact HW3.out.b) | (with_reducible refine below_drew ?_) | (with_reducible refine Below.alloc ?_ ?_ _) | (have h_ := HZ3; simp; omega) | (have h_ := HW5.out.b.size; simp; omega))));
                (case aS => refine Below.size (B := w.heap.size) (w := w) ?_; (repeat' (first | (with_reducible exact HW5.out.b) | (with_reducible exact HW3.out.b) | (with_reducible refine below_drew ?_) | (with_reducible refine Below.alloc ?_ ?_ _) | (have h_ := HZ3; simp; omega) | (have h_ := HW5.out.b.size; simp; omega))));
                intro v4 w4 ho4 hb4 hg4 hat4;
                obtain ⟨A4, c4, rfl⟩ := Kd.R_slice ho4;
                (first | have HW4 := Aside0.mk (show BkA w bs2 (es ++ [(bs2.length : Int)]) (rs ++ [x]) (.slice A3 bs2.length n3) (.slice A4 (es ++ [(bs2.length : Int)]).length c4) (.slice A9 (rs ++ [x]).length c9) w4 from by refine BkA.putE (es := es) ?_ hb4 hg4 ho4; (repeat' (first | (with_reducible exact HW5.out) | (with_reducible refine BkA.alloc ?_ _) | (with_reducible refine BkA.drew ?_)))) | have HW4 := Aside0.mk (show BkA w bs2 (es ++ [(bs2.length : Int)]) rs (.slice A3 bs2.length n3) (.slice A4 (es ++ [(bs2.length : Int)]).length c4) (.slice A7 rs.length c7) w4 from by refine BkA.putE (es := es) ?_ hb4 hg4 ho4; (repeat' (first | (with_reducible exact HW3.out) | (with_reducible refine BkA.alloc ?_ _) | (with_reducible refine BkA.drew ?_)))));
                have HK4 := Aside0.mk (keptBut (d := (Kd.int .i64)) (B := w.heap.size) (ok := fun _ => True) (xs := es) (t := 3) (by (repeat' (first | (with_reducible exact HW5.out.e) | (with_reducible exact HW3.out.e) | (with_reducible refine R_alloc1 ?_ _) | (with_reducible refine Kd.R_drew ?_)))) hg4);
                clear ho4 hb4 hg4 hat4)
            | ((with_reducible refine gate_stepb (b := .append) (xs := #[.tmp 55, .tmp 60]) rfl ?_);
                refine Kd.R_append_rows_step kRc (w0 := w) w.heap.size rfl (.tmp 55) (.tmp 60) 56 47 _ 80 rfl Tryd.underlying56 infoRcR zcRc (by decide) (by decide) (.slice A7 rs.length c7) rs [x] _ 1 1 (fun _ => True) (fun _ => False) rfl rfl ?aO ?aR (fun _ _ h => h) (fun _ h => h.elim) (fun _ _ => trivial) ?aB ?aS (by have := HRS.out; omega) ?_;
                (case aO => (repeat' (first | (with_reducible exact HW4.out.m) | (with_reducible exact HW3.out.m) | (with_reducible refine R_alloc1 ?_ _) | (with_reducible refine Kd.R_drew ?_))));
                (case aR => refine C1_rc (t := 47) ?_; (with_reducible first | exact heap_alloc_new _ _ | exact newD | exact blk2D | exact blk2 | exact blkDA | exact blkAD | exact newS1 | exact newS2 | exact newS3 | exact newS4 | exact HK4.out _ _ _ (by decide) (heap_alloc_new _ _) | exact HK4.out _ _ _ (by decide) newD | exact HK4.out _ _ _ (by decide) blk2D | exact HK4.out _ _ _ (by decide) blk2 | exact HK4.out _ _ _ (by decide) blkDA | exact HK4.out _ _ _ (by decide) blkAD | exact HK4.out _ _ _ (by decide) newS1 | exact HK4.out _ _ _ (by decide) newS2 | exact HK4.out _ _ _ (by decide) newS3 | exact HK4.out _ _ _ (by decide) newS4));
                (case aB => (repeat' (first | (with_reducible exact HW4.out.b) | (with_reducible exact HW3.out.b) | (with_reducible refine below_drew ?_) | (with_reducible refine Below.alloc ?_ ?_ _) | (have h_ := HZ3; simp; omega) | (have h_ := HW4.out.b.size; simp; omega))));
                (case aS => refine Below.size (B := w.heap.size) (w := w) ?_; (repeat' (first | (with_reducible exact HW4.out.b) | (with_reducible exact HW3.out.b) | (with_reducible refine below_drew ?_) | (with_reducible refine Below.alloc ?_ ?_ _) | (have h_ := HZ3; simp; omega) | (have h_ := HW4.out.b.size; simp; omega))));
                intro v5 w5 ho5 hb5 hg5 hat5;
                obtain ⟨A9, c9, rfl⟩ := Kd.R_slice ho5;
                (first | have HW5 := Aside0.mk (show BkA w bs2 (es ++ [(bs2.length : Int)]) (rs ++ [x]) (.slice A3 bs2.length n3) (.slice A4 (es ++ [(bs2.length : Int)]).length c4) (.slice A9 (rs ++ [x]).length c9) w5 from by refine BkA.putM (rs := rs) ?_ hb5 hg5 ho5; (repeat' (first | (with_reducible exact HW4.out) | (with_reducible refine BkA.alloc ?_ _) | (with_reducible refine BkA.drew ?_)))) | have HW5 := Aside0.mk (show BkA w bs2 es (rs ++ [x]) (.slice A3 bs2.length n3) (.slice A6 es.length c6) (.slice A9 (rs ++ [x]).length c9) w5 from by refine BkA.putM (rs := rs) ?_ hb5 hg5 ho5; (repeat' (first | (with_reducible exact HW3.out) | (with_reducible refine BkA.alloc ?_ _) | (with_reducible refine BkA.drew ?_)))));
                have HK5 := Aside0.mk (keptBut (d := kRc) (B := w.heap.size) (ok := fun _ => True) (xs := rs) (t := 47) (by (repeat' (first | (with_reducible exact HW4.out.m) | (with_reducible exact HW3.out.m) | (with_reducible refine R_alloc1 ?_ _) | (with_reducible refine Kd.R_drew ?_)))) hg5);
                clear ho5 hb5 hg5 hat5))
        all_goals
          go_wp2
          go_roundw
          case rel =>
            refine ⟨k + 1, bs2, es ++ [(bs2.length : Int)], rs ++ [x], A3, n3, A4, c4, A9, c9, by omega, by simp, by simp, by simp, by simp, ⟨?_, ?_, ?_⟩, HW5⟩
            · rw [HTK.out, HM.out, ← HV.out.1]
            · rw [all_app, HVX.out, ← HV.out.2.1]; exact HBS2.out.symm
            · rw [ends_app, HVX.out, ← HV.out.2.1, ← HV.out.2.2, HBS2.out]
          case measure => simp [intOf]; omega
    · have hk2 : k = l.length := by omega
      subst hk2
      obtain ⟨hrs, hbs, hes⟩ := HV.out
      rw [List.take_length] at hrs
      have HOR := Aside0.mk (show ∀ r ∈ rs, OkR r by rw [hrs]; exact may_ok HOK.out)
      have HRL := Aside0.mk (show rs.length ≤ 40 by have := may_len l; have := HLEN.out; rw [hrs]; omega)
      have HBS := Aside0.mk hbs
      have HES := Aside0.mk hes
      have HEL := Aside0.mk (show es.length = rs.length by rw [hes, ends_len])
      have HBL := Aside0.mk (show bs.length ≤ 10000 by have := all_len HOR.out; have := HRL.out; rw [hbs]; omega)
      clear hrs hbs hes hk
      obtain ⟨kk, hkk⟩ : ∃ kk : Nat, kk = cut.toNat % (bs.length + 1) := ⟨_, rfl⟩
      have HKL := Aside0.mk (show kk ≤ bs.length by have := Nat.mod_lt cut.toNat (show 0 < bs.length + 1 by omega); omega)
      have e1 : IntKind.i64.wrap ((bs.length : Int) + 1) = (bs.length : Int) + 1 := IntWalk.i64_in _ (by have := HBL.out; omega)
      have e2 : Int.tmod cut ((bs.length : Int) + 1) = (kk : Int) := by
        have := HCUT.out
        rw [Int.tmod_eq_emod_of_nonneg this.1, hkk]
        exact emod_cast cut bs.length this.1
      have e3 : IntKind.i64.wrap cut = cut := IntWalk.i64_in _ (by have := HCUT.out; omega)
      have n1 : ¬ ((bs.length : Int) + 1 = 0) := by omega
      clear hkk
      go_wp2_with (first
        | (go_at_call 35; have hq := ScanAll A5 c5 rs wr (HT.out.below HW.out.b) HOR.out HRL.out (by rw [← HBS.out]; exact (Kd.R_reads' HW.out.o).2.2) (by rw [← HBS.out]; exact (Kd.R_reads' HW.out.o).2.1); rw [← HBS.out] at hq; refine hq.mono ?_; clear hq; rintro e w2 ⟨v2, rfl, ho2, hb2⟩; obtain ⟨A2, n2, rfl⟩ := Kd.R_slice ho2; have HW2 := Aside0.mk (HW.out.below hb2); have HM2 := Aside0.mk (Kd.R_reads' ho2).2.2; clear ho2 hb2)
        | (go_at_call 36; refine (same_calls A2 A7 n2 c7 rs w2 HM2.out (Kd.R_reads' HW2.out.m).2.2 (by have := HRL.out; omega)).mono ?_; rintro e w3 ⟨rfl, hb3⟩; have HW3 := Aside0.mk (HW2.out.below hb3); clear hb3))
      clear e1 e2 e3 n1
      go_loopw [15, 16, 17] (fun wv av iv wr2 => ∃ (i m : Nat), i ≤ es.length ∧ m ≤ i ∧ iv = .int .i64 i ∧ wv = .int .i64 m ∧ av = .int .i64 (pos rs m : Nat) ∧ Aside0 (∀ j, j < m → pos rs (j + 1) ≤ kk) ∧ Aside0 (∀ j, m ≤ j → j < i → kk < pos rs (j + 1)) ∧ Aside0 (BkA w bs es rs (.slice A5 bs.length c5) (.slice A6 es.length c6) (.slice A7 rs.length c7) wr2)) (fun _ _ iv _ => es.length - (intOf iv).toNat)
      case atStart => exact ⟨0, 0, Nat.zero_le _, Nat.le_refl _, rfl, rfl, by rw [pos_zero]; rfl, ⟨fun j hj => absurd hj (Nat.not_lt_zero _)⟩, ⟨fun j _ hj => absurd hj (Nat.not_lt_zero _)⟩, HW3⟩
      case round =>
        obtain ⟨i, m, hi, hmi, rfl, rfl, rfl, H1, H2, HX⟩ := hrel
        by_cases hlt2 : i < es.length
        · obtain ⟨ad, hA6, hc⟩ := (Kd.reads_of_C (d := (0 : Int)) (h1 := fun _ => rfl) (Kd.R_reads' HX.out.e).2.2).2.2 (by omega)
          subst hA6
          have hcell := hc i hlt2
          have hil : i < rs.length := by rw [← HEL.out]; exact hlt2
          obtain ⟨P, hP⟩ : ∃ P, pos rs (i + 1) = P := ⟨_, rfl⟩
          have hv : es.getD i 0 = (P : Int) := by
            rw [List.getD_eq_getElem?_getD, HES.out, ends_get hil, hP]
            rfl
          rw [hv] at hcell
          obtain ⟨M, hM⟩ : ∃ M, pos rs m = M := ⟨_, rfl⟩
          rw [hM]
          have HPM := Aside0.mk (And.intro hP hM)
          have HIL := Aside0.mk hil
          have hib : i + 1 ≤ 40 := by have := HRL.out; omega
          have e1 : IntKind.i64.wrap ((i : Int) + 1) = (i : Int) + 1 := IntWalk.i64_in _ (by omega)
          have hlt3 : (i : Int) < (es.length : Int) := by omega
          clear hc hv hP hM hil
          by_cases hle : P ≤ kk
          · have hle2 : (P : Int) ≤ (kk : Int) := by omega
            go_upto_region 24 with (fail)
            go_quiet (fail)
            go_wp2
            go_roundw
            case rel =>
              refine ⟨i + 1, i + 1, by omega, Nat.le_refl _, by simp, by simp, by rw [HPM.out.1], ⟨fun j hj => ?_⟩, ⟨fun j h1 h2 => absurd h2 (by omega)⟩, ?_⟩
              · have h1 := pos_mono (rs := rs) (i := j + 1) (j := i + 1) (by omega) (by have := HIL.out; omega)
                have h2 := HPM.out.1
                omega
              · first | exact HX | exact ⟨HX.out.below (pw_below_drewN (Below.refl _ _) _)⟩
            case measure => simp [intOf]; omega
          · have hle2 : ¬ (P : Int) ≤ (kk : Int) := by omega
            go_wp2
            go_roundw
            case rel =>
              refine ⟨i + 1, m, by omega, by omega, by simp, rfl, by rw [HPM.out.2], H1, ⟨fun j h1 h2 => ?_⟩, HX⟩
              by_cases hj : j = i
              · subst hj
                rw [HPM.out.1]; omega
              · exact H2.out j h1 (by omega)
            case measure => simp [intOf]; omega
        · have hie : i = es.length := by omega
          subst hie
          have hml : m ≤ rs.length := by rw [← HEL.out]; exact hmi
          have hp0 : pos rs m ≤ kk := by
            rcases Nat.eq_zero_or_pos m with h0 | h0
            · subst h0; exact Nat.zero_le _
            · have := H1.out (m - 1) (by omega)
              rw [show m - 1 + 1 = m by omega] at this
              exact this
          have hn0 : m < rs.length → kk < pos rs (m + 1) := fun h => H2.out m (Nat.le_refl _) (by rw [HEL.out]; exact h)
          have HTK := Aside0.mk (show ((rs.take m).length = m) by rw [List.length_take]; omega)
          obtain ⟨ht1, ht2, ht3⟩ := print_take_of (P := Tryd.prog) (Value.int .u8) 0 22 5 .i64 Tryd.underlying22 (info_parts info5).choose_spec.1 (info_parts info5).choose_spec.2.2.1 A5 c5 bs (kk : Int) (by omega) (by have := HKL.out; omega) (Kd.R_reads' HX.out.o).2.1
          rw [Int.toNat_natCast, show (bs.take kk).length = kk by rw [List.length_take]; have := HKL.out; omega] at ht1 ht2 ht3
          have hcut := ht1 wr
          have HSC := Aside0.mk (show Kd.C (Kd.int .u8) wr A5 kk (bs.take kk) from Kd.C_of_reads (h1 := fun _ => rfl) (ht2 wr (Kd.reads_of_C (Kd.R_reads' HX.out.o).2.2)))
          have HKC := Aside0.mk ht3
          have hcap : rs.length ≤ c7 := (Kd.R_reads' HX.out.m).2.1
          have hmc : m ≤ c7 := Nat.le_trans hml hcap
          have HML := Aside0.mk hml
          obtain ⟨P, hP⟩ : ∃ P, pos rs m = P := ⟨_, rfl⟩
          have HSCAN : ∀ E : Int, (P = kk ∧ E = 0) ∨ (¬ P = kk ∧ E = 3) → _ := fun (E : Int) hE => ScanCut A5 c5 rs m kk E wr (HT.out.below HX.out.b) HOR.out HRL.out hml hp0 (by rw [← HBS.out]; exact HKL.out) hn0 (by rw [hP]; exact hE) (by rw [← HBS.out]; exact HSC.out) HKC.out
          rw [hP]
          simp only [hP] at HSCAN
          clear hP hp0 hn0 ht1 ht2 ht3 hml hmi
          by_cases hq : P = kk
          · subst hq
            have HS0 := Aside0.mk (HSCAN 0 (.inl ⟨rfl, rfl⟩))
            clear HSCAN
            go_wp2_with (first
              | (go_at_call 35; refine HS0.out.mono ?_; rintro e w4 ⟨v4, rfl, ho4, hb4⟩; obtain ⟨A8, n8, rfl⟩ := Kd.R_slice ho4; have HX4 := Aside0.mk (HX.out.below hb4); have HM4 := Aside0.mk (Kd.R_reads' ho4).2.2; rw [HTK.out] at HM4 ⊢; clear ho4 hb4)
              | (go_at_call 36; have hs := same_calls A8 A7 n8 c7 (rs.take m) w4 (by rw [HTK.out]; exact HM4.out) (by rw [HTK.out]; exact C_take (Kd.R_reads' HX4.out.m).2.2 HML.out) (by rw [HTK.out]; have := HML.out; have := HRL.out; omega); rw [HTK.out] at hs; refine hs.mono ?_; clear hs; rintro e w5 ⟨rfl, hb5⟩; have HX5 := Aside0.mk (HX4.out.below hb5); clear hb5)
              | (go_at_call 22; refine (awake_calls _ (HT.out.below HX5.out.b)).mono ?_; rintro e w6 ⟨rfl, hb6⟩; have HX6 := Aside0.mk (HX5.out.below hb6); clear hb6))
            go_ret
            exact ⟨rfl, HX6.out.b⟩
          · have HS0 := Aside0.mk (HSCAN 3 (.inr ⟨hq, rfl⟩))
            have hq2 : ¬ (P : Int) = (kk : Int) := by omega
            have hq3 : decide (P = kk) = false := decide_eq_false hq
            have hq4 : ((P : Int) == (kk : Int)) = false := beq_eq_false_iff_ne.mpr hq2
            clear HSCAN
            go_wp2_with (first
              | (go_at_call 35; refine HS0.out.mono ?_; rintro e w4 ⟨v4, rfl, ho4, hb4⟩; obtain ⟨A8, n8, rfl⟩ := Kd.R_slice ho4; have HX4 := Aside0.mk (HX.out.below hb4); have HM4 := Aside0.mk (Kd.R_reads' ho4).2.2; rw [HTK.out] at HM4 ⊢; clear ho4 hb4)
              | (go_at_call 36; have hs := same_calls A8 A7 n8 c7 (rs.take m) w4 (by rw [HTK.out]; exact HM4.out) (by rw [HTK.out]; exact C_take (Kd.R_reads' HX4.out.m).2.2 HML.out) (by rw [HTK.out]; have := HML.out; have := HRL.out; omega); rw [HTK.out] at hs; refine hs.mono ?_; clear hs; rintro e w5 ⟨rfl, hb5⟩; have HX5 := Aside0.mk (HX4.out.below hb5); clear hb5)
              | (go_at_call 22; refine (awake_calls _ (HT.out.below HX5.out.b)).mono ?_; rintro e w6 ⟨rfl, hb6⟩; have HX6 := Aside0.mk (HX5.out.below hb6); clear hb6))
            go_ret
            exact ⟨rfl, HX6.out.b⟩
end Go.Proofs.YtiohgpcbdefokaaDoor.B
