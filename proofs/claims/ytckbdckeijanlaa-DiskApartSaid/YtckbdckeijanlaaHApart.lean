/- The law DiskApart, walked by hand. -/
import Derived.Test.YtckbdckeijanlaaHActs
namespace Go.Proofs.Ytckbdckeijanlaa.X
open Go.RowKit Go.Shelf Go.Proofs.YtckbdckeijanlaaW.PrintWords Go.Proofs.YtckbdckeijanlaaW.PrintLast Go.Proofs.YtckbdckeijanlaaW.PrintMore Go.Proofs.Ytckbdckeijanlaa.Dsk Go.Proofs.Ytckbdckeijanlaa.G
set_option linter.unusedVariables false
set_option linter.unusedSimpArgs false
theorem ap_write (y : List Int) (hy : y.length = 64) : write (new 4) 0 y = (⟨[zeros 64, zeros 64, zeros 64, zeros 64], [(0, y)], 1, none⟩, 0) := by
  unfold write
  rw [show isS (new 4) 0 = true from rfl, if_neg (by simp), if_neg (by simp [hy]), show down (new 4) = false from rfl, if_neg (by simp)]
  rfl
theorem ap_write2 (y z : List Int) (hz : z.length = 64) : write ⟨[zeros 64, zeros 64, zeros 64, zeros 64], [(0, y)], 1, none⟩ 1 z = (⟨[zeros 64, zeros 64, zeros 64, zeros 64], [(0, y), (1, z)], 2, none⟩, 0) := by
  unfold write
  rw [show isS ⟨[zeros 64, zeros 64, zeros 64, zeros 64], [(0, y)], 1, none⟩ 1 = true from rfl, if_neg (by simp), if_neg (by simp [hz]), show down ⟨[zeros 64, zeros 64, zeros 64, zeros 64], [(0, y)], 1, none⟩ = false from rfl, if_neg (by simp)]
  rfl
theorem ap_crash (y : List Int) (hy : y.length = 64) (ks : List Int) : Rnd (crash ⟨[zeros 64, zeros 64, zeros 64, zeros 64], [(0, y)], 1, none⟩ ks) 4 0 := by
  have hok : Ok ⟨[zeros 64, zeros 64, zeros 64, zeros 64], [(0, y)], 1, none⟩ := ⟨by simp, by simp [zeros], by simp [hy]⟩
  refine ⟨?_, rfl, Nat.le_refl _, Nat.le_refl _⟩
  exact (crashL_ok _ ks _ hok.lies hok.waits).1
set_option maxHeartbeats 16000000 in
set_option maxRecDepth 100000 in
theorem colophonlaw17_DiskApart.calls (A0 : Option Addr) (c0 : Nat) (l0 : List Act17) (A1 : Option Addr) (c1 : Nat) (l1 : List Int) (w : World) (hr0 : Kd.C actK w A0 l0.length l0) (hc0 : l0.length ≤ c0) (hr1 : Kd.C (Kd.int .i64) w A1 l1.length l1) (hc1 : l1.length ≤ c1) :
    Calls Try.prog 6 #[.slice A0 l0.length c0, .slice A1 l1.length c1] w fun e w' => e = .returned (.bool true) ∧ Below w.heap.size w w' := by
  have HR0 := Aside0.mk hr0
  have HR1 := Aside0.mk (And.intro hr1 hc1)
  clear hr0 hr1 hc0 hc1
  obtain ⟨y5, hy5⟩ : ∃ y, fl 5 = y := ⟨_, rfl⟩
  obtain ⟨y8, hy8⟩ : ∃ y, fl 8 = y := ⟨_, rfl⟩
  have h5l : y5.length = 64 := by rw [← hy5]; exact fl_length 5
  have h8l : y8.length = 64 := by rw [← hy8]; exact fl_length 8
  have HY := Aside0.mk (And.intro hy5 (And.intro hy8 (And.intro h5l h8l)))
  clear hy5 hy8 h5l h8l
  obtain ⟨d1, hd1⟩ : ∃ d : Dk, ⟨[zeros 64, zeros 64, zeros 64, zeros 64], [(0, y5)], 1, none⟩ = d := ⟨_, rfl⟩
  have hsd1 : Small d1 := by rw [← hd1]; exact ⟨by simp, by simp, by simp, by simp⟩
  have hRc := ap_crash y5 HY.out.2.2.1 l1
  rw [hd1] at hRc
  have hl1 : d1.left = none := by rw [← hd1]
  have HD1 := Aside0.mk (And.intro hd1 (And.intro hsd1 (And.intro hRc hl1)))
  clear hd1 hsd1 hRc hl1
  go_enter Try.func6, Try.ntmps6
  go_wp2_with (first | (go_at_call 9; refine (works_c w).mono ?_; rintro e w1 ⟨rfl, hb1⟩; refine of_halt ?_))
  unfold G.Halt
  have hfr := (Fr.refl w).then_below hb1
  have HFR1 := Aside0.mk hfr
  clear hb1 hfr
  go_wp2_with (first | (go_at_call 10; refine (New_c 4 _ (by decide) (by decide)).mono ?_; rintro e w2 ⟨g, F, rfl, hD, hF, hb⟩; refine of_halt ?_))
  unfold G.Halt
  have HFR2 := Aside0.mk (And.intro (HFR1.out.then_below hb) (show ∀ k, F k → w.heap.size ≤ k from fun k hk => Nat.le_trans HFR1.out.size (hF k hk)))
  have HD2 := Aside0.mk hD
  clear hD hF hb
  go_wp2_with (first | (go_at_call 11; refine (filled_c 5 _).mono ?_; rintro e w3 ⟨gA, cA, rfl, hcA, hRA, hbA⟩; refine of_halt ?_))
  unfold G.Halt
  rw [HY.out.1] at hcA hRA
  rw [HY.out.1]
  have HD3 := Aside0.mk (And.intro (HD2.out.below hbA) (And.intro (HFR2.out.1.then_below hbA) (Kd.R_reads' hRA).2.2))
  clear hcA hRA hbA
  go_wp2_with (first | (go_at_call 12; refine (Write_c F g (new 4) 0 _ _ cA y5 w3 HD3.out.1 (small_new 4 (by decide)) HD3.out.2.2).mono ?_; rintro e w4 ⟨rfl, F4, hD4, hF4, hk4⟩; refine of_halt ?_))
  unfold G.Halt
  rw [ap_write y5 HY.out.2.2.1, HD1.out.1] at hD4
  rw [ap_write y5 HY.out.2.2.1]
  have HD4 := Aside0.mk (And.intro hD4 (And.intro (HD3.out.2.1.then_kp hk4 HFR2.out.2) (show ∀ k, F4 k → w.heap.size ≤ k from fun k hk => (hF4 k hk).elim (HFR2.out.2 k) (fun h => Nat.le_trans HD3.out.2.1.size h))))
  clear hD4 hF4 hk4
  go_wp2_with (first | (go_at_call 14; refine (Crash_c F4 g _ l1 A1 c1 w4 HD4.out.1 HD1.out.2.1 (Kd.C_below HR1.out.1 HD4.out.2.1.below) HR1.out.2).mono ?_; rintro e w5 ⟨g2, F2, rfl, hD5, hF5, hb5⟩; refine of_halt ?_))
  unfold G.Halt
  have HD5 := Aside0.mk (And.intro (HD4.out.1.below hb5) (And.intro hD5 (And.intro (HD4.out.2.1.then_below hb5) (And.intro HD4.out.2.2 (show ∀ k, F2 k → w.heap.size ≤ k ∧ ¬ F4 k from fun k hk => ⟨Nat.le_trans HD4.out.2.1.size (hF5 k hk), fun h4 => by have := HD4.out.1.2 k h4; have := hF5 k hk; omega⟩)))))
  clear hD5 hF5 hb5
  go_wp2_with (first | (go_at_call 17; refine (image_c F4 g _ w5 HD5.out.1 HD1.out.2.1 HD1.out.2.2.2).mono ?_; rintro e w6 ⟨rfl, hb6⟩; refine of_halt ?_))
  unfold G.Halt
  have HD6 := Aside0.mk (And.intro (HD5.out.1.below hb6) (And.intro (HD5.out.2.1.below hb6) (And.intro (HD5.out.2.2.1.then_below hb6) (And.intro HD5.out.2.2.2.1 HD5.out.2.2.2.2))))
  clear hb6
  go_wp2
  go_loopg [10] 41 (fun kq v10 w' => ∃ i : Nat, v10 = .int .i64 (i : Int) ∧ Aside0 (i ≤ 40 ∧ i ≤ l0.length ∧ kq + i = 41) ∧ Aside0 (∃ F d, Disk F g2 d w' ∧ Rnd d 4 i ∧ Disk F4 g d1 w' ∧ Fr w w' ∧ ∀ k, F k → w.heap.size ≤ k ∧ ¬ F4 k))
  case atStart => exact ⟨0, rfl, ⟨by omega⟩, ⟨F2, _, HD6.out.2.1, HD1.out.2.2.1, HD6.out.1, HD6.out.2.2.1, HD6.out.2.2.2.2⟩⟩
  case round =>
    obtain ⟨i, rfl, HI, HD⟩ := hrel
    obtain ⟨F', d, hDd, hRd, hDo, hFr, hF'⟩ := HD.out
    have HDd := Aside0.mk hDd
    have HRd := Aside0.mk hRd
    have HDo := Aside0.mk hDo
    have HFr := Aside0.mk (And.intro hFr hF')
    clear HD hDd hRd hFr hF' hDo
    have hlen0 : l0.length ≤ 9223372036854775807 := Kd.C_max HR0.out
    have hsm := HRd.out.small (by omega) (by have := HI.out; omega)
    have HSM := Aside0.mk hsm
    clear hsm
    by_cases hi : i < l0.length ∧ i < 40
    · have e1 : ((i : Int) < (l0.length : Int)) = True := eq_true (by omega)
      have e2 : (i < l0.length) = True := eq_true hi.1
      have e3 : ((i : Int) < 40) = True := eq_true (by omega)
      have e4 : (i < 40) = True := eq_true hi.2
      obtain ⟨x, B, cb, K, ck, hx, hact⟩ := act_at HR0.out i hi.1
      obtain ⟨ad, hA, _⟩ := HR0.out.2.2 (by omega)
      subst hA
      have HACT := Aside0.mk hact
      have q0 := (hact _ HFr.out.1.below).kind _ rfl
      have q1 := (hact _ HFr.out.1.below).n _ rfl
      have q2 := (hact _ HFr.out.1.below).at_ _ rfl
      have q3 := (hact _ HFr.out.1.below).bytes _ rfl
      have q4 := (hact _ HFr.out.1.below).kept _ rfl
      have w3_ : wrap64 ((i : Int) + 1) = ((i + 1 : Nat) : Int) := by unfold wrap64; omega
      have HX := Aside0.mk (show ∃ j, i + 1 + j = l0.length from ⟨l0.length - (i + 1), by omega⟩)
      have HX6 := Aside0.mk (show ∃ j, i + 1 + j = 40 from ⟨40 - (i + 1), by omega⟩)
      clear hact hi hx
      have hal := below_alloc (Below.refl wr.heap.size wr) (.cells #[.int .i64 x.1, .int .i64 x.2.1, .int .i64 x.2.2.1, .slice B x.2.2.2.1.length cb, .slice K x.2.2.2.2.length ck] 38)
      have HWX := Aside0.mk (And.intro (HDd.out.below hal) (And.intro (HDo.out.below hal) (HFr.out.1.then_below hal)))
      have HBC := Aside0.mk (HACT.out _ HWX.out.2.2.below).bytesC
      clear hal
      go_upto_region 14 with (fail)
      by_cases hk0 : x.1 = 0
      · have f0 : (x.1 = 0) = True := eq_true hk0
        rw [hk0] at HWX HBC
        go_wp2_with (first | (go_at_call 12; refine (Write_c F' g2 d x.2.1 B x.2.2.2.1.length cb x.2.2.2.1 _ HWX.out.1 HSM.out HBC.out).mono ?_; rintro e w7 ⟨rfl, F7, hD7, hF7, hk7⟩; refine of_halt ?_))
        unfold G.Halt
        have HD7 := Aside0.mk (And.intro hD7 (And.intro (HRd.out.write x.2.1 x.2.2.2.1) (And.intro (HWX.out.2.1.kp hk7 (fun k hk hf => (HFr.out.2 k hf).2 hk)) (And.intro (HWX.out.2.2.then_kp hk7 (fun k hk => (HFr.out.2 k hk).1)) (show ∀ k, F7 k → w.heap.size ≤ k ∧ ¬ F4 k from fun k hk => (hF7 k hk).elim (HFr.out.2 k) (fun h => ⟨Nat.le_trans HWX.out.2.2.size h, fun h4 => by have := HWX.out.2.1.2 k h4; omega⟩))))))
        clear hD7 hF7 hk7
        go_wp2
        go_roundg (gk - 1)
        case measure => have := HI.out; omega
        case rel => exact ⟨i + 1, by rw [w3_], ⟨by have := HI.out; obtain ⟨j, hj⟩ := HX.out; obtain ⟨j6, hj6⟩ := HX6.out; omega⟩, ⟨F7, _, HD7.out⟩⟩
      · by_cases hk1 : x.1 = 1
        · have f0 : (x.1 = 0) = False := eq_false hk0
          have f1 : (x.1 = 1) = True := eq_true hk1
          rw [hk1] at HWX HBC
          go_wp2_with (first | (go_at_call 13; refine (Flush_c F' g2 d _ HWX.out.1 HSM.out).mono ?_; rintro e w7 ⟨rfl, F7, hD7, hF7, hk7⟩; refine of_halt ?_))
          unfold G.Halt
          have HD7 := Aside0.mk (And.intro hD7 (And.intro (HRd.out.flush) (And.intro (HWX.out.2.1.kp hk7 (fun k hk hf => (HFr.out.2 k hf).2 hk)) (And.intro (HWX.out.2.2.then_kp hk7 (fun k hk => (HFr.out.2 k hk).1)) (show ∀ k, F7 k → w.heap.size ≤ k ∧ ¬ F4 k from fun k hk => (hF7 k hk).elim (HFr.out.2 k) (fun h => ⟨Nat.le_trans HWX.out.2.2.size h, fun h4 => by have := HWX.out.2.1.2 k h4; omega⟩))))))
          clear hD7 hF7 hk7
          go_wp2
          go_roundg (gk - 1)
          case measure => have := HI.out; omega
          case rel => exact ⟨i + 1, by rw [w3_], ⟨by have := HI.out; obtain ⟨j, hj⟩ := HX.out; obtain ⟨j6, hj6⟩ := HX6.out; omega⟩, ⟨F7, _, HD7.out⟩⟩
        · by_cases hk3 : x.1 = 3
          · have f0 : (x.1 = 0) = False := eq_false hk0
            have f1 : (x.1 = 1) = False := eq_false hk1
            have f3 : (x.1 = 3) = True := eq_true hk3
            rw [hk3] at HWX HBC
            go_wp2_with (first | (go_at_call 20; refine (Spoil_c F' g2 d x.2.1 x.2.2.1 9 _ HWX.out.1).mono ?_; rintro e w7 ⟨rfl, F7, hD7, hF7, hk7⟩; refine of_halt ?_))
            unfold G.Halt
            have HD7 := Aside0.mk (And.intro hD7 (And.intro (HRd.out.spoil x.2.1 x.2.2.1 9) (And.intro (HWX.out.2.1.kp hk7 (fun k hk hf => (HFr.out.2 k hf).2 hk)) (And.intro (HWX.out.2.2.then_kp hk7 (fun k hk => (HFr.out.2 k hk).1)) (show ∀ k, F7 k → w.heap.size ≤ k ∧ ¬ F4 k from fun k hk => (hF7 k hk).elim (HFr.out.2 k) (fun h => ⟨Nat.le_trans HWX.out.2.2.size h, fun h4 => by have := HWX.out.2.1.2 k h4; omega⟩))))))
            clear hD7 hF7 hk7
            go_wp2
            go_roundg (gk - 1)
            case measure => have := HI.out; omega
            case rel => exact ⟨i + 1, by rw [w3_], ⟨by have := HI.out; obtain ⟨j, hj⟩ := HX.out; obtain ⟨j6, hj6⟩ := HX6.out; omega⟩, ⟨F7, _, HD7.out⟩⟩
          · have f0 : (x.1 = 0) = False := eq_false hk0
            have f1 : (x.1 = 1) = False := eq_false hk1
            have f3 : (x.1 = 3) = False := eq_false hk3
            go_wp2
            go_roundg (gk - 1)
            case measure => have := HI.out; omega
            case rel => exact ⟨i + 1, by rw [w3_], ⟨by have := HI.out; obtain ⟨j, hj⟩ := HX.out; obtain ⟨j6, hj6⟩ := HX6.out; omega⟩, ⟨F', d, HWX.out.1, HRd.out.idle, HWX.out.2.1, HWX.out.2.2, HFr.out.2⟩⟩
    · have hx : ((i < l0.length) = False ∧ ((i : Int) < (l0.length : Int)) = False) ∨ ((i < l0.length) = True ∧ ((i : Int) < (l0.length : Int)) = True ∧ (i < 40) = False ∧ ((i : Int) < 40) = False) := by
        by_cases h : i < l0.length
        · exact .inr ⟨eq_true h, eq_true (by omega), eq_false (by omega), eq_false (by omega)⟩
        · exact .inl ⟨eq_false h, eq_false (by omega)⟩
      obtain ⟨d2, hd2⟩ : ∃ d : Dk, ⟨[zeros 64, zeros 64, zeros 64, zeros 64], [(0, y5), (1, y8)], 2, none⟩ = d := ⟨_, rfl⟩
      have hwr := ap_write2 y5 y8 HY.out.2.2.2
      rw [HD1.out.1, hd2] at hwr
      have hsd2 : Small d2 := by rw [← hd2]; exact ⟨by simp, by simp, by simp, by simp⟩
      have hfl : (Dsk.flush d2).2 = 0 := by rw [← hd2]; rfl
      have hw1 : (d1.waits.map fun q => ((q.1 : Nat) : Int)).length = 1 := by rw [← HD1.out.1]; rfl
      have hst1 : d1.steps = 1 := by rw [← HD1.out.1]
      have HW2 := Aside0.mk (And.intro hwr (And.intro hsd2 (And.intro hfl (And.intro hw1 hst1))))
      clear hi hwr hsd2 hfl hd2 hw1 hst1
      rcases hx with ⟨e1, e2⟩ | ⟨e1, e2, e3, e4⟩
      all_goals
        go_wp2_with (first | (go_at_call 17; refine (image_c F' g2 d wr HDd.out HSM.out HRd.out.left).mono ?_; rintro e wa ⟨rfl, hba⟩; refine of_halt ?_))
        unfold G.Halt
        have HDa := Aside0.mk (And.intro (HDd.out.below hba) (And.intro (HDo.out.below hba) (HFr.out.1.then_below hba)))
        clear hba
        go_wp2_with (first | (go_at_call 17; refine (image_c F4 g d1 wa HDa.out.2.1 HD1.out.2.1 HD1.out.2.2.2).mono ?_; rintro e wb ⟨rfl, hbb⟩; refine of_halt ?_))
        unfold G.Halt
        have HDb := Aside0.mk (And.intro (HDa.out.1.below hbb) (And.intro (HDa.out.2.1.below hbb) (HDa.out.2.2.then_below hbb)))
        clear hbb
        go_wp2_with (first | (go_at_call 16; refine (Waits_c F4 g d1 wb HDb.out.2.1 HD1.out.2.1).mono ?_; rintro e wc ⟨v9, rfl, hR9, hb9⟩; refine of_halt ?_))
        unfold G.Halt
        obtain ⟨A9, c9, rfl⟩ := Kd.R_slice hR9
        rw [HW2.out.2.2.2.1]
        have HDc := Aside0.mk (And.intro (HDb.out.1.below hb9) (And.intro (HDb.out.2.1.below hb9) (HDb.out.2.2.then_below hb9)))
        clear hR9 hb9
        go_wp2_with (first | (go_at_call 19; refine (Steps_c F4 g d1 wc HDc.out.2.1).mono ?_; rintro e wd ⟨rfl, hwd⟩; refine of_halt ?_))
        unfold G.Halt
        obtain rfl := hwd.symm
        rw [HW2.out.2.2.2.2]
        go_wp2_with (first | (go_at_call 11; refine (filled_c 8 _).mono ?_; rintro e we ⟨gB, cB, rfl, hcB, hRB, hbB⟩; refine of_halt ?_))
        unfold G.Halt
        rw [HY.out.2.1] at hcB hRB
        rw [HY.out.2.1]
        have HDe := Aside0.mk (And.intro (HDc.out.1.below hbB) (And.intro (HDc.out.2.1.below hbB) (And.intro (HDc.out.2.2.then_below hbB) (Kd.R_reads' hRB).2.2)))
        clear hcB hRB hbB
        go_wp2_with (first | (go_at_call 12; refine (Write_c F4 g d1 1 _ _ cB y8 we HDe.out.2.1 HD1.out.2.1 HDe.out.2.2.2).mono ?_; rintro e wf ⟨rfl, Ff, hDf, hFf, hkf⟩; refine of_halt ?_))
        unfold G.Halt
        rw [HW2.out.1] at hDf
        rw [HW2.out.1]
        have HDf := Aside0.mk (And.intro (HDe.out.1.kp hkf (fun k hk => (HFr.out.2 k hk).2)) (And.intro hDf (And.intro (HDe.out.2.2.1.then_kp hkf HD6.out.2.2.2.1) (show ∀ k, Ff k → w.heap.size ≤ k ∧ ¬ F' k from fun k hk => (hFf k hk).elim (fun h => ⟨HD6.out.2.2.2.1 k h, fun h4 => (HFr.out.2 k h4).2 h⟩) (fun h => ⟨Nat.le_trans HDe.out.2.2.1.size h, fun h4 => by have := HDe.out.1.2 k h4; omega⟩)))))
        clear hDf hFf hkf
        go_wp2_with (first | (go_at_call 13; refine (Flush_c Ff g d2 wf HDf.out.2.1 HW2.out.2.1).mono ?_; rintro e wg ⟨rfl, Fg, hDg, hFg, hkg⟩; refine of_halt ?_))
        unfold G.Halt
        rw [HW2.out.2.2.1]
        have HDg := Aside0.mk (And.intro (HDf.out.1.kp hkg (fun k hk h => (HDf.out.2.2.2 k h).2 hk)) (HDf.out.2.2.1.then_kp hkg (fun k hk => (HDf.out.2.2.2 k hk).1)))
        clear hDg hFg hkg
        go_wp2_with (first | (go_at_call 17; refine (image_c F' g2 d wg HDg.out.1 HSM.out HRd.out.left).mono ?_; rintro e wh ⟨rfl, hbh⟩; refine of_halt ?_))
        unfold G.Halt
        have HDh := Aside0.mk (HDg.out.2.then_below hbh)
        clear hbh
        go_wp2
        go_ret
        exact ⟨by first | rfl | simp, HDh.out.below⟩
end Go.Proofs.Ytckbdckeijanlaa.X
