/- The law DiskFlushed, walked by hand. -/
import Derived.Test.YtckbdckeijanlaaHActs
namespace Go.Proofs.Ytckbdckeijanlaa.X
open Go.RowKit Go.Shelf Go.Proofs.YtckbdckeijanlaaW.PrintWords Go.Proofs.YtckbdckeijanlaaW.PrintLast Go.Proofs.YtckbdckeijanlaaW.PrintMore Go.Proofs.Ytckbdckeijanlaa.Dsk Go.Proofs.Ytckbdckeijanlaa.G
set_option linter.unusedVariables false
set_option linter.unusedSimpArgs false
set_option maxHeartbeats 16000000 in
set_option maxRecDepth 100000 in
theorem colophonlaw17_DiskFlushed.calls (A0 : Option Addr) (c0 : Nat) (l0 : List Act17) (A1 : Option Addr) (c1 : Nat) (l1 : List Int) (w : World) (hr0 : Kd.C actK w A0 l0.length l0) (hc0 : l0.length ≤ c0) (hr1 : Kd.C (Kd.int .i64) w A1 l1.length l1) (hc1 : l1.length ≤ c1) :
    Calls Try.prog 4 #[.slice A0 l0.length c0, .slice A1 l1.length c1] w fun e w' => e = .returned (.bool true) ∧ Below w.heap.size w w' := by
  have HR0 := Aside0.mk hr0
  have HR1 := Aside0.mk (And.intro hr1 hc1)
  clear hr0 hr1 hc0 hc1
  go_enter Try.func4, Try.ntmps4
  go_wp2_with (first | (go_at_call 9; refine (works_c w).mono ?_; rintro e w1 ⟨rfl, hb1⟩; refine of_halt ?_))
  unfold G.Halt
  have hfr := (Fr.refl w).then_below hb1
  have HFR1 := Aside0.mk hfr
  clear hb1 hfr
  go_wp2_with (first | (go_at_call 10; refine (New_c 6 _ (by decide) (by decide)).mono ?_; rintro e w2 ⟨g, F, rfl, hD, hF, hb⟩; refine of_halt ?_))
  unfold G.Halt
  have HFR2 := Aside0.mk (And.intro (HFR1.out.then_below hb) (show ∀ k, F k → w.heap.size ≤ k from fun k hk => Nat.le_trans HFR1.out.size (hF k hk)))
  have HD2 := Aside0.mk hD
  clear hD hF hb
  go_wp2
  go_loopg [7] 61 (fun kq v7 w' => ∃ i : Nat, v7 = .int .i64 (i : Int) ∧ Aside0 (i ≤ 60 ∧ i ≤ l0.length ∧ kq + i = 61) ∧ Aside0 (∃ F d, Disk F g d w' ∧ Rnd d 6 i ∧ Fr w w' ∧ ∀ k, F k → w.heap.size ≤ k))
  case atStart => exact ⟨0, rfl, ⟨by omega⟩, ⟨F, _, HD2.out, ⟨rfl, rfl, Nat.le_refl _, Nat.le_refl _⟩, HFR2.out⟩⟩
  case round =>
    obtain ⟨i, rfl, HI, HD⟩ := hrel
    obtain ⟨F', d, hDd, hRd, hFr, hF'⟩ := HD.out
    have HDd := Aside0.mk hDd
    have HRd := Aside0.mk hRd
    have HFr := Aside0.mk (And.intro hFr hF')
    clear HD hDd hRd hFr hF'
    have hlen0 : l0.length ≤ 9223372036854775807 := Kd.C_max HR0.out
    have hsm := HRd.out.small (by omega) (by have := HI.out; omega)
    have HSM := Aside0.mk hsm
    clear hsm
    by_cases hi : i < l0.length ∧ i < 60
    · have e1 : ((i : Int) < (l0.length : Int)) = True := eq_true (by omega)
      have e2 : (i < l0.length) = True := eq_true hi.1
      have e3 : ((i : Int) < 60) = True := eq_true (by omega)
      have e4 : (i < 60) = True := eq_true hi.2
      obtain ⟨x, B, cb, K, ck, hx, hact⟩ := act_at HR0.out i hi.1
      obtain ⟨ad, hA, _⟩ := HR0.out.2.2 (by omega)
      subst hA
      have HACT := Aside0.mk hact
      have hkd := (hact _ HFr.out.1.below).kind _ rfl
      have w3_ : wrap64 ((i : Int) + 1) = ((i + 1 : Nat) : Int) := by unfold wrap64; omega
      have HX := Aside0.mk (show ∃ j, i + 1 + j = l0.length from ⟨l0.length - (i + 1), by omega⟩)
      have HX6 := Aside0.mk (show ∃ j, i + 1 + j = 60 from ⟨60 - (i + 1), by omega⟩)
      clear hact hi hx
      by_cases hk0 : x.1 = 0
      · rw [hk0] at hkd
        go_upto_region 11 with (fail)
        refine start_ (n := 12) (S := fun w' => w'.cell? ⟨(ad.add (i * 5)).block, (ad.add (i * 5)).off + 1, none⟩ = some (.int .i64 x.2.1) ∧ w'.cell? ⟨(ad.add (i * 5)).block, (ad.add (i * 5)).off + 3, none⟩ = some (.slice B x.2.2.2.1.length cb)) (ds := [11]) #[false, false, false, false, false, false, false, false, false, false, false, false] (by kernel_rfl) rfl rfl ⟨(HACT.out _ (HFr.out.1.then_below (below_drew (Below.refl _ _))).below).n _ rfl, (HACT.out _ (HFr.out.1.then_below (below_drew (Below.refl _ _))).below).bytes _ rfl⟩ (fun hHeld => ?_)
        refine pure_ (i := 0) (N := some 42) (v := ?_) (a' := ?_) #[true, false, false, false, false, false, false, false, false, false, false, false] rfl rfl (by kernel_rfl) (fun _ _ _ h => h) (Or.inl ⟨by rfl, ?_⟩) ?_ ?_
        rotate_left
        · intro w'
          go_simp
          with_reducible rfl
        rotate_left
        · simp only [Act.put, List.setIfInBounds_toArray, List.set_cons_zero, List.set_cons_succ, i64_w, i32_w]
          rfl
        refine pure_ (i := 1) (N := some 43) (v := ?_) (a' := ?_) #[true, true, false, false, false, false, false, false, false, false, false, false] rfl rfl (by kernel_rfl) (fun _ _ _ h => h) (Or.inl ⟨by rfl, ?_⟩) ?_ ?_
        rotate_left
        · intro w'
          go_simp
          with_reducible rfl
        rotate_left
        · simp only [Act.put, List.setIfInBounds_toArray, List.set_cons_zero, List.set_cons_succ, i64_w, i32_w]
          rfl
        refine pure_ (i := 2) (N := some 44) (v := ?_) (a' := ?_) #[true, true, true, false, false, false, false, false, false, false, false, false] rfl rfl (by kernel_rfl) (fun _ _ _ h => h) (Or.inl ⟨by rfl, ?_⟩) ?_ ?_
        rotate_left
        · intro w'
          go_simp
          with_reducible rfl
        rotate_left
        · simp only [Act.put, List.setIfInBounds_toArray, List.set_cons_zero, List.set_cons_succ, i64_w, i32_w]
          rfl
        refine pure_ (i := 3) (N := some 45) (v := ?_) (a' := ?_) #[true, true, true, true, false, false, false, false, false, false, false, false] rfl rfl (by kernel_rfl) (fun _ _ _ h => h) (Or.inl ⟨by rfl, ?_⟩) ?_ ?_
        rotate_left
        · intro w'
          go_simp
          with_reducible rfl
        rotate_left
        · simp only [Act.put, List.setIfInBounds_toArray, List.set_cons_zero, List.set_cons_succ, i64_w, i32_w]
          rfl
        refine pure_ (i := 4) (N := some 46) (v := ?_) (a' := ?_) #[true, true, true, true, true, false, false, false, false, false, false, false] rfl rfl (by kernel_rfl) (fun _ _ _ h => h) (Or.inl ⟨by rfl, ?_⟩) ?_ ?_
        rotate_left
        · intro w'
          go_simp
          with_reducible rfl
        rotate_left
        · simp only [Act.put, List.setIfInBounds_toArray, List.set_cons_zero, List.set_cons_succ, i64_w, i32_w]
          rfl
        refine pure_ (i := 6) (N := some 48) (v := ?_) (a' := ?_) #[true, true, true, true, true, false, true, false, false, false, false, false] rfl rfl (by kernel_rfl) (fun _ _ _ h => h) (Or.inl ⟨by rfl, ?_⟩) ?_ ?_
        rotate_left
        · intro w'
          go_simp
          with_reducible rfl
        rotate_left
        · simp only [Act.put, List.setIfInBounds_toArray, List.set_cons_zero, List.set_cons_succ, i64_w, i32_w]
          rfl
        refine pure_ (i := 7) (N := some 49) (v := ?_) (a' := ?_) #[true, true, true, true, true, false, true, true, false, false, false, false] rfl rfl (by kernel_rfl) (fun _ _ _ h => h) (Or.inl ⟨by rfl, ?_⟩) ?_ ?_
        rotate_left
        · intro w'
          go_simp
          with_reducible rfl
        rotate_left
        · simp only [Act.put, List.setIfInBounds_toArray, List.set_cons_zero, List.set_cons_succ, i64_w, i32_w]
          rfl
        refine pure_ (i := 8) (N := some 50) (v := ?_) (a' := ?_) #[true, true, true, true, true, false, true, true, true, false, false, false] rfl rfl (by kernel_rfl) (fun _ _ _ h => h) (Or.inl ⟨by rfl, ?_⟩) ?_ ?_
        rotate_left
        · intro w'
          go_simp
          with_reducible rfl
        rotate_left
        · simp only [Act.put, List.setIfInBounds_toArray, List.set_cons_zero, List.set_cons_succ, i64_w, i32_w]
          rfl
        refine pure_ (i := 9) (N := some 51) (v := ?_) (a' := ?_) #[true, true, true, true, true, false, true, true, true, true, false, false] rfl rfl (by kernel_rfl) (fun _ _ _ h => h) (Or.inl ⟨by rfl, ?_⟩) ?_ ?_
        rotate_left
        · intro w'
          go_simp
          with_reducible rfl
        rotate_left
        · simp only [Act.put, List.setIfInBounds_toArray, List.set_cons_zero, List.set_cons_succ, i64_w, i32_w]
          rfl
        refine take_ (i := 5) (N := some 47) (v := ?_) (a' := ?_) #[true, true, true, true, true, true, true, true, true, true, false, false] rfl rfl (by kernel_rfl) (fun _ _ _ h => h) (Or.inl ⟨by rfl, ?_⟩) hHeld ?_ ?_
        rotate_left
        · rintro w' ⟨s0, s1⟩
          go_simp
          with_reducible rfl
        rotate_left
        · simp only [Act.put, List.setIfInBounds_toArray, List.set_cons_zero, List.set_cons_succ, i64_w, i32_w]
          rfl
        refine take_ (i := 10) (N := some 52) (v := ?_) (a' := ?_) #[true, true, true, true, true, true, true, true, true, true, true, false] rfl rfl (by kernel_rfl) (fun _ _ _ h => h) (Or.inl ⟨by rfl, ?_⟩) hHeld ?_ ?_
        rotate_left
        · rintro w' ⟨s0, s1⟩
          go_simp
          with_reducible rfl
        rotate_left
        · simp only [Act.put, List.setIfInBounds_toArray, List.set_cons_zero, List.set_cons_succ, i64_w, i32_w]
          rfl
        refine last_ (i := 11) (N := some 53) #[true, true, true, true, true, true, true, true, true, true, true, true] rfl rfl (by kernel_rfl) (by decide) (fun K hK => ?_)
        refine goes_ Try.func12 (by kernel_rfl) rfl #[.pointer (some ⟨g, 0, none⟩), .int .i64 x.2.1, .slice B x.2.2.2.1.length cb] (by rfl) rfl rfl (by simp only [List.map_toArray, List.map_cons, List.map_nil]; rfl) ?_
        with_reducible refine (Write_c F' g d x.2.1 B x.2.2.2.1.length cb x.2.2.2.1 wr.drew (HDd.out.below (below_drew (Below.refl _ _))) HSM.out (HACT.out _ (HFr.out.1.then_below (below_drew (Below.refl _ _))).below).bytesC).mono ?_
        rintro e w7 ⟨rfl, F7, hD7, hF7, hk7⟩
        refine ⟨_, rfl, ?_⟩
        refine hK.out _ _ ?_
        clear hK K
        refine norm_ (a' := ?_) ?_ ?_
        rotate_left
        · show Act.put _ (some 53) _ = _
          simp only [Act.put, List.setIfInBounds_toArray, List.set_cons_zero, List.set_cons_succ, i64_w, i32_w]
          rfl
        refine done_ (by kernel_rfl) ?_
        have HD7 := Aside0.mk (And.intro hD7 (And.intro (HRd.out.write x.2.1 x.2.2.2.1) (And.intro ((HFr.out.1.then_below (below_drew (Below.refl _ _))).then_kp hk7 HFr.out.2) (show ∀ k, F7 k → w.heap.size ≤ k from fun k hk => (hF7 k hk).elim (HFr.out.2 k) (fun h => Nat.le_trans HFr.out.1.size h)))))
        clear hD7 hF7 hk7
        go_wp2
        go_roundg (gk - 1)
        case measure => have := HI.out; omega
        case rel => exact ⟨i + 1, by rw [w3_], ⟨by have := HI.out; obtain ⟨j, hj⟩ := HX.out; obtain ⟨j6, hj6⟩ := HX6.out; omega⟩, ⟨F7, _, HD7.out⟩⟩
      · by_cases hk1 : x.1 = 1
        · rw [hk1] at hkd
          go_wp2_with (first | (go_at_call 13; refine (Flush_c F' g d wr HDd.out HSM.out).mono ?_; rintro e w7 ⟨rfl, F7, hD7, hF7, hk7⟩; refine of_halt ?_))
          unfold G.Halt
          have HD7 := Aside0.mk (And.intro hD7 (And.intro (HRd.out.flush) (And.intro (HFr.out.1.then_kp hk7 HFr.out.2) (show ∀ k, F7 k → w.heap.size ≤ k from fun k hk => (hF7 k hk).elim (HFr.out.2 k) (fun h => Nat.le_trans HFr.out.1.size h)))))
          clear hD7 hF7 hk7
          go_wp2
          go_roundg (gk - 1)
          case measure => have := HI.out; omega
          case rel => exact ⟨i + 1, by rw [w3_], ⟨by have := HI.out; obtain ⟨j, hj⟩ := HX.out; obtain ⟨j6, hj6⟩ := HX6.out; omega⟩, ⟨F7, _, HD7.out⟩⟩
        · have f0 : (x.1 = 0) = False := eq_false hk0
          have f1 : (x.1 = 1) = False := eq_false hk1
          go_wp2
          go_roundg (gk - 1)
          case measure => have := HI.out; omega
          case rel => exact ⟨i + 1, by rw [w3_], ⟨by have := HI.out; obtain ⟨j, hj⟩ := HX.out; obtain ⟨j6, hj6⟩ := HX6.out; omega⟩, ⟨F', d, HDd.out, HRd.out.idle, HFr.out⟩⟩
    · have hx : ((i < l0.length) = False ∧ ((i : Int) < (l0.length : Int)) = False) ∨ ((i < l0.length) = True ∧ ((i : Int) < (l0.length : Int)) = True ∧ (i < 60) = False ∧ ((i : Int) < 60) = False) := by
        by_cases h : i < l0.length
        · exact .inr ⟨eq_true h, eq_true (by omega), eq_false (by omega), eq_false (by omega)⟩
        · exact .inl ⟨eq_false h, eq_false (by omega)⟩
      have hup := flush_up HRd.out.left
      obtain ⟨L, hL⟩ : ∃ L, Dsk.settle d.lies d.waits = L := ⟨_, rfl⟩
      obtain ⟨s, hs⟩ : ∃ s, d.steps + 1 = s := ⟨_, rfl⟩
      have hLl : L.length = 6 := by rw [← hL, settle_len]; exact HRd.out.lies
      have hs61 : s ≤ 61 := by have := HRd.out.steps; have := HI.out; omega
      rw [hL, hs] at hup
      have HUP := Aside0.mk (And.intro hup (And.intro hLl hs61))
      have hcr := crash_quiet (d := ⟨L, [], s, none⟩) rfl l1
      have hcr2 := crash_quiet (d := ⟨L, [], 0, none⟩) rfl l1
      have hsmall : Small ⟨L, [], s, none⟩ := ⟨by show s < _; omega, by simp, by simp, by show L.length < _; omega⟩
      have hsmall2 : Small ⟨L, [], 0, none⟩ := ⟨by simp, by simp, by simp, by show L.length < _; omega⟩
      have him : img ⟨L, [], 0, none⟩ = img ⟨L, [], s, none⟩ := img_congr rfl rfl
      have HCR := Aside0.mk (And.intro hcr (And.intro hcr2 (And.intro hsmall (And.intro hsmall2 him))))
      clear hi hup hL hs hLl hs61 hcr hcr2 hsmall hsmall2 him
      rcases hx with ⟨e1, e2⟩ | ⟨e1, e2, e3, e4⟩
      all_goals
        go_wp2_with (first | (go_at_call 13; refine (Flush_c F' g d wr HDd.out HSM.out).mono ?_; rintro e w7 ⟨rfl, F7, hD7, hF7, hk7⟩; refine of_halt ?_))
        unfold G.Halt
        rw [HUP.out.1] at hD7
        rw [HUP.out.1]
        have HD7 := Aside0.mk (And.intro hD7 (And.intro (HFr.out.1.then_kp hk7 HFr.out.2) (show ∀ k, F7 k → w.heap.size ≤ k from fun k hk => (hF7 k hk).elim (HFr.out.2 k) (fun h => Nat.le_trans HFr.out.1.size h))))
        clear hD7 hF7 hk7
        go_wp2_with (first | (go_at_call 16; refine (Waits_c F7 g _ w7 HD7.out.1 HCR.out.2.2.1).mono ?_; rintro e w9 ⟨v9, rfl, hR9, hb9⟩; refine of_halt ?_))
        unfold G.Halt
        obtain ⟨A9, c9, rfl⟩ := Kd.R_slice hR9
        have HD9 := Aside0.mk (And.intro (HD7.out.1.below hb9) (HD7.out.2.1.then_below hb9))
        clear hR9 hb9
        go_wp2_with (first | (go_at_call 17; refine (image_c F7 g _ w9 HD9.out.1 HCR.out.2.2.1 rfl).mono ?_; rintro e wa ⟨rfl, hba⟩; refine of_halt ?_))
        unfold G.Halt
        have HDa := Aside0.mk (And.intro (HD9.out.1.below hba) (HD9.out.2.then_below hba))
        clear hba
        go_wp2_with (first | (go_at_call 14; refine (Crash_c F7 g _ l1 A1 c1 wa HDa.out.1 HCR.out.2.2.1 (Kd.C_below HR1.out.1 HDa.out.2.below) HR1.out.2).mono ?_; rintro e wb ⟨g2, F2, rfl, hDb, hFb, hbb⟩; refine of_halt ?_))
        unfold G.Halt
        rw [HCR.out.1] at hDb
        have HDb := Aside0.mk (And.intro hDb (HDa.out.2.then_below hbb))
        clear hDb hFb hbb
        go_wp2_with (first | (go_at_call 14; refine (Crash_c F2 g2 _ l1 A1 c1 wb HDb.out.1 HCR.out.2.2.2.1 (Kd.C_below HR1.out.1 HDb.out.2.below) HR1.out.2).mono ?_; rintro e wc ⟨g3, F3, rfl, hDc, hFc, hbc⟩; refine of_halt ?_))
        unfold G.Halt
        rw [HCR.out.2.1] at hDc
        have HDc := Aside0.mk (And.intro hDc (And.intro (HDb.out.1.below hbc) (HDb.out.2.then_below hbc)))
        clear hDc hFc hbc
        go_wp2_with (first | (go_at_call 17; refine (image_c F2 g2 _ wc HDc.out.2.1 HCR.out.2.2.2.1 rfl).mono ?_; rintro e wd ⟨rfl, hbd⟩; refine of_halt ?_))
        unfold G.Halt
        rw [HCR.out.2.2.2.2]
        have HDd' := Aside0.mk (And.intro (HDc.out.1.below hbd) (HDc.out.2.2.then_below hbd))
        clear hbd
        go_wp2_with (first | (go_at_call 17; refine (image_c F3 g3 _ wd HDd'.out.1 HCR.out.2.2.2.1 rfl).mono ?_; rintro e we ⟨rfl, hbe⟩; refine of_halt ?_))
        unfold G.Halt
        rw [HCR.out.2.2.2.2]
        have HDe := Aside0.mk (HDd'.out.2.then_below hbe)
        clear hbe
        have hsz : (strOfNums (img ⟨L, [], s, none⟩)).size = 384 := by
          rw [str_size, img_length HD7.out.1.ok]
          show L.length * 64 = 384
          rw [HUP.out.2.1]
        go_wp2
        go_ret
        exact ⟨by first | rfl | simp, HDe.out.below⟩
end Go.Proofs.Ytckbdckeijanlaa.X
