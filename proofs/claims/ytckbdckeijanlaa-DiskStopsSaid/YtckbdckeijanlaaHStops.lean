/- The law DiskStops, walked by hand. -/
import Derived.Test.YtckbdckeijanlaaHImage
namespace Go.Proofs.Ytckbdckeijanlaa.X
open Go.RowKit Go.Shelf Go.Proofs.YtckbdckeijanlaaW.PrintWords Go.Proofs.YtckbdckeijanlaaW.PrintLast Go.Proofs.YtckbdckeijanlaaW.PrintMore Go.Proofs.Ytckbdckeijanlaa.Dsk Go.Proofs.Ytckbdckeijanlaa.G
set_option linter.unusedVariables false
set_option linter.unusedSimpArgs false
/-- A disk of three sectors that is stopped behind nn steps, of which so many are done. -/
structure StI (d : Dk) (nn done wt : Nat) : Prop where
  lies : d.lies.length = 3
  left : d.left = some (nn - done)
  le : done ≤ nn
  steps : d.steps = done
  waits : d.waits.length = wt
theorem StI.small {d : Dk} {nn done wt : Nat} (h : StI d nn done wt) (hn : nn < 40) (hw : wt ≤ 80) : Small d :=
  ⟨by rw [h.steps]; have := h.le; omega, by rw [h.left]; show nn - done < _; omega, by rw [h.waits]; omega, by rw [h.lies]; omega⟩
theorem StI.down {d : Dk} {nn done wt : Nat} (h : StI d nn done wt) : Dsk.down d = decide (done = nn) := by
  unfold Dsk.down
  rw [h.left, Bool.eq_iff_iff]
  have := h.le
  simp
  omega
theorem StI.flush {d : Dk} {nn done wt : Nat} (h : StI d nn done wt) (hlt : done < nn) : (Dsk.flush d).2 = 0 ∧ StI (Dsk.flush d).1 nn (done + 1) 0 := by
  have hd : Dsk.down d = false := by rw [h.down]; exact decide_eq_false (by omega)
  unfold Dsk.flush
  rw [hd, if_neg (by simp)]
  refine ⟨rfl, ⟨?_, ?_, hlt, by show d.steps + 1 = _; rw [h.steps], rfl⟩⟩
  · show (Dsk.settle _ _).length = 3
    rw [settle_len]; exact h.lies
  · show d.left.map (· - 1) = _
    rw [h.left]
    show some (nn - done - 1) = _
    rw [Nat.sub_sub]
theorem StI.flush_no {d : Dk} {nn done wt : Nat} (h : StI d nn done wt) (he : done = nn) : Dsk.flush d = (d, 170) := by
  unfold Dsk.flush
  rw [h.down, decide_eq_true he, if_pos rfl]
theorem StI.isS {d : Dk} {nn done wt : Nat} (h : StI d nn done wt) (i : Nat) (hi : i < 3) : Dsk.isS d (i : Int) = true := decide_eq_true (by rw [h.lies]; omega)
theorem StI.write {d : Dk} {nn done wt : Nat} (h : StI d nn done wt) (hlt : done < nn) (i : Nat) (hi : i < 3) (ys : List Int) (hy : ys.length = 64) : (Dsk.write d (i : Int) ys).2 = 0 ∧ StI (Dsk.write d (i : Int) ys).1 nn (done + 1) (wt + 1) := by
  have hd : Dsk.down d = false := by rw [h.down]; exact decide_eq_false (by omega)
  unfold Dsk.write
  rw [h.isS i hi, if_neg (by simp), if_neg (by simp [hy]), hd, if_neg (by simp)]
  refine ⟨rfl, ⟨h.lies, ?_, hlt, by show d.steps + 1 = _; rw [h.steps], by show (d.waits ++ [_]).length = _; rw [List.length_append, h.waits]; rfl⟩⟩
  show d.left.map (· - 1) = _
  rw [h.left]
  show some (nn - done - 1) = _
  rw [Nat.sub_sub]
theorem StI.write_no {d : Dk} {nn done wt : Nat} (h : StI d nn done wt) (he : done = nn) (i : Nat) (hi : i < 3) (ys : List Int) (hy : ys.length = 64) : Dsk.write d (i : Int) ys = (d, 170) := by
  unfold Dsk.write
  rw [h.isS i hi, if_neg (by simp), if_neg (by simp [hy]), h.down, decide_eq_true he, if_pos rfl]
theorem StI.read {d : Dk} {nn done wt : Nat} (h : StI d nn done wt) : (Dsk.read d 0).2 = if done = nn then 170 else 0 := by
  unfold Dsk.read
  rw [show Dsk.isS d 0 = true from h.isS 0 (by omega), if_neg (by simp), h.down]
  by_cases e : done = nn
  · rw [decide_eq_true e, if_pos rfl, if_pos e]
  · rw [decide_eq_false e, if_neg (by simp), if_neg e]
set_option maxHeartbeats 16000000 in
set_option maxRecDepth 100000 in
theorem colophonlaw17_DiskStops.calls (a0 : Int) (A1 : Option Addr) (c1 : Nat) (l1 : List Bool) (w : World) (hr1 : Kd.C Kd.bool w A1 l1.length l1) (hc1 : l1.length ≤ c1) :
    Calls Try.prog 5 #[.int .i64 a0, .slice A1 l1.length c1] w fun e w' => e = .returned (.bool true) ∧ Below w.heap.size w w' := by
  have HR1 := Aside0.mk hr1
  clear hr1
  go_enter Try.func5, Try.ntmps5
  go_wp2_with (first | (go_at_call 9; refine (works_c w).mono ?_; rintro e w1 ⟨rfl, hb1⟩; refine of_halt ?_))
  unfold G.Halt
  have hfr := (Fr.refl w).then_below hb1
  have HFR1 := Aside0.mk hfr
  clear hb1 hfr
  go_wp2_with (first | (go_at_call 10; refine (New_c 3 _ (by decide) (by decide)).mono ?_; rintro e w2 ⟨g, F, rfl, hD, hF, hb⟩; refine of_halt ?_))
  unfold G.Halt
  have HFR2 := Aside0.mk (And.intro (HFR1.out.then_below hb) (show ∀ k, F k → w.heap.size ≤ k from fun k hk => Nat.le_trans HFR1.out.size (hF k hk)))
  have HD2 := Aside0.mk hD
  clear hD hF hb
  obtain ⟨nn, hnn, hn40⟩ : ∃ nn : Nat, wrap64 ((IntKind.u64.wrap a0).tmod 40) = (nn : Int) ∧ nn < 40 := by
    have h0 : 0 ≤ IntKind.u64.wrap a0 := by rw [IntKind.wrap_u64]; omega
    have h1 : (IntKind.u64.wrap a0).tmod 40 = IntKind.u64.wrap a0 % 40 := Int.tmod_eq_emod_of_nonneg h0
    rw [h1]
    generalize IntKind.u64.wrap a0 = x at *
    exact ⟨(x % 40).toNat, by unfold wrap64; omega, by omega⟩
  go_wp2_with (first | (go_at_call 18; refine of_halt ?_))
  unfold G.Halt
  rw [hnn]
  refine (Stop_c F g _ (nn : Int) w2 HD2.out (by omega)).mono ?_
  rintro e w3 ⟨rfl, F3, hD3, hF3, hk3⟩
  have hst : stop (new 3) (nn : Int) = (⟨[zeros 64, zeros 64, zeros 64], [], 0, some nn⟩, 0) := by
    unfold stop
    rw [if_neg (by omega), Int.toNat_natCast]
    rfl
  rw [show Int.toNat 3 = 3 from rfl, hst] at hD3
  rw [show Int.toNat 3 = 3 from rfl, hst]
  have HD3 := Aside0.mk (And.intro hD3 (And.intro (show StI ⟨[zeros 64, zeros 64, zeros 64], [], 0, some nn⟩ nn 0 0 from ⟨rfl, rfl, Nat.zero_le _, rfl, rfl⟩) (And.intro (HFR2.out.1.then_kp hk3 HFR2.out.2) (show ∀ k, F3 k → w.heap.size ≤ k from fun k hk => (hF3 k hk).elim (HFR2.out.2 k) (fun h => Nat.le_trans HFR2.out.1.size h)))))
  have HNN := Aside0.mk hn40
  clear hD3 hF3 hk3 hnn hn40 hst
  go_wp2
  go_loopg [7, 8, 9] 81 (fun kq v7 v8 v9 w' => ∃ i done wt : Nat, v7 = .int .i64 (wt : Int) ∧ v8 = .int .i64 (done : Int) ∧ v9 = .int .i64 (i : Int) ∧ Aside0 (i ≤ 80 ∧ wt ≤ i ∧ i ≤ l1.length ∧ kq + i = 81) ∧ Aside0 (∃ F d, Disk F g d w' ∧ StI d nn done wt ∧ Fr w w' ∧ ∀ k, F k → w.heap.size ≤ k))
  case atStart => exact ⟨0, 0, 0, rfl, rfl, rfl, ⟨by omega⟩, ⟨F3, _, HD3.out⟩⟩
  case round =>
    obtain ⟨i, done, wt, rfl, rfl, rfl, HI, HD⟩ := hrel
    obtain ⟨F', d, hDd, hSt, hFr, hF'⟩ := HD.out
    have HDd := Aside0.mk hDd
    have HSt := Aside0.mk hSt
    have HFr := Aside0.mk (And.intro hFr hF')
    clear HD hDd hSt hFr hF'
    have hlen1 : l1.length ≤ 9223372036854775807 := Kd.C_max HR1.out
    by_cases hi : i < l1.length
    · by_cases hi80 : i < 80
      · have e1 : ((i : Int) < (l1.length : Int)) = True := eq_true (by omega)
        have e2 : (i < l1.length) = True := eq_true hi
        have e3 : ((i : Int) < 80) = True := eq_true (by omega)
        have e3' : (i < 80) = True := eq_true hi80
        obtain ⟨ad, hA, hcc⟩ := (Kd.C_below HR1.out HFr.out.1.below).2.2 (by omega)
        subst hA
        obtain ⟨b, hb⟩ : ∃ b, l1[i]? = some b := ⟨_, List.getElem?_eq_getElem hi⟩
        obtain ⟨cb, hcb1, hcb2, hcb3⟩ := hcc i b hb
        have hcb2' : cb = [.bool b] := hcb2
        subst hcb2'
        have hcell : wr.cell? (ad.add i) = some (.bool b) := by
          have := hcb3 0 (.bool b) rfl
          simpa [Kd.bool, Kd.scalar] using this
        have HCELL := Aside0.mk (show ∀ V, Fr w V → V.cell? (ad.add i) = some (.bool b) from fun V hV => by
          obtain ⟨ad', hA', hcc'⟩ := (Kd.C_below HR1.out hV.below).2.2 (by omega)
          injection hA' with hA'
          subst hA'
          obtain ⟨cb', q1, q2, q3⟩ := hcc' i b hb
          have q2' : cb' = [.bool b] := q2
          subst q2'
          have := q3 0 (.bool b) rfl
          simpa [Kd.bool, Kd.scalar] using this)
        have w1_ : wrap64 ((done : Int) + 1) = ((done + 1 : Nat) : Int) := by have := HSt.out.le; have := HNN.out; unfold wrap64; omega
        have w2_ : wrap64 ((wt : Int) + 1) = ((wt + 1 : Nat) : Int) := by have := HI.out; unfold wrap64; omega
        have w3_ : wrap64 ((i : Int) + 1) = ((i + 1 : Nat) : Int) := by unfold wrap64; omega
        obtain ⟨r3, hr3, hr33⟩ : ∃ r3 : Nat, r3 = i % 3 ∧ r3 < 3 := ⟨_, rfl, Nat.mod_lt _ (by omega)⟩
        have hmod : (i : Int).tmod 3 = (r3 : Int) := by rw [Int.tmod_eq_emod_of_nonneg (by omega)]; omega
        have HX := Aside0.mk (show ∃ j, i + 1 + j = l1.length from ⟨l1.length - (i + 1), by omega⟩)
        have HX8 := Aside0.mk (show ∃ j, i + 1 + j = 80 from ⟨80 - (i + 1), by omega⟩)
        have hsm := HSt.out.small HNN.out (by have := HI.out; omega)
        have HSM := Aside0.mk hsm
        clear hcc hcb1 hcb2 hcb3 hb hi hi80 hsm hr3
        cases b with
        | true =>
          by_cases hd : done < nn
          · have f1 : decide ((done : Int) < (nn : Int)) = true := decide_eq_true (by omega)
            have f2 : ((done : Int) < (nn : Int)) = True := eq_true (by omega)
            have f3 : (done < nn) = True := eq_true hd
            obtain ⟨hz, hS'⟩ := HSt.out.flush hd
            have HS' := Aside0.mk (And.intro hz hS')
            clear hd hz hS'
            go_wp2_with (first | (go_at_call 13; refine (Flush_c F' g d wr HDd.out HSM.out).mono ?_; rintro e w7 ⟨rfl, F7, hD7, hF7, hk7⟩; refine of_halt ?_))
            unfold G.Halt
            rw [HS'.out.1]
            have hfr7 := (HFr.out.1).then_kp hk7 HFr.out.2
            have hcell7 := HCELL.out _ hfr7
            have HD7 := Aside0.mk (And.intro hD7 (And.intro HS'.out.2 (And.intro hfr7 (show ∀ k, F7 k → w.heap.size ≤ k from fun k hk => (hF7 k hk).elim (HFr.out.2 k) (fun h => Nat.le_trans HFr.out.1.size h)))))
            clear hD7 hF7 hk7 hfr7
            have hsm7 := HD7.out.2.1.small HNN.out (by have := HI.out; obtain ⟨j8, hj8⟩ := HX8.out; omega)
            have HSM7 := Aside0.mk hsm7
            clear hsm7
            go_wp2_with (first | (go_at_call 19; refine (Steps_c F7 g _ w7 HD7.out.1).mono ?_; rintro e w8 ⟨rfl, hw8⟩; refine of_halt ?_))
            unfold G.Halt
            obtain rfl := hw8.symm
            rw [show ((Dsk.flush d).1).steps = (done + 1) from HD7.out.2.1.steps]
            go_wp2_with (first | (go_at_call 16; refine (Waits_c F7 g _ w7 HD7.out.1 HSM7.out).mono ?_; rintro e w9 ⟨v9, rfl, hR9, hb9⟩; refine of_halt ?_))
            unfold G.Halt
            obtain ⟨A9, c9, rfl⟩ := Kd.R_slice hR9
            rw [show (((Dsk.flush d).1).waits.map fun q => ((q.1 : Nat) : Int)).length = 0 from (List.length_map _).trans HD7.out.2.1.waits]
            have HD9 := Aside0.mk (And.intro (HD7.out.1.below hb9) (And.intro HD7.out.2.1 (And.intro (HD7.out.2.2.1.then_below hb9) HD7.out.2.2.2)))
            clear hR9 hb9
            go_wp2
            go_roundg (gk - 1)
            case measure => have := HI.out; omega
            case rel => exact ⟨i + 1, (done + 1), 0, by first | rfl | simp, by first | rfl | simp, by rw [w3_], ⟨by have := HI.out; obtain ⟨j, hj⟩ := HX.out; obtain ⟨j8, hj8⟩ := HX8.out; omega⟩, ⟨F7, _, HD9.out⟩⟩
          · have f1 : decide ((done : Int) < (nn : Int)) = false := decide_eq_false (by omega)
            have f2 : ((done : Int) < (nn : Int)) = False := eq_false (by omega)
            have f3 : (done < nn) = False := eq_false hd
            have hz := HSt.out.flush_no (by have := HSt.out.le; omega)
            have HS' := Aside0.mk hz
            clear hd hz
            go_wp2_with (first | (go_at_call 13; refine (Flush_c F' g d wr HDd.out HSM.out).mono ?_; rintro e w7 ⟨rfl, F7, hD7, hF7, hk7⟩; refine of_halt ?_))
            unfold G.Halt
            rw [HS'.out] at hD7
            rw [HS'.out]
            have hfr7 := (HFr.out.1).then_kp hk7 HFr.out.2
            have hcell7 := HCELL.out _ hfr7
            have HD7 := Aside0.mk (And.intro hD7 (And.intro HSt.out (And.intro hfr7 (show ∀ k, F7 k → w.heap.size ≤ k from fun k hk => (hF7 k hk).elim (HFr.out.2 k) (fun h => Nat.le_trans HFr.out.1.size h)))))
            clear hD7 hF7 hk7 hfr7
            have hsm7 := HD7.out.2.1.small HNN.out (by have := HI.out; obtain ⟨j8, hj8⟩ := HX8.out; omega)
            have HSM7 := Aside0.mk hsm7
            clear hsm7
            go_wp2_with (first | (go_at_call 19; refine (Steps_c F7 g _ w7 HD7.out.1).mono ?_; rintro e w8 ⟨rfl, hw8⟩; refine of_halt ?_))
            unfold G.Halt
            obtain rfl := hw8.symm
            rw [show (d).steps = done from HD7.out.2.1.steps]
            go_wp2_with (first | (go_at_call 16; refine (Waits_c F7 g _ w7 HD7.out.1 HSM7.out).mono ?_; rintro e w9 ⟨v9, rfl, hR9, hb9⟩; refine of_halt ?_))
            unfold G.Halt
            obtain ⟨A9, c9, rfl⟩ := Kd.R_slice hR9
            rw [show ((d).waits.map fun q => ((q.1 : Nat) : Int)).length = wt from (List.length_map _).trans HD7.out.2.1.waits]
            have HD9 := Aside0.mk (And.intro (HD7.out.1.below hb9) (And.intro HD7.out.2.1 (And.intro (HD7.out.2.2.1.then_below hb9) HD7.out.2.2.2)))
            clear hR9 hb9
            go_wp2
            go_roundg (gk - 1)
            case measure => have := HI.out; omega
            case rel => exact ⟨i + 1, done, wt, by first | rfl | simp, by first | rfl | simp, by rw [w3_], ⟨by have := HI.out; obtain ⟨j, hj⟩ := HX.out; obtain ⟨j8, hj8⟩ := HX8.out; omega⟩, ⟨F7, _, HD9.out⟩⟩
        | false =>
          by_cases hd : done < nn
          · have f1 : decide ((done : Int) < (nn : Int)) = true := decide_eq_true (by omega)
            have f2 : ((done : Int) < (nn : Int)) = True := eq_true (by omega)
            have f3 : (done < nn) = True := eq_true hd
            obtain ⟨hz, hS'⟩ := HSt.out.write hd r3 hr33 (fl (IntKind.u8.wrap (i : Int))) (fl_length _)
            have HS' := Aside0.mk (And.intro hz hS')
            clear hd hz hS'
            go_wp2_with (first | (go_at_call 11; refine (filled_c (IntKind.u8.wrap (i : Int)) _).mono ?_; rintro e w6 ⟨g6, c6, rfl, hc6, hR6, hb6⟩; refine of_halt ?_))
            unfold G.Halt
            have HD6 := Aside0.mk (And.intro (HDd.out.below hb6) (And.intro (HFr.out.1.then_below hb6) (Kd.R_reads' hR6).2.2))
            clear hc6 hR6 hb6
            go_wp2_with (first | (go_at_call 12; refine (Write_c F' g d (r3 : Int) _ _ c6 (fl (IntKind.u8.wrap (i : Int))) w6 HD6.out.1 HSM.out HD6.out.2.2).mono ?_; rintro e w7 ⟨rfl, F7, hD7, hF7, hk7⟩; refine of_halt ?_))
            unfold G.Halt
            rw [HS'.out.1]
            have hfr7 := (HD6.out.2.1).then_kp hk7 HFr.out.2
            have hcell7 := HCELL.out _ hfr7
            have HD7 := Aside0.mk (And.intro hD7 (And.intro HS'.out.2 (And.intro hfr7 (show ∀ k, F7 k → w.heap.size ≤ k from fun k hk => (hF7 k hk).elim (HFr.out.2 k) (fun h => Nat.le_trans HD6.out.2.1.size h)))))
            clear hD7 hF7 hk7 hfr7
            have hsm7 := HD7.out.2.1.small HNN.out (by have := HI.out; obtain ⟨j8, hj8⟩ := HX8.out; omega)
            have HSM7 := Aside0.mk hsm7
            clear hsm7
            go_wp2_with (first | (go_at_call 19; refine (Steps_c F7 g _ w7 HD7.out.1).mono ?_; rintro e w8 ⟨rfl, hw8⟩; refine of_halt ?_))
            unfold G.Halt
            obtain rfl := hw8.symm
            rw [show ((Dsk.write d (r3 : Int) (fl (IntKind.u8.wrap (i : Int)))).1).steps = (done + 1) from HD7.out.2.1.steps]
            go_wp2_with (first | (go_at_call 16; refine (Waits_c F7 g _ w7 HD7.out.1 HSM7.out).mono ?_; rintro e w9 ⟨v9, rfl, hR9, hb9⟩; refine of_halt ?_))
            unfold G.Halt
            obtain ⟨A9, c9, rfl⟩ := Kd.R_slice hR9
            rw [show (((Dsk.write d (r3 : Int) (fl (IntKind.u8.wrap (i : Int)))).1).waits.map fun q => ((q.1 : Nat) : Int)).length = (wt + 1) from (List.length_map _).trans HD7.out.2.1.waits]
            have HD9 := Aside0.mk (And.intro (HD7.out.1.below hb9) (And.intro HD7.out.2.1 (And.intro (HD7.out.2.2.1.then_below hb9) HD7.out.2.2.2)))
            clear hR9 hb9
            go_wp2
            go_roundg (gk - 1)
            case measure => have := HI.out; omega
            case rel => exact ⟨i + 1, (done + 1), (wt + 1), by first | rfl | simp, by first | rfl | simp, by rw [w3_], ⟨by have := HI.out; obtain ⟨j, hj⟩ := HX.out; obtain ⟨j8, hj8⟩ := HX8.out; omega⟩, ⟨F7, _, HD9.out⟩⟩
          · have f1 : decide ((done : Int) < (nn : Int)) = false := decide_eq_false (by omega)
            have f2 : ((done : Int) < (nn : Int)) = False := eq_false (by omega)
            have f3 : (done < nn) = False := eq_false hd
            have hz := HSt.out.write_no (by have := HSt.out.le; omega) r3 hr33 (fl (IntKind.u8.wrap (i : Int))) (fl_length _)
            have HS' := Aside0.mk hz
            clear hd hz
            go_wp2_with (first | (go_at_call 11; refine (filled_c (IntKind.u8.wrap (i : Int)) _).mono ?_; rintro e w6 ⟨g6, c6, rfl, hc6, hR6, hb6⟩; refine of_halt ?_))
            unfold G.Halt
            have HD6 := Aside0.mk (And.intro (HDd.out.below hb6) (And.intro (HFr.out.1.then_below hb6) (Kd.R_reads' hR6).2.2))
            clear hc6 hR6 hb6
            go_wp2_with (first | (go_at_call 12; refine (Write_c F' g d (r3 : Int) _ _ c6 (fl (IntKind.u8.wrap (i : Int))) w6 HD6.out.1 HSM.out HD6.out.2.2).mono ?_; rintro e w7 ⟨rfl, F7, hD7, hF7, hk7⟩; refine of_halt ?_))
            unfold G.Halt
            rw [HS'.out] at hD7
            rw [HS'.out]
            have hfr7 := (HD6.out.2.1).then_kp hk7 HFr.out.2
            have hcell7 := HCELL.out _ hfr7
            have HD7 := Aside0.mk (And.intro hD7 (And.intro HSt.out (And.intro hfr7 (show ∀ k, F7 k → w.heap.size ≤ k from fun k hk => (hF7 k hk).elim (HFr.out.2 k) (fun h => Nat.le_trans HD6.out.2.1.size h)))))
            clear hD7 hF7 hk7 hfr7
            have hsm7 := HD7.out.2.1.small HNN.out (by have := HI.out; obtain ⟨j8, hj8⟩ := HX8.out; omega)
            have HSM7 := Aside0.mk hsm7
            clear hsm7
            go_wp2_with (first | (go_at_call 19; refine (Steps_c F7 g _ w7 HD7.out.1).mono ?_; rintro e w8 ⟨rfl, hw8⟩; refine of_halt ?_))
            unfold G.Halt
            obtain rfl := hw8.symm
            rw [show (d).steps = done from HD7.out.2.1.steps]
            go_wp2_with (first | (go_at_call 16; refine (Waits_c F7 g _ w7 HD7.out.1 HSM7.out).mono ?_; rintro e w9 ⟨v9, rfl, hR9, hb9⟩; refine of_halt ?_))
            unfold G.Halt
            obtain ⟨A9, c9, rfl⟩ := Kd.R_slice hR9
            rw [show ((d).waits.map fun q => ((q.1 : Nat) : Int)).length = wt from (List.length_map _).trans HD7.out.2.1.waits]
            have HD9 := Aside0.mk (And.intro (HD7.out.1.below hb9) (And.intro HD7.out.2.1 (And.intro (HD7.out.2.2.1.then_below hb9) HD7.out.2.2.2)))
            clear hR9 hb9
            go_wp2
            go_roundg (gk - 1)
            case measure => have := HI.out; omega
            case rel => exact ⟨i + 1, done, wt, by first | rfl | simp, by first | rfl | simp, by rw [w3_], ⟨by have := HI.out; obtain ⟨j, hj⟩ := HX.out; obtain ⟨j8, hj8⟩ := HX8.out; omega⟩, ⟨F7, _, HD9.out⟩⟩
      · have e1 : ((i : Int) < (l1.length : Int)) = True := eq_true (by omega)
        have e2 : (i < l1.length) = True := eq_true hi
        have e3 : ((i : Int) < 80) = False := eq_false (by omega)
        have e3' : (i < 80) = False := eq_false hi80
        have HN8 := Aside0.mk (And.intro hi hi80)
        clear hi hi80
        go_wp2_with (first | (go_at_call 15; refine (Read_c F' g d 0 wr HDd.out (HSt.out.small HNN.out (by have := HI.out; omega))).mono ?_; rintro e w7 ⟨v7, rfl, hR7, hb7⟩; refine of_halt ?_))
        unfold G.Halt
        obtain ⟨A7, c7, rfl⟩ := Kd.R_slice hR7
        rw [HSt.out.read]
        have HB7 := Aside0.mk (HFr.out.1.then_below hb7)
        clear hR7 hb7
        by_cases hd : done = nn
        · have f1 : ((done : Int) == (nn : Int)) = true := by rw [hd]; simp
          have f2 : (done = nn) = True := eq_true hd
          rw [if_pos hd]
          clear hd
          go_wp2
          go_ret
          exact ⟨by first | rfl | simp, HB7.out.below⟩
        · have f1 : ((done : Int) == (nn : Int)) = false := by rw [beq_eq_false_iff_ne]; omega
          have f2 : (done = nn) = False := eq_false hd
          rw [if_neg hd]
          clear hd
          go_wp2
          go_ret
          exact ⟨by first | rfl | simp, HB7.out.below⟩
    · have e1 : ((i : Int) < (l1.length : Int)) = False := eq_false (by omega)
      have e2 : (i < l1.length) = False := eq_false hi
      clear hi
      go_wp2_with (first | (go_at_call 15; refine (Read_c F' g d 0 wr HDd.out (HSt.out.small HNN.out (by have := HI.out; omega))).mono ?_; rintro e w7 ⟨v7, rfl, hR7, hb7⟩; refine of_halt ?_))
      unfold G.Halt
      obtain ⟨A7, c7, rfl⟩ := Kd.R_slice hR7
      rw [HSt.out.read]
      have HB7 := Aside0.mk (HFr.out.1.then_below hb7)
      clear hR7 hb7
      by_cases hd : done = nn
      · have f1 : ((done : Int) == (nn : Int)) = true := by rw [hd]; simp
        have f2 : (done = nn) = True := eq_true hd
        rw [if_pos hd]
        clear hd
        go_wp2
        go_ret
        exact ⟨by first | rfl | simp, HB7.out.below⟩
      · have f1 : ((done : Int) == (nn : Int)) = false := by rw [beq_eq_false_iff_ne]; omega
        have f2 : (done = nn) = False := eq_false hd
        rw [if_neg hd]
        clear hd
        go_wp2
        go_ret
        exact ⟨by first | rfl | simp, HB7.out.below⟩
end Go.Proofs.Ytckbdckeijanlaa.X
