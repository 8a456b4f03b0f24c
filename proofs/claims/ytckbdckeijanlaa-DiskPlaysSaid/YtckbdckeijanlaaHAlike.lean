/- Chapter 17: Alike, over a disk and the reference's. By hand. -/
import Derived.Test.YtckbdckeijanlaaRefM
namespace Go.Proofs.Ytckbdckeijanlaa.G
open Go.RowKit Go.Shelf Go.Proofs.YtckbdckeijanlaaW.PrintWords Go.Proofs.YtckbdckeijanlaaW.PrintLast Go.Proofs.YtckbdckeijanlaaW.PrintMore Go.Proofs.Ytckbdckeijanlaa.Dsk
set_option linter.unusedVariables false
set_option linter.unusedSimpArgs false
theorem wrap_succ (j : Nat) (h : j < 9223372036854775807) : wrap64 ((j : Int) + 1) = ((j + 1 : Nat) : Int) := by unfold wrap64; omega
set_option maxHeartbeats 16000000 in
set_option maxRecDepth 100000 in
theorem Alike_c (F1 F2 : Nat → Prop) (g1 g2 : Nat) (d : Dk) (W : World) (h1 : Disk F1 g1 d W) (h2 : RDisk F2 g2 d W) (hs : Small d) :
    Calls Try.prog 25 #[.pointer (some ⟨g1, 0, none⟩), .pointer (some ⟨g2, 0, none⟩)] W fun e w' => e = .returned (.bool true) ∧ Below W.heap.size W w' := by
  obtain ⟨⟨gl, cl, wv, hM⟩, hF⟩ := h2
  obtain ⟨A, c, hwv, hwc, hwC⟩ := Kd.R_reads hM.waits
  rw [List.length_map] at hwv hwC hwc
  subst hwv
  have HD := Aside0.mk h1
  have HM := Aside0.mk hM
  have HF := Aside0.mk hF
  have HSM := Aside0.mk hs
  have HWC := Aside0.mk hwC
  clear h1 hM hF hs hwC hwc
  go_enter Try.func25, Try.ntmps25
  go_wp2_with (first | (go_at_call 16; refine (Waits_c F1 g1 d W HD.out HSM.out).mono ?_; rintro e w1 ⟨v1, rfl, hR1, hb1⟩; refine of_halt ?_))
  unfold G.Halt
  obtain ⟨A1, c1, rfl⟩ := Kd.R_slice hR1
  have hl1 : (d.waits.map fun q => ((q.1 : Nat) : Int)).length = d.waits.length := List.length_map _
  rw [hl1] at hR1
  rw [hl1]
  have HW1 := Aside0.mk (And.intro hR1 hb1)
  have HM1 := Aside0.mk (HM.out.below hb1)
  have HD1 := Aside0.mk (HD.out.below hb1)
  clear hR1 hb1 hl1
  obtain ⟨hc0, hc1, hc2, _⟩ := HM1.out.cells
  go_upto_region 2 with (fail)
  refine start_ (n := 27) (S := fun w' => w'.cell? ⟨g2, 0, none⟩ = some (.slice (some ⟨gl, 0, none⟩) d.lies.length cl) ∧ w'.cell? ⟨g2, 1, none⟩ = some (.slice A d.waits.length c) ∧ w'.cell? ⟨g2, 2, none⟩ = some (.int .i64 (d.steps : Int))) (ds := []) #[false, false, false, false, false, false, false, false, false, false, false, false, false, false, false, false, false, false, false, false, false, false, false, false, false, false, false] (by kernel_rfl) rfl rfl ⟨hc0, hc1, hc2⟩ (fun hHeld => ?_)
  refine pure_ (i := 0) (N := some 15) (v := ?_) (a' := ?_) #[true, false, false, false, false, false, false, false, false, false, false, false, false, false, false, false, false, false, false, false, false, false, false, false, false, false, false] rfl rfl (by kernel_rfl) (fun _ _ _ h => h) (Or.inl ⟨by rfl, ?_⟩) ?_ ?_
  rotate_left
  · intro w'
    go_simp
    with_reducible rfl
  rotate_left
  · simp only [Act.put, List.setIfInBounds_toArray, List.set_cons_zero, List.set_cons_succ, i64_w, i32_w]
    rfl
  refine pure_ (i := 2) (N := some 17) (v := ?_) (a' := ?_) #[true, false, true, false, false, false, false, false, false, false, false, false, false, false, false, false, false, false, false, false, false, false, false, false, false, false, false] rfl rfl (by kernel_rfl) (fun _ _ _ h => h) (Or.inl ⟨by rfl, ?_⟩) ?_ ?_
  rotate_left
  · intro w'
    go_simp
    with_reducible rfl
  rotate_left
  · simp only [Act.put, List.setIfInBounds_toArray, List.set_cons_zero, List.set_cons_succ, i64_w, i32_w]
    rfl
  refine pure_ (i := 3) (N := some 18) (v := ?_) (a' := ?_) #[true, false, true, true, false, false, false, false, false, false, false, false, false, false, false, false, false, false, false, false, false, false, false, false, false, false, false] rfl rfl (by kernel_rfl) (fun _ _ _ h => h) (Or.inl ⟨by rfl, ?_⟩) ?_ ?_
  rotate_left
  · intro w'
    go_simp
    with_reducible rfl
  rotate_left
  · simp only [Act.put, List.setIfInBounds_toArray, List.set_cons_zero, List.set_cons_succ, i64_w, i32_w]
    rfl
  refine pure_ (i := 4) (N := some 19) (v := ?_) (a' := ?_) #[true, false, true, true, true, false, false, false, false, false, false, false, false, false, false, false, false, false, false, false, false, false, false, false, false, false, false] rfl rfl (by kernel_rfl) (fun _ _ _ h => h) (Or.inl ⟨by rfl, ?_⟩) ?_ ?_
  rotate_left
  · intro w'
    go_simp
    with_reducible rfl
  rotate_left
  · simp only [Act.put, List.setIfInBounds_toArray, List.set_cons_zero, List.set_cons_succ, i64_w, i32_w]
    rfl
  refine take_ (i := 5) (N := some 20) (v := ?_) (a' := ?_) #[true, false, true, true, true, true, false, false, false, false, false, false, false, false, false, false, false, false, false, false, false, false, false, false, false, false, false] rfl rfl (by kernel_rfl) (fun _ _ _ h => h) (Or.inl ⟨by rfl, ?_⟩) hHeld ?_ ?_
  rotate_left
  · rintro w' ⟨s0, s1, s2⟩
    go_simp
    with_reducible rfl
  rotate_left
  · simp only [Act.put, List.setIfInBounds_toArray, List.set_cons_zero, List.set_cons_succ, i64_w, i32_w]
    rfl
  refine pure_ (i := 6) (N := some 21) (v := ?_) (a' := ?_) #[true, false, true, true, true, true, true, false, false, false, false, false, false, false, false, false, false, false, false, false, false, false, false, false, false, false, false] rfl rfl (by kernel_rfl) (fun _ _ _ h => h) (Or.inl ⟨by rfl, ?_⟩) ?_ ?_
  rotate_left
  · intro w'
    go_simp
    with_reducible rfl
  rotate_left
  · simp only [Act.put, List.setIfInBounds_toArray, List.set_cons_zero, List.set_cons_succ, i64_w, i32_w]
    rfl
  refine one_ (i := 1) (N := some 16) #[true, true, true, true, true, true, true, false, false, false, false, false, false, false, false, false, false, false, false, false, false, false, false, false, false, false, false] rfl rfl (by kernel_rfl) (by decide) (fun K hK => ?_)
  refine goes_ Try.func21 (by kernel_rfl) rfl #[.pointer (some ⟨g1, 0, none⟩)] (by rfl) rfl rfl (by simp only [List.map_toArray, List.map_cons, List.map_nil]; rfl) ?_
  with_reducible refine (Sectors_c F1 g1 d _ (HD1.out.below (below_drew (Below.refl _ _)))).mono ?_
  rintro e w5 ⟨rfl, rfl⟩
  refine ⟨_, rfl, ?_⟩
  refine hK.out _ _ ⟨hHeld.1, hHeld.2.1, hHeld.2.2⟩ (fun hHeld => ?_)
  clear hK K
  refine norm_ (a' := ?_) ?_ ?_
  rotate_left
  · show Act.put _ (some 16) _ = _
    simp only [Act.put, List.setIfInBounds_toArray, List.set_cons_zero, List.set_cons_succ, i64_w, i32_w]
    rfl
  refine pure_ (i := 7) (N := some 22) (v := ?_) (a' := ?_) #[true, true, true, true, true, true, true, true, false, false, false, false, false, false, false, false, false, false, false, false, false, false, false, false, false, false, false] rfl rfl (by kernel_rfl) (fun _ _ _ h => h) (Or.inl ⟨by rfl, ?_⟩) ?_ ?_
  rotate_left
  · intro w'
    go_simp
    with_reducible rfl
  rotate_left
  · simp only [Act.put, List.setIfInBounds_toArray, List.set_cons_zero, List.set_cons_succ, i64_w, i32_w]
    rfl
  refine pure_ (i := 8) (N := some 23) (v := ?_) (a' := ?_) #[true, true, true, true, true, true, true, true, true, false, false, false, false, false, false, false, false, false, false, false, false, false, false, false, false, false, false] rfl rfl (by kernel_rfl) (fun _ _ _ h => h) (Or.inl ⟨by rfl, ?_⟩) ?_ ?_
  rotate_left
  · intro w'
    go_simp
    with_reducible rfl
  rotate_left
  · simp only [Act.put, List.setIfInBounds_toArray, List.set_cons_zero, List.set_cons_succ, i64_w, i32_w]
    rfl
  refine pure_ (i := 9) (N := some 24) (v := ?_) (a' := ?_) #[true, true, true, true, true, true, true, true, true, true, false, false, false, false, false, false, false, false, false, false, false, false, false, false, false, false, false] rfl rfl (by kernel_rfl) (fun _ _ _ h => h) (Or.inl ⟨by rfl, ?_⟩) ?_ ?_
  rotate_left
  · intro w'
    go_simp
    with_reducible rfl
  rotate_left
  · simp only [Act.put, List.setIfInBounds_toArray, List.set_cons_zero, List.set_cons_succ, i64_w, i32_w]
    rfl
  refine pure_ (i := 10) (N := some 25) (v := ?_) (a' := ?_) #[true, true, true, true, true, true, true, true, true, true, true, false, false, false, false, false, false, false, false, false, false, false, false, false, false, false, false] rfl rfl (by kernel_rfl) (fun _ _ _ h => h) (Or.inl ⟨by rfl, ?_⟩) ?_ ?_
  rotate_left
  · intro w'
    go_simp
    with_reducible rfl
  rotate_left
  · simp only [Act.put, List.setIfInBounds_toArray, List.set_cons_zero, List.set_cons_succ, i64_w, i32_w]
    rfl
  refine pure_ (i := 11) (N := some 26) (v := ?_) (a' := ?_) #[true, true, true, true, true, true, true, true, true, true, true, true, false, false, false, false, false, false, false, false, false, false, false, false, false, false, false] rfl rfl (by kernel_rfl) (fun _ _ _ h => h) (Or.inl ⟨by rfl, ?_⟩) ?_ ?_
  rotate_left
  · intro w'
    go_simp
    with_reducible rfl
  rotate_left
  · simp only [Act.put, List.setIfInBounds_toArray, List.set_cons_zero, List.set_cons_succ, i64_w, i32_w]
    rfl
  refine pure_ (i := 12) (N := some 27) (v := ?_) (a' := ?_) #[true, true, true, true, true, true, true, true, true, true, true, true, true, false, false, false, false, false, false, false, false, false, false, false, false, false, false] rfl rfl (by kernel_rfl) (fun _ _ _ h => h) (Or.inl ⟨by rfl, ?_⟩) ?_ ?_
  rotate_left
  · intro w'
    go_simp
    with_reducible rfl
  rotate_left
  · simp only [Act.put, List.setIfInBounds_toArray, List.set_cons_zero, List.set_cons_succ, i64_w, i32_w]
    rfl
  refine pure_ (i := 13) (N := some 28) (v := ?_) (a' := ?_) #[true, true, true, true, true, true, true, true, true, true, true, true, true, true, false, false, false, false, false, false, false, false, false, false, false, false, false] rfl rfl (by kernel_rfl) (fun _ _ _ h => h) (Or.inl ⟨by rfl, ?_⟩) ?_ ?_
  rotate_left
  · intro w'
    go_simp
    with_reducible rfl
  rotate_left
  · simp only [Act.put, List.setIfInBounds_toArray, List.set_cons_zero, List.set_cons_succ, i64_w, i32_w]
    rfl
  refine take_ (i := 14) (N := some 29) (v := ?_) (a' := ?_) #[true, true, true, true, true, true, true, true, true, true, true, true, true, true, true, false, false, false, false, false, false, false, false, false, false, false, false] rfl rfl (by kernel_rfl) (fun _ _ _ h => h) (Or.inl ⟨by rfl, ?_⟩) hHeld ?_ ?_
  rotate_left
  · rintro w' ⟨s0, s1, s2⟩
    go_simp
    with_reducible rfl
  rotate_left
  · simp only [Act.put, List.setIfInBounds_toArray, List.set_cons_zero, List.set_cons_succ, i64_w, i32_w]
    rfl
  refine pure_ (i := 15) (N := some 30) (v := ?_) (a' := ?_) #[true, true, true, true, true, true, true, true, true, true, true, true, true, true, true, true, false, false, false, false, false, false, false, false, false, false, false] rfl rfl (by kernel_rfl) (fun _ _ _ h => h) (Or.inl ⟨by rfl, ?_⟩) ?_ ?_
  rotate_left
  · intro w'
    go_simp
    with_reducible rfl
  rotate_left
  · simp only [Act.put, List.setIfInBounds_toArray, List.set_cons_zero, List.set_cons_succ, i64_w, i32_w]
    rfl
  refine pure_ (i := 16) (N := some 31) (v := ?_) (a' := ?_) #[true, true, true, true, true, true, true, true, true, true, true, true, true, true, true, true, true, false, false, false, false, false, false, false, false, false, false] rfl rfl (by kernel_rfl) (fun _ _ _ h => h) (Or.inl ⟨by rfl, ?_⟩) ?_ ?_
  rotate_left
  · intro w'
    go_simp
    with_reducible rfl
  rotate_left
  · simp only [Act.put, List.setIfInBounds_toArray, List.set_cons_zero, List.set_cons_succ, i64_w, i32_w]
    rfl
  refine pure_ (i := 17) (N := some 32) (v := ?_) (a' := ?_) #[true, true, true, true, true, true, true, true, true, true, true, true, true, true, true, true, true, true, false, false, false, false, false, false, false, false, false] rfl rfl (by kernel_rfl) (fun _ _ _ h => h) (Or.inl ⟨by rfl, ?_⟩) ?_ ?_
  rotate_left
  · intro w'
    go_simp
    with_reducible rfl
  rotate_left
  · simp only [Act.put, List.setIfInBounds_toArray, List.set_cons_zero, List.set_cons_succ, i64_w, i32_w]
    rfl
  refine pure_ (i := 18) (N := some 33) (v := ?_) (a' := ?_) #[true, true, true, true, true, true, true, true, true, true, true, true, true, true, true, true, true, true, true, false, false, false, false, false, false, false, false] rfl rfl (by kernel_rfl) (fun _ _ _ h => h) (Or.inl ⟨by rfl, ?_⟩) ?_ ?_
  rotate_left
  · intro w'
    go_simp
    with_reducible rfl
  rotate_left
  · simp only [Act.put, List.setIfInBounds_toArray, List.set_cons_zero, List.set_cons_succ, i64_w, i32_w]
    rfl
  refine pure_ (i := 19) (N := some 34) (v := ?_) (a' := ?_) #[true, true, true, true, true, true, true, true, true, true, true, true, true, true, true, true, true, true, true, true, false, false, false, false, false, false, false] rfl rfl (by kernel_rfl) (fun _ _ _ h => h) (Or.inl ⟨by rfl, ?_⟩) ?_ ?_
  rotate_left
  · intro w'
    go_simp
    with_reducible rfl
  rotate_left
  · simp only [Act.put, List.setIfInBounds_toArray, List.set_cons_zero, List.set_cons_succ, i64_w, i32_w]
    rfl
  refine pure_ (i := 21) (N := some 36) (v := ?_) (a' := ?_) #[true, true, true, true, true, true, true, true, true, true, true, true, true, true, true, true, true, true, true, true, false, true, false, false, false, false, false] rfl rfl (by kernel_rfl) (fun _ _ _ h => h) (Or.inl ⟨by rfl, ?_⟩) ?_ ?_
  rotate_left
  · intro w'
    go_simp
    with_reducible rfl
  rotate_left
  · simp only [Act.put, List.setIfInBounds_toArray, List.set_cons_zero, List.set_cons_succ, i64_w, i32_w]
    rfl
  refine pure_ (i := 22) (N := some 37) (v := ?_) (a' := ?_) #[true, true, true, true, true, true, true, true, true, true, true, true, true, true, true, true, true, true, true, true, false, true, true, false, false, false, false] rfl rfl (by kernel_rfl) (fun _ _ _ h => h) (Or.inl ⟨by rfl, ?_⟩) ?_ ?_
  rotate_left
  · intro w'
    go_simp
    with_reducible rfl
  rotate_left
  · simp only [Act.put, List.setIfInBounds_toArray, List.set_cons_zero, List.set_cons_succ, i64_w, i32_w]
    rfl
  refine pure_ (i := 23) (N := some 38) (v := ?_) (a' := ?_) #[true, true, true, true, true, true, true, true, true, true, true, true, true, true, true, true, true, true, true, true, false, true, true, true, false, false, false] rfl rfl (by kernel_rfl) (fun _ _ _ h => h) (Or.inl ⟨by rfl, ?_⟩) ?_ ?_
  rotate_left
  · intro w'
    go_simp
    with_reducible rfl
  rotate_left
  · simp only [Act.put, List.setIfInBounds_toArray, List.set_cons_zero, List.set_cons_succ, i64_w, i32_w]
    rfl
  refine take_ (i := 24) (N := some 39) (v := ?_) (a' := ?_) #[true, true, true, true, true, true, true, true, true, true, true, true, true, true, true, true, true, true, true, true, false, true, true, true, true, false, false] rfl rfl (by kernel_rfl) (fun _ _ _ h => h) (Or.inl ⟨by rfl, ?_⟩) hHeld ?_ ?_
  rotate_left
  · rintro w' ⟨s0, s1, s2⟩
    go_simp
    with_reducible rfl
  rotate_left
  · simp only [Act.put, List.setIfInBounds_toArray, List.set_cons_zero, List.set_cons_succ, i64_w, i32_w]
    rfl
  refine one_ (i := 20) (N := some 35) #[true, true, true, true, true, true, true, true, true, true, true, true, true, true, true, true, true, true, true, true, true, true, true, true, true, false, false] rfl rfl (by kernel_rfl) (by decide) (fun K hK => ?_)
  refine goes_ Try.func19 (by kernel_rfl) rfl #[.pointer (some ⟨g1, 0, none⟩)] (by rfl) rfl rfl (by simp only [List.map_toArray, List.map_cons, List.map_nil]; rfl) ?_
  with_reducible refine (Steps_c F1 g1 d _ (HD1.out.below (below_drew (Below.refl _ _)))).mono ?_
  rintro e w6 ⟨rfl, rfl⟩
  refine ⟨_, rfl, ?_⟩
  refine hK.out _ _ ⟨hHeld.1, hHeld.2.1, hHeld.2.2⟩ (fun hHeld => ?_)
  clear hK K
  refine norm_ (a' := ?_) ?_ ?_
  rotate_left
  · show Act.put _ (some 35) _ = _
    simp only [Act.put, List.setIfInBounds_toArray, List.set_cons_zero, List.set_cons_succ, i64_w, i32_w]
    rfl
  refine pure_ (i := 25) (N := some 40) (v := ?_) (a' := ?_) #[true, true, true, true, true, true, true, true, true, true, true, true, true, true, true, true, true, true, true, true, true, true, true, true, true, true, false] rfl rfl (by kernel_rfl) (fun _ _ _ h => h) (Or.inl ⟨by rfl, ?_⟩) ?_ ?_
  rotate_left
  · intro w'
    go_simp
    with_reducible rfl
  rotate_left
  · simp only [Act.put, List.setIfInBounds_toArray, List.set_cons_zero, List.set_cons_succ, i64_w, i32_w]
    rfl
  refine pure_ (i := 26) (N := some 41) (v := ?_) (a' := ?_) #[true, true, true, true, true, true, true, true, true, true, true, true, true, true, true, true, true, true, true, true, true, true, true, true, true, true, true] rfl rfl (by kernel_rfl) (fun _ _ _ h => h) (Or.inl ⟨by rfl, ?_⟩) ?_ ?_
  rotate_left
  · intro w'
    go_simp
    with_reducible rfl
  rotate_left
  · simp only [Act.put, List.setIfInBounds_toArray, List.set_cons_zero, List.set_cons_succ, i64_w, i32_w]
    rfl
  refine done_ (by kernel_rfl) ?_
  clear hc0 hc1 hc2
  go_wp2
  go_loopg [44] (d.waits.length + 1) (fun kq v44 w' => ∃ i : Nat, v44 = .int .i64 (i : Int) ∧ Aside0 (i ≤ d.waits.length ∧ kq + i = d.waits.length + 1) ∧ Aside0 (Below w1.heap.size w1 w'))
  case atStart => exact ⟨0, rfl, ⟨by omega⟩, ⟨below_drew (Below.refl _ _)⟩⟩
  case round =>
    obtain ⟨i, rfl, HI, HB⟩ := hrel
    by_cases hi : i < d.waits.length
    · have e1 : ((i : Int) < (d.waits.length : Int)) = True := eq_true (by omega)
      have e2 : (i < d.waits.length) = True := eq_true hi
      obtain ⟨x, hx⟩ : ∃ x, d.waits[i]? = some x := ⟨_, List.getElem?_eq_getElem hi⟩
      obtain ⟨hc0, hc1, hc2, _⟩ := (HM1.out.below HB.out).cells
      obtain ⟨ad, hA, _⟩ := HWC.out.2.2 (by omega)
      subst hA
      have hB0 : Below W.heap.size W wr := HW1.out.2.trans (HB.out.mono HW1.out.2.size)
      obtain ⟨q0, _⟩ := rwt_at (Kd.C_below HWC.out hB0) i hi (encR x) (by rw [List.getElem?_map, hx]; rfl)
      have q0' : wr.cell? (ad.add (i * 2)) = some (.int .i64 ((x.1 : Nat) : Int)) := q0
      obtain ⟨ad1, hA1, hca⟩ := (Kd.C_below (Kd.R_reads' HW1.out.1).2.2 HB.out).2.2 (by rw [List.length_map]; omega)
      subst hA1
      have hcell : wr.cell? (ad1.add i) = some (.int .i64 ((x.1 : Nat) : Int)) := by
        obtain ⟨cb, p1, p2, p3⟩ := hca i ((x.1 : Nat) : Int) (by rw [List.getElem?_map, hx]; rfl)
        have p2' : cb = [.int .i64 ((x.1 : Nat) : Int)] := p2
        subst p2'
        have := p3 0 _ rfl
        simpa [Kd.int, Kd.scalar] using this
      have w3_ : wrap64 ((i : Int) + 1) = ((i + 1 : Nat) : Int) := by have := HSM.out.waits; unfold wrap64; omega
      have HX := Aside0.mk (show ∃ j, i + 1 + j = d.waits.length from ⟨d.waits.length - (i + 1), by omega⟩)
      clear hi hx q0 hca hB0
      go_upto_region 7 with (fail)
      refine start_ (n := 13) (S := fun w' => w'.cell? (ad1.add i) = some (.int .i64 ((x.1 : Nat) : Int)) ∧ w'.cell? ⟨g2, 1, none⟩ = some (.slice (some ad) d.waits.length c) ∧ w'.cell? (ad.add (i * 2)) = some (.int .i64 ((x.1 : Nat) : Int))) (ds := []) #[false, false, false, false, false, false, false, false, false, false, false, false, false] (by kernel_rfl) rfl rfl ⟨hcell, hc1, q0'⟩ (fun hHeld => ?_)
      refine pure_ (i := 0) (N := some 47) (v := ?_) (a' := ?_) #[true, false, false, false, false, false, false, false, false, false, false, false, false] rfl rfl (by kernel_rfl) (fun _ _ _ h => h) (Or.inl ⟨by rfl, ?_⟩) ?_ ?_
      rotate_left
      · intro w'
        go_simp
        with_reducible rfl
      rotate_left
      · simp only [Act.put, List.setIfInBounds_toArray, List.set_cons_zero, List.set_cons_succ, i64_w, i32_w]
        rfl
      refine pure_ (i := 1) (N := some 48) (v := ?_) (a' := ?_) #[true, true, false, false, false, false, false, false, false, false, false, false, false] rfl rfl (by kernel_rfl) (fun _ _ _ h => h) (Or.inl ⟨by rfl, ?_⟩) ?_ ?_
      rotate_left
      · intro w'
        go_simp
        with_reducible rfl
      rotate_left
      · simp only [Act.put, List.setIfInBounds_toArray, List.set_cons_zero, List.set_cons_succ, i64_w, i32_w]
        rfl
      refine pure_ (i := 2) (N := some 49) (v := ?_) (a' := ?_) #[true, true, true, false, false, false, false, false, false, false, false, false, false] rfl rfl (by kernel_rfl) (fun _ _ _ h => h) (Or.inl ⟨by rfl, ?_⟩) ?_ ?_
      rotate_left
      · intro w'
        go_simp
        with_reducible rfl
      rotate_left
      · simp only [Act.put, List.setIfInBounds_toArray, List.set_cons_zero, List.set_cons_succ, i64_w, i32_w]
        rfl
      refine pure_ (i := 4) (N := some 51) (v := ?_) (a' := ?_) #[true, true, true, false, true, false, false, false, false, false, false, false, false] rfl rfl (by kernel_rfl) (fun _ _ _ h => h) (Or.inl ⟨by rfl, ?_⟩) ?_ ?_
      rotate_left
      · intro w'
        go_simp
        with_reducible rfl
      rotate_left
      · simp only [Act.put, List.setIfInBounds_toArray, List.set_cons_zero, List.set_cons_succ, i64_w, i32_w]
        rfl
      refine pure_ (i := 5) (N := some 52) (v := ?_) (a' := ?_) #[true, true, true, false, true, true, false, false, false, false, false, false, false] rfl rfl (by kernel_rfl) (fun _ _ _ h => h) (Or.inl ⟨by rfl, ?_⟩) ?_ ?_
      rotate_left
      · intro w'
        go_simp
        with_reducible rfl
      rotate_left
      · simp only [Act.put, List.setIfInBounds_toArray, List.set_cons_zero, List.set_cons_succ, i64_w, i32_w]
        rfl
      refine pure_ (i := 6) (N := some 53) (v := ?_) (a' := ?_) #[true, true, true, false, true, true, true, false, false, false, false, false, false] rfl rfl (by kernel_rfl) (fun _ _ _ h => h) (Or.inl ⟨by rfl, ?_⟩) ?_ ?_
      rotate_left
      · intro w'
        go_simp
        with_reducible rfl
      rotate_left
      · simp only [Act.put, List.setIfInBounds_toArray, List.set_cons_zero, List.set_cons_succ, i64_w, i32_w]
        rfl
      refine pure_ (i := 8) (N := some 55) (v := ?_) (a' := ?_) #[true, true, true, false, true, true, true, false, true, false, false, false, false] rfl rfl (by kernel_rfl) (fun _ _ _ h => h) (Or.inl ⟨by rfl, ?_⟩) ?_ ?_
      rotate_left
      · intro w'
        go_simp
        with_reducible rfl
      rotate_left
      · simp only [Act.put, List.setIfInBounds_toArray, List.set_cons_zero, List.set_cons_succ, i64_w, i32_w]
        rfl
      refine take_ (i := 3) (N := some 50) (v := ?_) (a' := ?_) #[true, true, true, true, true, true, true, false, true, false, false, false, false] rfl rfl (by kernel_rfl) (fun _ _ _ h => h) (Or.inl ⟨by rfl, ?_⟩) hHeld ?_ ?_
      rotate_left
      · rintro w' ⟨s0, s1, s2⟩
        go_simp
        with_reducible rfl
      rotate_left
      · simp only [Act.put, List.setIfInBounds_toArray, List.set_cons_zero, List.set_cons_succ, i64_w, i32_w]
        rfl
      refine take_ (i := 7) (N := some 54) (v := ?_) (a' := ?_) #[true, true, true, true, true, true, true, true, true, false, false, false, false] rfl rfl (by kernel_rfl) (fun _ _ _ h => h) (Or.inl ⟨by rfl, ?_⟩) hHeld ?_ ?_
      rotate_left
      · rintro w' ⟨s0, s1, s2⟩
        go_simp
        with_reducible rfl
      rotate_left
      · simp only [Act.put, List.setIfInBounds_toArray, List.set_cons_zero, List.set_cons_succ, i64_w, i32_w]
        rfl
      refine pure_ (i := 9) (N := some 56) (v := ?_) (a' := ?_) #[true, true, true, true, true, true, true, true, true, true, false, false, false] rfl rfl (by kernel_rfl) (fun _ _ _ h => h) (Or.inl ⟨by rfl, ?_⟩) ?_ ?_
      rotate_left
      · intro w'
        go_simp
        with_reducible rfl
      rotate_left
      · simp only [Act.put, List.setIfInBounds_toArray, List.set_cons_zero, List.set_cons_succ, i64_w, i32_w]
        rfl
      refine pure_ (i := 10) (N := some 57) (v := ?_) (a' := ?_) #[true, true, true, true, true, true, true, true, true, true, true, false, false] rfl rfl (by kernel_rfl) (fun _ _ _ h => h) (Or.inl ⟨by rfl, ?_⟩) ?_ ?_
      rotate_left
      · intro w'
        go_simp
        with_reducible rfl
      rotate_left
      · simp only [Act.put, List.setIfInBounds_toArray, List.set_cons_zero, List.set_cons_succ, i64_w, i32_w]
        rfl
      refine take_ (i := 11) (N := some 58) (v := ?_) (a' := ?_) #[true, true, true, true, true, true, true, true, true, true, true, true, false] rfl rfl (by kernel_rfl) (fun _ _ _ h => h) (Or.inl ⟨by rfl, ?_⟩) hHeld ?_ ?_
      rotate_left
      · rintro w' ⟨s0, s1, s2⟩
        go_simp
        with_reducible rfl
      rotate_left
      · simp only [Act.put, List.setIfInBounds_toArray, List.set_cons_zero, List.set_cons_succ, i64_w, i32_w]
        rfl
      refine pure_ (i := 12) (N := some 59) (v := ?_) (a' := ?_) #[true, true, true, true, true, true, true, true, true, true, true, true, true] rfl rfl (by kernel_rfl) (fun _ _ _ h => h) (Or.inl ⟨by rfl, ?_⟩) ?_ ?_
      rotate_left
      · intro w'
        go_simp
        with_reducible rfl
      rotate_left
      · simp only [Act.put, List.setIfInBounds_toArray, List.set_cons_zero, List.set_cons_succ, i64_w, i32_w]
        rfl
      refine done_ (by kernel_rfl) ?_
      go_wp2
      go_roundg (gk - 1)
      case measure => have := HI.out; omega
      case rel => exact ⟨i + 1, by first | rw [w3_] | rfl | simp, ⟨by have := HI.out; obtain ⟨j, hj⟩ := HX.out; omega⟩, ⟨HB.out.trans (Below.mono (below_drew (Below.refl _ _)) HB.out.size)⟩⟩
    · obtain rfl : i = d.waits.length := by have := HI.out; omega
      have hB0 : Below W.heap.size W wr := HW1.out.2.trans (HB.out.mono HW1.out.2.size)
      have HB0 := Aside0.mk hB0
      clear hi hB0
      go_wp2
      go_loopg [7] (d.lies.length + 3) (fun kq v7 w' => ∃ i : Nat, v7 = .int .i64 ((i : Int) - 1) ∧ Aside0 (i ≤ d.lies.length + 2 ∧ kq + i = d.lies.length + 3) ∧ Aside0 (Below W.heap.size W w'))
      case atStart => exact ⟨0, rfl, ⟨by omega⟩, HB0⟩
      case round =>
        clear HB HB0
        obtain ⟨i, rfl, HI, HB⟩ := hrel
        obtain ⟨hc0, hc1, hc2, _⟩ := (HM.out.below HB.out).cells
        by_cases hi : (i : Int) - 1 ≤ (d.lies.length : Int)
        · have e1 : decide ((i : Int) - 1 ≤ (d.lies.length : Int)) = true := decide_eq_true hi
          have e2 : ((i : Int) - 1 ≤ (d.lies.length : Int)) = True := eq_true hi
          have w3_ : wrap64 ((i : Int) - 1 + 1) = ((i + 1 : Nat) : Int) - 1 := by have := HSM.out.lies; have := HI.out; unfold wrap64; omega
          have w5_ : wrap64 (i : Int) = (i : Int) := by have := HSM.out.lies; have := HI.out; unfold wrap64; omega
          have HX := Aside0.mk (show ∃ j, i + j = d.lies.length + 1 from ⟨d.lies.length + 1 - i, by omega⟩)
          clear hi
          obtain ⟨⟨xs, er⟩, hr⟩ : ∃ r, Dsk.read d ((i : Int) - 1) = r := ⟨_, rfl⟩
          go_wp2_with (first | (go_at_call 15; refine (Read_c F1 g1 d ((i : Int) - 1) wr (HD.out.below HB.out) HSM.out).mono ?_; rintro e w2 ⟨v2, rfl, hR2, hb2⟩; refine of_halt ?_))
          unfold G.Halt
          rw [hr] at hR2
          try rw [hr]
          have hR2 : Kd.R (Kd.int .u8) 5 w2 wr.heap.size (fun _ => True) v2 xs := hR2
          obtain ⟨A2, c2, rfl⟩ := Kd.R_slice hR2
          have HR2 := Aside0.mk (And.intro hR2 (HB.out.trans (hb2.mono HB.out.size)))
          clear hR2 hb2 hc0 hc1 hc2
          go_wp2_with (first | (go_at_call 36; refine (RRead_c F2 g2 d ((i : Int) - 1) w2 ⟨⟨gl, cl, _, HM.out.below HR2.out.2⟩, fun k hk => Nat.lt_of_lt_of_le (HF.out k hk) HR2.out.2.size⟩ HSM.out.waits).mono ?_; rintro e w3 ⟨rfl, hb3⟩; refine of_halt ?_))
          unfold G.Halt
          try rw [hr]
          have HR3 := Aside0.mk (And.intro (Kd.R_below HR2.out.1 hb3) (HR2.out.2.trans (hb3.mono HR2.out.2.size)))
          have hcv := Kd.C_string (P := Try.prog) (src := 22) (dst := 9) Try.underlying22 Try.underlying5 Try.underlying9 (c := c2) (Kd.R_reads' HR3.out.1).2.2
          have hmax : xs.length ≤ 9223372036854775807 := Kd.C_max (Kd.R_reads' HR3.out.1).2.2
          have HMX := Aside0.mk hmax
          have HWR := Aside0.mk HB.out.size
          clear hb3 hr hmax HB
          go_wp2
          clear hcv
          obtain ⟨gko, hgko⟩ : ∃ q, q = gk := ⟨_, rfl⟩
          subst hgko
          go_loopg [93] (xs.length + 1) (fun kq v93 w' => ∃ j : Nat, v93 = .int .i64 (j : Int) ∧ Aside0 (j ≤ xs.length ∧ kq + j = xs.length + 1) ∧ Aside0 (∃ ys : List Int, ys.length = xs.length ∧ Kd.R (Kd.int .u8) 5 w' wr.heap.size (fun _ => True) (.slice A2 xs.length c2) ys ∧ Below W.heap.size W w'))
          case atStart => exact ⟨0, rfl, ⟨by omega⟩, ⟨xs, rfl, HR3.out⟩⟩
          case round =>
            obtain ⟨j, rfl, HJ, HY⟩ := hrel
            by_cases hj : j < xs.length
            · obtain ⟨ys, hyl, hyR, hyB⟩ := HY.out
              obtain ⟨gy, cy, hv, _⟩ := Kd.R_form hyR (by omega)
              injection hv with hA2 hn2 hc2
              clear hn2 hc2
              subst hA2
              have hcz := Kd.R_celln (d := (0 : Int)) (enc := Value.int .u8) (h1 := fun _ => rfl) hyR (j : Int) (by omega) (by omega)
              rw [Int.toNat_natCast] at hcz
              obtain ⟨yv, hyv⟩ : ∃ yv, rdOf (0 : Int) ys (j : Int) = yv := ⟨_, rfl⟩
              rw [hyv] at hcz
              obtain ⟨hc, hz⟩ := hcz
              have e5 : ((j : Int) < (xs.length : Int)) = True := eq_true (by omega)
              have e6 : (j < xs.length) = True := eq_true hj
              have w4_ : wrap64 ((j : Int) + 1) = ((j + 1 : Nat) : Int) := wrap_succ j (Nat.lt_of_lt_of_le hj HMX.out)
              have HXJ := Aside0.mk (show ∃ q, j + 1 + q = xs.length from ⟨xs.length - (j + 1), Nat.add_sub_of_le hj⟩)
              have HYY := Aside0.mk (And.intro hyl (And.intro hyR hyB))
              clear HY hyl hyR hyB hj hyv
              go_wp2
              go_roundg (gk - 1)
              case measure => have := HJ.out; omega
              case rel => exact ⟨j + 1, by first | rw [w4_] | rfl | simp, ⟨by have := HJ.out; obtain ⟨q, hq⟩ := HXJ.out; omega⟩, ⟨ys.set j _, by rw [List.length_set]; exact HYY.out.1, Kd.R_putn (enc := Value.int .u8) (h1 := fun _ => rfl) HYY.out.2.1 (j : Int) _, below_set HYY.out.2.2 (Nat.le_trans HWR.out (Kd.R_base HYY.out.2.1 _ rfl))⟩⟩
            · obtain ⟨ys, hyl, hyR, hyB⟩ := HY.out
              have HYB := Aside0.mk hyB
              have e5 : ((j : Int) < (xs.length : Int)) = False := eq_false (by omega)
              have e6 : (j < xs.length) = False := eq_false hj
              clear HY hyl hyR hyB hj
              go_wp2
              go_roundg (gko - 1)
              case measure => have := HI.out; omega
              case rel => exact ⟨i + 1, by first | rw [w3_] | (rw [w5_]; simp) | simp [w5_] | rfl, ⟨by have := HI.out; obtain ⟨q, hq⟩ := HX.out; omega⟩, HYB⟩
        · have e1 : decide ((i : Int) - 1 ≤ (d.lies.length : Int)) = false := decide_eq_false hi
          have e2 : ((i : Int) - 1 ≤ (d.lies.length : Int)) = False := eq_false hi
          clear hi
          go_wp2
          go_ret
          exact ⟨rfl, HB.out⟩
end Go.Proofs.Ytckbdckeijanlaa.G
