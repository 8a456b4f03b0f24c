/- The chapter's examples, walked. By hand. -/
import Derived.Test.YteldofimjklckaaSeqM
import Derived.Test.YteldofimjklckaaIntsT
namespace Go.Proofs.Yteldofimjklckaa.G
open Go.RowKit Go.Proofs.Yteldofimjklckaa.X Go.Proofs.YteldofimjklckaaW.PrintWords Go.Proofs.YteldofimjklckaaW.PrintLast Go.Proofs.YteldofimjklckaaW.PrintMore Go.Proofs.Yteldofimjklckaa.Exp Go.Proofs.Yteldofimjklckaa.Run Go.Proofs.Yteldofimjklckaa.Iso
set_option linter.unusedVariables false
set_option linter.unusedSimpArgs false

def wS0 : S36 := ⟨[0, 1, 3, 4], 0, 1, 1⟩
def wS1 : S36 := ⟨[2], 1, 2, 2⟩
theorem works_levels : ∃ k, runs_Levels.f k [0, 0, -1, 0, 1, 1, 0] = some [[0, 1, 3], [4, 5], [6]] := by
  have h1 : levI [0, 0, -1, 0, 1, 1, 0] 7 = [[0, 1, 3], [4, 5], [6]] := by decide +kernel
  have := Ev.rounds (Levels_ev [0, 0, -1, 0, 1, 1, 0] (by decide))
  rwa [show ([0, 0, -1, 0, 1, 1, 0] : List Int).length = 7 from rfl, h1] at this
theorem works_seqs : runs_Sequences.f [1, 21, 2, 23, 1] 0 = some ([wS0, wS1], 0) := by
  have h3 : seqList [1, 21, 2, 23, 1] 0 = [([0, 1, 3, 4], 0, 1, 1), ([2], 1, 2, 2)] := by decide +kernel
  rw [runs_Sequences.f, if_pos (by decide), if_neg (by decide), if_neg (by decide +kernel), h3]
  rfl
def colophonlaw08_works.f : Option Bool := some true
set_option maxHeartbeats 16000000 in
set_option maxRecDepth 100000 in
theorem works_calls (w : World) : Calls Try.prog 9 #[] w fun e w' => e = .returned (.bool true) ∧ Below w.heap.size w w' := by
  obtain ⟨kl, hkl⟩ := works_levels
  obtain ⟨k1, hk1⟩ := Ev.rounds (T.Ints_same [0, 1, 3] (by decide))
  obtain ⟨k2, hk2⟩ := Ev.rounds (T.Ints_same [0, 1, 3, 4] (by decide))
  have HKL := Aside0.mk hkl
  have HK1 := Aside0.mk hk1
  have HK2 := Aside0.mk hk2
  clear hkl hk1 hk2
  go_enter Try.func9, Try.ntmps9
  go_wp2_with (first | ((with_reducible refine gate_dst (N := 4) rfl ?_); refine of_halt ?_))
  unfold Halt
  refine Kd.R_lit (Kd.int .i64) (w0 := w) w.heap.size 3 (by rfl) (N := 4) (by rfl) (xs := ([0, 0, -1, 0, 1, 1, 0] : List Int)) (inner := [.int .i64 0, .int .i64 0, .int .i64 (-1), .int .i64 0, .int .i64 1, .int .i64 1, .int .i64 0]) (ok := fun _ => True) (okp := fun _ => False) ?hr (Kd.reps_scalar [0, 0, -1, 0, 1, 1, 0]) (fun _ hk => hk.elim) trivial (Below.refl _ _) (Nat.le_refl _) (by simp) ?_
  case hr => first | (go_simp; done) | (go_simp; rfl)
  intro v4 w4 ho4 hb4 hg4 hn4
  obtain ⟨A4, c4, rfl, hc4, hC4⟩ := Kd.R_reads ho4
  have HB4 := Aside0.mk hb4
  have HC4 := Aside0.mk (And.intro hc4 hC4)
  clear ho4 hb4 hg4 hn4 hc4 hC4
  go_wp2_with (first | ((with_reducible refine gate_callee (f := 10) rfl ?_); refine of_halt ?_))
  unfold Halt
  refine goesL_ (some 5) rfl rfl Try.func10 (by kernel_rfl) rfl #[.slice A4 7 c4] rfl (by (try simp only [List.map_toArray, List.map_cons, List.map_nil]); first | done | rfl) ?_
  refine (runs_Levels.calls kl A4 c4 [0, 0, -1, 0, 1, 1, 0] [[0, 1, 3], [4, 5], [6]] w4 HC4.out.2 HC4.out.1 HKL.out).mono ?_
  rintro e w5 ⟨v5, rfl, ho5, hb5⟩
  refine ⟨_, rfl, ?_⟩
  obtain ⟨gl, cl, rfl, _, _, _⟩ := Kd.S_form ho5 (by decide)
  obtain ⟨_, _, hC5⟩ := Kd.S_reads' ho5
  obtain ⟨ad5, A5, c5, e5, hx5, hl5, hr5⟩ := at_L1 hC5 0 (by decide) (by decide)
  injection e5 with e5
  subst e5
  have hx5' : w5.cell? ⟨gl, 0, none⟩ = some (.slice A5 3 c5) := hx5
  have HB5 := Aside0.mk (below_step HB4.out hb5)
  have HX5 := Aside0.mk (And.intro hx5' (And.intro hl5 hr5))
  clear ho5 hb5 hC5 hx5 hx5' hl5 hr5 HC4
  dsimp only [List.length_cons, List.length_nil, Nat.reduceAdd]
  go_wp2_with (first | ((with_reducible refine gate_dst (N := 7) rfl ?_); refine of_halt ?_))
  unfold Halt
  refine Kd.R_lit (Kd.int .i64) (w0 := w5) w5.heap.size 3 (by rfl) (N := 7) (by rfl) (xs := ([1, 21, 2, 23, 1] : List Int)) (inner := [.int .i64 1, .int .i64 21, .int .i64 2, .int .i64 23, .int .i64 1]) (ok := fun _ => True) (okp := fun _ => False) ?hr2 (Kd.reps_scalar [1, 21, 2, 23, 1]) (fun _ hk => hk.elim) trivial (Below.refl _ _) (Nat.le_refl _) (by simp) ?_
  case hr2 => first | (go_simp; done) | (go_simp; rfl)
  intro v7 w7 ho7 hb7 hg7 hn7
  obtain ⟨A7, c7, rfl, hc7, hC7⟩ := Kd.R_reads ho7
  have HB7 := Aside0.mk hb7
  have HC7 := Aside0.mk (And.intro hc7 hC7)
  clear ho7 hb7 hg7 hn7 hc7 hC7
  go_wp2_with (first | ((with_reducible refine gate_callee (f := 14) rfl ?_); refine of_halt ?_))
  unfold Halt
  refine goesL_ (some 8) rfl rfl Try.func14 (by kernel_rfl) rfl #[.slice A7 5 c7, .int .i64 0] rfl (by (try simp only [List.map_toArray, List.map_cons, List.map_nil]); first | done | rfl) ?_
  refine (runs_Sequences.calls A7 c7 [1, 21, 2, 23, 1] 0 [wS0, wS1] 0 w7 HC7.out.2 HC7.out.1 works_seqs).mono ?_
  rintro e w8 ⟨v8, rfl, ho8, hb8⟩
  refine ⟨_, rfl, ?_⟩
  obtain ⟨gs, cs, rfl, _, _, _⟩ := Kd.S_form ho8 (by decide)
  obtain ⟨_, _, hC8⟩ := Kd.S_reads' ho8
  have h80 := at_T36 hC8 0 (by decide) (by decide)
  have h81 := at_T36 hC8 1 (by decide) (by decide)
  obtain ⟨ad0, A8, c8, e0, hx8, _, _, _, hl8, hr8⟩ := h80
  obtain ⟨ad1, _, _, e1, _, hy8, hz8, _, _, _⟩ := h81
  injection e0 with e0
  subst e0
  injection e1 with e1
  subst e1
  have hx8' : w8.cell? ⟨gs, 0, none⟩ = some (.slice A8 4 c8) := hx8
  have hy8' : w8.cell? ⟨gs, 5, none⟩ = some (.int .i64 1) := hy8
  have hz8' : w8.cell? ⟨gs, 6, none⟩ = some (.int .i64 2) := hz8
  have HB8 := Aside0.mk (below_step (below_step HB5.out HB7.out) hb8)
  have h58 := below_step HB7.out hb8
  have hx5 := (h58.cell (World.block_lt_of_cell? w5 _ HX5.out.1)).trans HX5.out.1
  have HR5 := Aside0.mk (show Kd.C (Kd.int .i64) w8 A5 3 [0, 1, 3] from Kd.C_below HX5.out.2.2 h58)
  have HL5 := Aside0.mk (show 3 ≤ c5 from HX5.out.2.1)
  have HR8 := Aside0.mk (show Kd.C (Kd.int .i64) w8 A8 4 [0, 1, 3, 4] from hr8)
  have HL8 := Aside0.mk (show 4 ≤ c8 from hl8)
  clear ho8 hb8 hC8 hx8 hy8 hz8 hl8 hr8 h58 HC7
  dsimp only [List.length_cons, List.length_nil, Nat.reduceAdd]
  go_wp2_with (first | ((with_reducible refine gate_dst (N := 18) rfl ?_); refine of_halt ?_))
  unfold Halt
  refine gate_guard (by rfl) ?_
  dsimp only
  refine Kd.R_lit (Kd.int .i64) (w0 := w8) w8.heap.size 3 (by rfl) (N := 18) (by rfl) (xs := ([0, 1, 3] : List Int)) (inner := [.int .i64 0, .int .i64 1, .int .i64 3]) (ok := fun _ => True) (okp := fun _ => False) ?hr3 (Kd.reps_scalar [0, 1, 3]) (fun _ hk => hk.elim) trivial (Below.refl _ _) (Nat.le_refl _) (by simp) ?_
  case hr3 => first | (go_simp; done) | (go_simp; rfl)
  intro v18 w18 ho18 hb18 hg18 hn18
  obtain ⟨A18, c18, rfl, hc18, hC18⟩ := Kd.R_reads ho18
  have HB18 := Aside0.mk (below_step HB8.out hb18)
  have HR18 := Aside0.mk hC18
  have HL18 := Aside0.mk hc18
  have HRa := Aside0.mk (Kd.C_below HR5.out hb18)
  have HRb := Aside0.mk (Kd.C_below HR8.out hb18)
  have hxs := (hb18.cell (World.block_lt_of_cell? w8 _ hx8')).trans hx8'
  have hys := (hb18.cell (World.block_lt_of_cell? w8 _ hy8')).trans hy8'
  have hzs := (hb18.cell (World.block_lt_of_cell? w8 _ hz8')).trans hz8'
  clear ho18 hb18 hg18 hn18 hc18 hC18 hx8' hy8' hz8' hx5
  dsimp only [List.length_cons, List.length_nil, Nat.reduceAdd]
  go_wp2_with (first | ((with_reducible refine gate_callee (f := 13) rfl ?_); refine of_halt ?_))
  unfold Halt
  refine gate_guard (by rfl) ?_
  dsimp only
  refine goesL_ (some 19) rfl rfl Try.func13 (by kernel_rfl) rfl #[.slice A5 3 c5, .slice A18 3 c18] rfl (by (try simp only [List.map_toArray, List.map_cons, List.map_nil]); first | done | rfl) ?_
  refine (colophonref01_Ints.calls k1 A5 c5 [0, 1, 3] A18 c18 [0, 1, 3] true w18 HRa.out HL5.out HR18.out HL18.out HK1.out).mono ?_
  rintro e w19 ⟨rfl, ⟨nd19, rfl⟩⟩
  refine ⟨_, rfl, ?_⟩
  go_wp2_with (first | ((with_reducible refine gate_dst (N := 35) rfl ?_); refine of_halt ?_))
  unfold Halt
  refine gate_guard (by rfl) ?_
  dsimp only
  refine Kd.R_lit (Kd.int .i64) (w0 := (World.drewN w18 nd19)) (World.drewN w18 nd19).heap.size 3 (by rfl) (N := 35) (by rfl) (xs := ([0, 1, 3, 4] : List Int)) (inner := [.int .i64 0, .int .i64 1, .int .i64 3, .int .i64 4]) (ok := fun _ => True) (okp := fun _ => False) ?hr4 (Kd.reps_scalar [0, 1, 3, 4]) (fun _ hk => hk.elim) trivial (Below.refl _ _) (Nat.le_refl _) (by simp) ?_
  case hr4 => first | (go_simp; done) | (go_simp; rfl)
  intro v35 w35 ho35 hb35 hg35 hn35
  obtain ⟨A35, c35, rfl, hc35, hC35⟩ := Kd.R_reads ho35
  have hb35' := below_step (pw_below_drewN (Below.refl w18.heap.size w18) nd19) hb35
  have HB35 := Aside0.mk (below_step HB18.out hb35')
  have HR35 := Aside0.mk hC35
  have HL35 := Aside0.mk hc35
  have HRc := Aside0.mk (Kd.C_below HRb.out hb35')
  have hxt := (hb35'.cell (World.block_lt_of_cell? w18 _ hxs)).trans hxs
  have hyt := (hb35'.cell (World.block_lt_of_cell? w18 _ hys)).trans hys
  have hzt := (hb35'.cell (World.block_lt_of_cell? w18 _ hzs)).trans hzs
  clear ho35 hb35 hg35 hn35 hc35 hC35 hxs hys hzs hb35'
  dsimp only [List.length_cons, List.length_nil, Nat.reduceAdd]
  go_wp2_with (first | ((with_reducible refine gate_callee (f := 13) rfl ?_); refine of_halt ?_))
  unfold Halt
  refine gate_guard (by rfl) ?_
  dsimp only
  refine goesL_ (some 36) rfl rfl Try.func13 (by kernel_rfl) rfl #[.slice A8 4 c8, .slice A35 4 c35] rfl (by (try simp only [List.map_toArray, List.map_cons, List.map_nil]); first | done | rfl) ?_
  refine (colophonref01_Ints.calls k2 A8 c8 [0, 1, 3, 4] A35 c35 [0, 1, 3, 4] true w35 HRc.out HL8.out HR35.out HL35.out HK2.out).mono ?_
  rintro e w36 ⟨rfl, ⟨nd36, rfl⟩⟩
  refine ⟨_, rfl, ?_⟩
  go_wp2
  go_ret
  exact ⟨rfl, pw_below_drewN HB35.out _⟩
theorem colophonlaw08_works.calls (r : Bool) (w : World) (h : colophonlaw08_works.f = some r) : Calls Try.prog 9 #[] w fun e w' => e = .returned (.bool r) ∧ Below w.heap.size w w' := by
  obtain rfl := Option.some.inj h
  exact works_calls w
end Go.Proofs.Yteldofimjklckaa.G
