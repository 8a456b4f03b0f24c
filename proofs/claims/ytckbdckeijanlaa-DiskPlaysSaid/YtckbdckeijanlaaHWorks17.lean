/- Chapter 17's own functions: filled, works, image. By hand. -/
import Derived.Test.YtckbdckeijanlaaHBrow
import Derived.Test.YtckbdckeijanlaaX1
namespace Go.Proofs.Ytckbdckeijanlaa.G
open Go.RowKit Go.Shelf Go.Proofs.YtckbdckeijanlaaW.PrintWords Go.Proofs.YtckbdckeijanlaaW.PrintLast Go.Proofs.YtckbdckeijanlaaW.PrintMore Go.Proofs.Ytckbdckeijanlaa.Dsk
set_option linter.unusedVariables false
set_option linter.unusedSimpArgs false
def fl (y : Int) : List Int := List.replicate 64 y
theorem fl_length (y : Int) : (fl y).length = 64 := by simp [fl]
theorem filled_l0 (y : Int) : ∀ j : Nat, j ≤ 64 → X.colophonlaw17_filled.l0 (j + 1) y (List.replicate (64 - j) y ++ List.replicate j 0) 64 ((64 - j : Nat) : Int) = some (fl y)
  | 0, _ => by
    rw [X.colophonlaw17_filled.l0, if_neg (by simp)]
    simp [fl]
  | j + 1, hj => by
    rw [X.colophonlaw17_filled.l0, if_pos (by omega), if_pos (by omega), if_pos (by simp; omega)]
    have h1 : wrap64 (((64 - (j + 1) : Nat) : Int) + 1) = ((64 - j : Nat) : Int) := by unfold wrap64; omega
    have h2 : (List.replicate (64 - (j + 1)) y ++ List.replicate (j + 1) 0).set (((64 - (j + 1) : Nat) : Int)).toNat y = List.replicate (64 - j) y ++ List.replicate j 0 := by
      rw [Int.toNat_natCast, List.set_append_right _ _ (by simp)]
      rw [List.length_replicate, Nat.sub_self, List.replicate_succ, List.set_cons_zero, show 64 - j = (64 - (j + 1)) + 1 by omega, List.replicate_succ', List.append_assoc]
      rfl
    rw [h1, h2]
    exact filled_l0 y j (by omega)
theorem filled_f (y : Int) : X.colophonlaw17_filled.f 65 y = some (fl y) := by
  have := filled_l0 y 64 (Nat.le_refl _)
  rw [X.colophonlaw17_filled.f, if_pos (by omega)]
  exact this
/-- A row of bytes of the call's own. -/
def BtP (xs : List Int) (W : World) (e : Ending) (w' : World) : Prop := ∃ g cap, e = .returned (.slice (some ⟨g, 0, none⟩) xs.length cap) ∧ xs.length ≤ cap ∧ Kd.R (Kd.int .u8) 5 w' W.heap.size (fun _ => True) (.slice (some ⟨g, 0, none⟩) xs.length cap) xs ∧ Below W.heap.size W w'
theorem filled_c (y : Int) (W : World) : Calls Try.prog 11 #[.int .u8 y] W (BtP (fl y) W) :=
  (X.colophonlaw17_filled.calls 65 y (fl y) W (filled_f y)).mono fun e w' ⟨v, he, hR, hb⟩ => by
    obtain ⟨g, cap, hv, _⟩ := Kd.R_form hR (by rw [fl_length]; omega)
    subst hv
    exact ⟨g, cap, he, (Kd.R_reads' hR).2.1, hR, hb⟩
/-- A literal of one number. -/
theorem lit_C (W : World) (k : IntKind) (e : TypeId) (y : Int) : Kd.C (Kd.int k) (W.alloc (.cells #[.int k y] e)) (some ⟨W.heap.size, 0, none⟩) [y].length [y] :=
  ⟨rfl, by simp, fun _ => ⟨_, rfl, fun j p hj => by
    cases j with
    | zero =>
      have : y = p := by simpa using hj
      subst this
      refine ⟨[.int k y], rfl, rfl, fun i u hu => ?_⟩
      cases i with
      | zero =>
        have : Value.int k y = u := by simpa using hu
        subst this
        exact (blk_cell (blk_new W _) 0).trans rfl
      | succ i => simp at hu
    | succ j => simp at hj⟩⟩
def wk1 : Dk := (write (new 2) 1 (fl 7)).1
theorem wk_write : (write (new 2) 1 (fl 7)).2 = 0 := by rfl
def wkx : List Int := 7 :: 7 :: 7 :: List.replicate 61 0
theorem wk_read : Dsk.read (crash wk1 [3]) 1 = (wkx, 0) := by rfl
theorem wk_flush : (flush wk1).2 = 0 := by rfl
theorem wk_steps : (flush wk1).1.steps = 2 := by rfl
theorem small_new (n : Nat) (h : n < 1000000000) : Small (new n) := ⟨by simp [new], by simp [new], by simp [new], by simpa [new] using h⟩
theorem small_wk1 : Small wk1 := ⟨by decide, by decide, by decide, by decide⟩
theorem small_crash {d : Dk} (h : Small d) (ok : Ok d) (ks : List Int) : Small (crash d ks) := ⟨by simp [crash], by simp [crash], by simp [crash], by
  have := (crashL_ok d.waits ks d.lies ok.lies ok.waits).1
  show (crashL _ _ _).length < _
  rw [this]
  exact h.lies⟩
set_option maxHeartbeats 16000000 in
set_option maxRecDepth 100000 in
theorem works_c (W : World) : Calls Try.prog 9 #[] W fun e w' => e = .returned (.bool true) ∧ Below W.heap.size W w' := by
  go_enter Try.func9, Try.ntmps9
  go_wp2_with (first | (go_at_call 10; refine (New_c 2 _ (by decide) (by decide)).mono ?_; rintro e w1 ⟨g1, F1, rfl, hD1, hF1, hb1⟩; refine of_halt ?_))
  unfold G.Halt
  have HD1 := Aside0.mk (And.intro hD1 (And.intro hF1 hb1))
  clear hD1 hF1 hb1
  go_wp2_with (first | (go_at_call 11; refine (filled_c 7 _).mono ?_; rintro e w2 ⟨g2, c2, rfl, hc2, hR2, hb2⟩; refine of_halt ?_))
  unfold G.Halt
  have HD2 := Aside0.mk (And.intro (HD1.out.1.below hb2) (And.intro hR2 (HD1.out.2.2.trans (hb2.mono HD1.out.2.2.size))))
  clear hc2 hR2 hb2
  go_wp2_with (first | (go_at_call 12; refine (Write_c F1 g1 (new 2) 1 _ _ c2 (fl 7) w2 HD2.out.1 (small_new 2 (by decide)) (Kd.R_reads' HD2.out.2.1).2.2).mono ?_; rintro e w3 ⟨rfl, F3, hD3, hF3, hk3⟩; refine of_halt ?_))
  unfold G.Halt
  rw [wk_write]
  have hB3 : Below W.heap.size W w3 := HD2.out.2.2.trans (hk3.below HD2.out.2.2.size (fun k hk hf => by have := HD1.out.2.1 k hf; omega))
  have HD3 := Aside0.mk (And.intro hD3 (And.intro hB3 (show ∀ k, F3 k → W.heap.size ≤ k from fun k hf => (hF3 k hf).elim (HD1.out.2.1 k) (fun h => Nat.le_trans HD2.out.2.2.size h))))
  clear hD3 hF3 hk3 hB3
  go_wp2_with (first | (go_at_call 14; refine (Crash_c F3 g1 wk1 [3] _ 1 _ (HD3.out.1.below (below_alloc (Below.refl _ _) _)) small_wk1 (lit_C w3 .i64 3 3) (by decide)).mono ?_; rintro e w4 ⟨g4, F4, rfl, hD4, hF4, hb4⟩; refine of_halt ?_))
  unfold G.Halt
  have HD4 := Aside0.mk (And.intro hD4 (And.intro ((HD3.out.1.below (below_alloc (Below.refl _ _) _)).below hb4) (HD3.out.2.1.trans ((below_alloc (Below.refl w3.heap.size w3) (.cells #[.int .i64 3] 3)).trans (hb4.mono (by simp)) |>.mono HD3.out.2.1.size))))
  clear hD4 hF4 hb4
  go_wp2_with (first | (go_at_call 15; refine (Read_c F4 g4 (crash wk1 [3]) 1 w4 HD4.out.1 (small_crash small_wk1 (write_ok (new_ok (by decide)) _ _) _)).mono ?_; rintro e w5 ⟨v5, rfl, hR5, hb5⟩; refine of_halt ?_))
  unfold G.Halt
  rw [wk_read] at hR5
  rw [wk_read]
  obtain ⟨g5, c5, rfl, _⟩ := Kd.R_form hR5 (by decide)
  have hl5 : wkx.length = 64 := rfl
  rw [hl5] at hR5
  have hc2 := (Kd.R_celln (d := (0 : Int)) (enc := Value.int .u8) (h1 := fun _ => rfl) hR5 2 (by decide) (by decide)).1
  have hc3 := (Kd.R_celln (d := (0 : Int)) (enc := Value.int .u8) (h1 := fun _ => rfl) hR5 3 (by decide) (by decide)).1
  have hc2' : w5.cell? ⟨g5, 2, none⟩ = some (.int .u8 7) := hc2
  have hc3' : w5.cell? ⟨g5, 3, none⟩ = some (.int .u8 0) := hc3
  have HD5 := Aside0.mk (And.intro (HD4.out.2.1.below hb5) (HD4.out.2.2.trans (hb5.mono HD4.out.2.2.size)))
  clear hc2 hc3 hR5 hb5
  rw [hl5]
  go_wp2_with (first | (go_at_call 13; refine (Flush_c F3 g1 wk1 w5 HD5.out.1 small_wk1).mono ?_; rintro e w6 ⟨rfl, F6, hD6, hF6, hk6⟩; refine of_halt ?_))
  unfold G.Halt
  rw [wk_flush]
  have HD6 := Aside0.mk (And.intro hD6 (HD5.out.2.trans (hk6.below HD5.out.2.size (fun k hk hf => by have := HD3.out.2.2 k hf; omega))))
  clear hD6 hF6 hk6
  go_wp2_with (first | (go_at_call 19; refine (Steps_c F6 g1 _ w6 HD6.out.1).mono ?_; rintro e w7 ⟨rfl, hw7⟩; refine of_halt ?_))
  unfold G.Halt
  obtain rfl := hw7.symm
  rw [wk_steps]
  go_wp2
  go_ret
  exact ⟨rfl, HD6.out.2⟩
end Go.Proofs.Ytckbdckeijanlaa.G
