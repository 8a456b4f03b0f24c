/- NeutralKeeps: the law walked by hand, with what the pure text tells of the program's answer. -/
import Derived.Test.YtcjmjggifeaggaaNeuT
namespace Go.Proofs.Ytcjmjggifeaggaa.X
open Go.RowKit Go.Proofs.YtcjmjggifeaggaaW.PrintWords Go.Proofs.YtcjmjggifeaggaaW.PrintLast Go.Proofs.YtcjmjggifeaggaaW.PrintMore Go.Proofs.Ytcjmjggifeaggaa.G Go.Proofs.Ytcjmjggifeaggaa.Pure
set_option linter.unusedVariables false
set_option linter.unusedSimpArgs false

set_option maxHeartbeats 4000000 in
theorem lawside_any (x : Int) (w : World) : Calls Try.prog 15 #[.int .i64 x] w fun e w' => e = .returned (.int .i64 (sideOf x)) ∧ w' = w := by
  by_cases h1 : x = 1
  · subst h1
    go_enter Try.func15, Try.ntmps15
    go_wp2
    go_ret
    exact ⟨rfl, rfl⟩
  by_cases h2 : x = 2
  · subst h2
    go_enter Try.func15, Try.ntmps15
    go_wp2
    go_ret
    exact ⟨rfl, rfl⟩
  by_cases h4 : x = 4
  · subst h4
    go_enter Try.func15, Try.ntmps15
    go_wp2
    go_ret
    exact ⟨rfl, rfl⟩
  by_cases h7 : x = 7
  · subst h7
    go_enter Try.func15, Try.ntmps15
    go_wp2
    go_ret
    exact ⟨rfl, rfl⟩
  rw [show sideOf x = 0 by simp [sideOf, h1, h2, h4, h7]]
  have b1 : (x == 1) = false := by simpa using h1
  have b2 : (x == 2) = false := by simpa using h2
  have b4 : (x == 4) = false := by simpa using h4
  have b7 : (x == 7) = false := by simpa using h7
  go_enter Try.func15, Try.ntmps15
  go_wp2
  go_ret
  exact ⟨rfl, rfl⟩

theorem NR_snd (l : List Int) (a1 a2 a3 : Int) (h : (NR l a1 a2 a3).2 ≠ 0) : (NR l a1 a2 a3).1 = [] := by
  unfold NR at h ⊢
  split
  · rfl
  · rename_i hb
    rw [if_neg hb] at h
    split
    · rename_i hs
      rw [if_pos hs] at h
      exact absurd rfl h
    · rfl
theorem NR_zero (l : List Int) (a1 a2 a3 : Int) (h : (NR l a1 a2 a3).2 = 0) : (NR l a1 a2 a3).1 = res l a1 a2 a3 ∧ 0 ≤ a1 ∧ (a2 = 1 ∨ a2 = 2) ∧ (a3 = 1 ∨ a3 = 2) := by
  unfold NR at h ⊢
  split
  · rename_i hb; rw [if_pos hb] at h; simp at h
  · rename_i hb
    rw [if_neg hb] at h
    split
    · exact ⟨rfl, by unfold bad at hb; omega⟩
    · rename_i hs; rw [if_neg hs] at h; simp at h

def colophonlaw11_NeutralKeeps.f (l0 : List Int) (a1_0 a1_1 a1_2 : Int) : Option Bool := if l0.length < 17592186044416 then some true else none
set_option maxHeartbeats 16000000 in
set_option maxRecDepth 100000 in
theorem colophonlaw11_NeutralKeeps.calls (A0 : Option Addr) (c0 : Nat) (l0 : List Int) (a1_0 : Int) (a1_1 : Int) (a1_2 : Int) (r : Bool) (w : World) (hr0 : Kd.C (Kd.int .i64) w A0 l0.length l0) (hc0 : l0.length ≤ c0) (h : colophonlaw11_NeutralKeeps.f l0 a1_0 a1_1 a1_2 = some r) :
    Calls Try.prog 5 #[.slice A0 l0.length c0, .agg #[.int .i64 a1_0, .int .i64 a1_1, .int .i64 a1_2]] w fun e w' => e = .returned (.bool r) ∧ Below w.heap.size w w' := by
  have hl : l0.length < 17592186044416 := by unfold colophonlaw11_NeutralKeeps.f at h; split at h; assumption; simp at h
  rw [colophonlaw11_NeutralKeeps.f, if_pos hl] at h
  obtain rfl := Option.some.inj h
  clear h
  obtain ⟨kw, hkw⟩ := Ev.rounds works_ev
  have HWK := Aside0.mk (fun W => colophonlaw11_works.calls kw true W hkw)
  have hres := Resolve_f l0 a1_0 a1_1 a1_2 hl
  have HS := Aside0.mk (NR_snd l0 a1_0 a1_1 a1_2)
  have HZ := Aside0.mk (NR_zero l0 a1_0 a1_1 a1_2)
  generalize NR l0 a1_0 a1_1 a1_2 = nr at *
  obtain ⟨n1, n2⟩ := nr
  have HRS := Aside0.mk (fun W A c hC hc => neutral_Resolve.calls A c l0 a1_0 a1_1 a1_2 n1 n2 W hC hc hres)
  have HR := Aside0.mk hr0
  have HC0 := Aside0.mk hc0
  have HL := Aside0.mk hl
  clear hr0 hc0 hl hkw hres
  go_enter Try.func5, Try.ntmps5
  go_wp2_with (first | (go_at_call 9; refine of_halt ?_))
  unfold G.Halt
  have hb0 := heap_alloc_new w (.cells #[.int .i64 a1_0, .int .i64 a1_1, .int .i64 a1_2] 24)
  have HB0 := Aside0.mk (below_alloc (Below.refl w.heap.size w) (.cells #[.int .i64 a1_0, .int .i64 a1_1, .int .i64 a1_2] 24))
  generalize w.alloc (.cells #[.int .i64 a1_0, .int .i64 a1_1, .int .i64 a1_2] 24) = W1 at *
  refine (HWK.out W1).mono ?_
  rintro e W2 ⟨rfl, hb2⟩
  have hb0' := blk_below hb0 hb2
  have HB2 := Aside0.mk (below_step HB0.out hb2)
  have f0 : W2.cell? ⟨w.heap.size, 0, none⟩ = some (.int .i64 a1_0) := (blk_cell hb0' 0).trans rfl
  have f1 : W2.cell? ⟨w.heap.size, 1, none⟩ = some (.int .i64 a1_1) := (blk_cell hb0' 1).trans rfl
  have f2 : W2.cell? ⟨w.heap.size, 2, none⟩ = some (.int .i64 a1_2) := (blk_cell hb0' 2).trans rfl
  clear hb0 hb0' hb2
  have HRR := Aside0.mk (HRS.out W2 A0 c0 (Kd.C_below HR.out HB2.out) HC0.out)
  go_wp2_with (first | (go_at_call 10; refine HRR.out.mono ?_; rintro e W3 ⟨v5, rfl, ho5, hb5⟩; refine of_halt ?_))
  unfold G.Halt
  obtain ⟨A5, c5, rfl, hc5, hC5⟩ := Kd.R_reads ho5
  have HB3 := Aside0.mk (below_step HB2.out hb5)
  have HC5 := Aside0.mk hC5
  clear ho5 hb5 hC5 hc5 f0 f1 f2 HRR
  by_cases z : n2 = 0
  · obtain ⟨e1, g0, g2, g3⟩ := HZ.out z
    try dsimp only at e1
    subst e1 z
    have er := res_length l0 a1_0 a1_1 a1_2
    have HG := Aside0.mk (And.intro g0 (And.intro g2 g3))
    have HA := Aside0.mk (res_getD l0 a1_0 a1_1 a1_2)
    clear g0 g2 g3 HS HZ HRS
    generalize res l0 a1_0 a1_1 a1_2 = R at *
    rw [er]
    rw [er] at HC5
    clear er
    go_wp2
    go_loopg [33] (l0.length + 1) (fun kq v33 w' => ∃ (x : Int), v33 = .int .i64 x ∧ Aside0 (0 ≤ x ∧ x ≤ l0.length) ∧ Aside0 (kq + x.toNat = l0.length + 1) ∧ Aside0 (Below W3.heap.size W3 w'))
    case atStart => exact ⟨0, rfl, ⟨by omega⟩, ⟨rfl⟩, ⟨Below.refl _ _⟩⟩
    case round =>
      obtain ⟨x, rfl, HI, HK, HBw⟩ := hrel
      have HB := Aside0.mk (HB3.out.trans (HBw.out.mono HB3.out.size))
      by_cases c2 : x < (l0.length : Int)
      · have c2b : decide (x < (l0.length : Int)) = true := decide_eq_true c2
        obtain ⟨ad, e, hx⟩ := Kd.at_int (Kd.C_below HR.out HB.out) x HI.out.1 c2
        cases e
        obtain ⟨ad5, e, hx5⟩ := Kd.at_int (Kd.C_below HC5.out HBw.out) x HI.out.1 c2
        cases e
        have p1 : (0 ≤ x) = True := eq_true HI.out.1
        have q1 : (x < (l0.length : Int)) = True := eq_true c2
        obtain ⟨i, hi⟩ := Int.eq_ofNat_of_zero_le HI.out.1
        have hv := HA.out i (by omega)
        have ez : rd l0 x = l0.getD i 0 := by rw [hi, rd_nat]
        have ev : rd R x = at_ l0 a1_0 a1_1 a1_2 i := by rw [hi, rd_nat, hv]
        unfold at_ at ev
        rw [← ez] at ev
        have HC2 := Aside0.mk c2
        clear c2 hv ez
        generalize hz : rd l0 x = z at *
        generalize hq : rd R x = v at *
        have HI2 := Aside0.mk hi
        clear hz hq hi
        by_cases s : sideOf z = 0
        · have hv : v = 1 ∨ v = 2 := by
            rw [ev, if_pos s]
            split
            · exact fst_or _ _ HG.out.2.1
            · have := HG.out.1; omega
          have b1 : (sideOf z != 0) = false := by simp [s]
          have b2 : (sideOf z == 0) = true := by simp [s]
          clear s ev
          rcases hv with rfl | rfl
          all_goals
            go_upto_region 11 with (fail)
            go_quiet ((go_at_call 15; exact Calls.quiet_of_same (lawside_any _ _)))
            go_wp2
            go_roundg (gk - 1)
            case measure => have := HK.out; have := HI.out; have := HC2.out; omega
            case rel => exact ⟨x + 1, by rw [show wrap64 (x + 1) = x + 1 from by have := HI.out; have := HL.out; unfold wrap64; omega], ⟨by have := HI.out; have := HC2.out; omega⟩, ⟨by have := HK.out; have := HI.out; have := HC2.out; omega⟩, ⟨pw_below_drewN HBw.out _⟩⟩
        · rw [if_neg s] at ev
          subst ev
          have b1 : (sideOf v != 0) = true := by simp [s]
          have b2 : (sideOf v == 0) = false := by simp [s]
          clear s
          go_upto_region 11 with (fail)
          go_quiet ((go_at_call 15; exact Calls.quiet_of_same (lawside_any _ _)))
          go_wp2
          go_roundg (gk - 1)
          case measure => have := HK.out; have := HI.out; have := HC2.out; omega
          case rel => exact ⟨x + 1, by rw [show wrap64 (x + 1) = x + 1 from by have := HI.out; have := HL.out; unfold wrap64; omega], ⟨by have := HI.out; have := HC2.out; omega⟩, ⟨by have := HK.out; have := HI.out; have := HC2.out; omega⟩, ⟨pw_below_drewN HBw.out _⟩⟩
      · have h4 : x = l0.length := by have := HI.out; omega
        have c2b : decide (x < (l0.length : Int)) = false := decide_eq_false c2
        go_wp2
        go_ret
        exact ⟨rfl, HB.out⟩
  · have e1 := HS.out z
    try dsimp only at e1
    subst e1
    have b0 : (n2 != 0) = true := by simpa using z
    clear HS HZ HRS z
    go_wp2
    go_ret
    exact ⟨rfl, HB3.out⟩
end Go.Proofs.Ytcjmjggifeaggaa.X
