/- The law CacheReads, walked by hand. -/
import Derived.Test.YtogapedacdnfcaaDoorHRefRd
import Derived.Test.YtogapedacdnfcaaDoorHBackL
namespace Go.Proofs.YtogapedacdnfcaaDoor.X
open Go.RowKit Go.Proofs.YtogapedacdnfcaaDoorW.PrintWords Go.Proofs.YtogapedacdnfcaaDoorW.PrintLast Go.Proofs.YtogapedacdnfcaaDoorW.PrintMore Go.Proofs.YtogapedacdnfcaaDoor.G Go.Proofs.YtogapedacdnfcaaDoor.T Go.Proofs.YtogapedacdnfcaaDoor.Pure
set_option linter.unusedVariables false
set_option linter.unusedSimpArgs false

theorem refRead_calls (A0 : Option Addr) (c0 : Nat) (l0 : List Int) (w : World) (hr0 : Kd.C (Kd.int .u8) w A0 l0.length l0) (hc0 : l0.length ≤ c0) (hw : Bytes l0) : Calls Tryd.prog 13 #[.slice A0 l0.length c0] w (EntPost w (RB l0)) := by
  by_cases h6 : l0.length = 64
  · obtain ⟨ad, rfl⟩ : ∃ ad, A0 = some ad := by
      obtain ⟨ad, e, _⟩ := Kd.at_int hr0 0 (by omega) (by omega)
      exact ⟨ad, e⟩
    by_cases hs : l0.drop 60 = bytes4 (crc (l0.take 60))
    · rw [← refE_eq l0 h6 hw hs]
      exact refRead_yes ad c0 l0 w h6 hr0 hc0 hw hs
    · rw [show RB l0 = (0, 0, 0, [], 21) by unfold RB; rw [if_pos h6, if_neg hs]]
      exact refRead_sum ad c0 l0 w h6 hr0 hc0 hw hs
  · rw [show RB l0 = (0, 0, 0, [], 20) by unfold RB; rw [if_neg h6]]
    exact refRead_short A0 c0 l0 w h6
def colophonlaw25_CacheReads.Pure : Prop := colophonlaw25_works.f = some true
set_option maxHeartbeats 16000000 in
set_option maxRecDepth 100000 in
theorem colophonlaw25_CacheReads.walk (P : colophonlaw25_CacheReads.Pure) (a0_0 a0_1 a0_2 : Int) (A0 : Option Addr) (n0 c0 : Nat) (z0 : List Int) (A1 : Option Addr) (n1 c1 : Nat) (z1 : List Int) (w : World) (hT : Tab w) (w00 : (Lit.int .u64 a0_0).wf = true) (w01 : (Lit.int .i64 a0_1).wf = true) (w02 : (Lit.int .i64 a0_2).wf = true) (w03 : CameIn .i64 w A0 n0 c0 z0) (w1 : CameIn .u8 w A1 n1 c1 z1) (y1 : n1 * 1 ≤ 140737488351232) :
    Calls Tryd.prog 3 #[.agg #[.int .u64 a0_0, .int .i64 a0_1, .int .i64 a0_2, .slice A0 n0 c0], .slice A1 n1 c1] w fun e w' => e = .returned (.bool true) ∧ Below w.heap.size w w' := by
  obtain ⟨l0, rfl, hr0, hm0, hw0, hc0⟩ := ReadsInt.ofRowC w03
  obtain ⟨l1, rfl, hr1, hm1, hw1, hc1⟩ := ReadsInt.ofRowC w1
  have hby := bytes_wf hw1
  have HT := Aside0.mk hT
  have HR0 := Aside0.mk (show Kd.C (Kd.int .i64) w A0 l0.length l0 from Kd.C_of_reads (d := (0 : Int)) (h1 := fun _ => rfl) hr0)
  have HR1 := Aside0.mk (show Kd.C (Kd.int .u8) w A1 l1.length l1 from Kd.C_of_reads (d := (0 : Int)) (h1 := fun _ => rfl) hr1)
  have HWK := Aside0.mk (fun W hT => colophonlaw25_works.calls true W hT P)
  have HL1 := Aside0.mk (show l1.length ≤ 140737488351232 by omega)
  have HC0 := Aside0.mk hc0
  have HC1 := Aside0.mk hc1
  have HBY := Aside0.mk hby
  have hk := wf_u64 w00
  clear hT hr0 hr1 w03 w1 hm0 hm1 hw0 hw1 y1 P w01 w02 hby
  by_cases h5 : 500 < l0.length
  · have b5 : decide ((500 : Int) < (l0.length : Int)) = true := decide_eq_true (by omega)
    have b5b : decide (500 < l0.length) = true := decide_eq_true h5
    clear h5 hc0 hc1 hk
    go_enter Tryd.func3, Tryd.ntmps3
    go_wp2_with (first | (go_at_call 9; refine (HWK.out _ (Kd.C_alloc HT.out _)).mono ?_; rintro e w9 ⟨rfl, hb9⟩))
    go_ret
    exact ⟨rfl, below_step (below_alloc (Below.refl _ _) _) hb9⟩
  · have b5 : decide ((500 : Int) < (l0.length : Int)) = false := decide_eq_false (by omega)
    have b5b : decide (500 < l0.length) = false := decide_eq_false h5
    obtain ⟨X, en, hES⟩ : ∃ X en, ES a0_0 a0_1 a0_2 l0 = (X, en) := ⟨_, _, rfl⟩
    obtain ⟨k, a, v, L, e2, hRB⟩ : ∃ k a v L e2, RB l1 = (k, a, v, L, e2) := ⟨_, _, _, _, _, rfl⟩
    have hb1 := Bytes_f a0_0 a0_1 a0_2 l0
    obtain ⟨kb, hb2⟩ := Ev.rounds (refBytes_ev a0_0 a0_1 a0_2 l0 hk)
    have hb3 := Read_f l1 HBY.out
    rw [hES] at hb1 hb2
    rw [hRB] at hb3
    have HB1 := Aside0.mk (fun W hT hC => cache_Bytes.calls a0_0 a0_1 a0_2 A0 c0 l0 X en W hT hC hc0 hb1)
    have HB2 := Aside0.mk (fun W hC => colophonref25_Bytes.calls kb a0_0 a0_1 a0_2 A0 c0 l0 X en W hC hc0 hb2)
    have HRd := Aside0.mk (fun W A c hT hC hc => cache_Read.calls A c l1 k a v L e2 W hT hC hc hb3)
    have HRf := Aside0.mk (fun W hC => by have := refRead_calls A1 c1 l1 W hC hc1 HBY.out; rw [hRB] at this; exact this)
    have hLL : L.length ≤ 60 := by
      have : RB l1 = (k, a, v, L, e2) := hRB
      unfold RB at this
      split at this
      · split at this
        · unfold cRead at this
          split at this
          · injection this with _ this; injection this with _ this; injection this with _ this; injection this with h _; rw [← h]; simp
          · split at this
            · injection this with _ this; injection this with _ this; injection this with _ this; injection this with h _; rw [← h]; simp
            · split at this
              · injection this with _ this; injection this with _ this; injection this with _ this; injection this with h _; rw [← h, List.length_map, List.length_take, List.length_drop, List.length_take]; omega
              · injection this with _ this; injection this with _ this; injection this with _ this; injection this with h _; rw [← h]; simp
        · injection this with _ this; injection this with _ this; injection this with _ this; injection this with h _; rw [← h]; simp
      · injection this with _ this; injection this with _ this; injection this with _ this; injection this with h _; rw [← h]; simp
    obtain ⟨ks, hsm⟩ := Ev.rounds (Same_ev k a v L k a v L (by omega))
    have info5 : (Tryd.prog.info? 5).map (fun i => (i.zero, i.size, i.bytes)) = some (some (.int .u8 0), 1, 1) := by kernel_rfl
    have HSM := Aside0.mk hsm
    clear h5 hc0 hc1 hk hb1 hb2 hb3 hES hRB hLL hsm
    go_enter Tryd.func3, Tryd.ntmps3
    go_upto_region 1 with (first | ((with_reducible refine gate_dst (N := 2) rfl ?_); (try (refine gate_guard (by rfl) ?_; dsimp only)); refine box_event ?hg (N := 2) ?hd (cs := #[.int .u64 a0_0, .int .i64 a0_1, .int .i64 a0_2, .slice A0 l0.length c0]) (t := 25) ?hr ?_; (case hd => rfl); (case hg => rfl); (case hr => first | (go_simp; done) | (go_simp; rfl)); intro gb hg w3 hbox hb; have HB3 := Aside0.mk (below_step (Below.refl w.heap.size w) hb); have BK := Aside0.mk hbox; clear hb hbox hg))
    (try simp only [Act.put, List.setIfInBounds_toArray, List.set_cons_zero, List.set_cons_succ])
    obtain ⟨hcz0, hcz1, hcz2, hcz3, _, _, _, _⟩ := cells4 BK.out
    go_wp2_with (first | ((with_reducible refine gate_dst (N := 21) rfl ?_); refine of_halt ?_))
    unfold G.Halt
    clear hcz0 hcz1 hcz2 hcz3
    have hO : Kd.R (Kd.int .u8) 5 (w3.alloc (Obj.cells #[] 5)) w3.heap.size (fun _ => True) (.slice (some ⟨w3.heap.size, 0, none⟩) 0 0) [] := ⟨fun _ _ => trivial, OwnRow.lit w3 w3.heap.size (ps := []) (inner := []) (Reps.none _ _) (Nat.le_refl _) (by simp)⟩
    refine Kd.R_append_row (w0 := w3) (Value.int .u8) 0 w3.heap.size rfl (.tmp 19) (.tmp 20) 26 5 (.int .u8 0) 1 rfl Tryd.underlying26 info5 rfl (by omega) (.slice (some ⟨w3.heap.size, 0, none⟩) 0 0) [] l1 A1 l1.length c1 (fun _ => True) rfl rfl (fun _ _ => trivial) hO (Kd.C_alloc (Kd.C_below HR1.out HB3.out) _) (below_alloc (Below.refl _ _) _) (by simp) (by have := HL1.out; simp; omega) ?_
    intro v7 W1 ho7 hb7 hg7 hat7
    obtain ⟨A7, c7, rfl, hc7, hC7⟩ := Kd.R_reads ho7
    simp only [List.nil_append] at hC7 hc7 ⊢
    have HBa := Aside0.mk (below_step HB3.out hb7)
    have BKa := Aside0.mk (blk_below BK.out hb7)
    have HC7 := Aside0.mk hC7
    have HD7 := Aside0.mk hc7
    clear ho7 hb7 hg7 hat7 hO hC7 hc7 BK HB3
    obtain ⟨hcz0, hcz1, hcz2, hcz3, _, _, _, _⟩ := cells4 BKa.out
    have HR1a := Aside0.mk (HB1.out W1 (Kd.C_below HT.out HBa.out) (Kd.C_below HR0.out HBa.out))
    go_wp2_with (first | (go_at_call 10; refine HR1a.out.mono ?_; rintro e W2 ⟨v6, rfl, ho6, hb6⟩; refine of_halt ?_))
    unfold G.Halt
    obtain ⟨A6, c6, rfl, hc6, hC6⟩ := Kd.R_reads ho6
    have HC6 := Aside0.mk hC6
    have HBb := Aside0.mk (below_step HBa.out hb6)
    have HBab := Aside0.mk hb6
    have BKb := Aside0.mk (blk_below BKa.out hb6)
    clear ho6 hc6 hC6 hb6 hcz0 hcz1 hcz2 hcz3 HR1a BKa
    obtain ⟨hcz0, hcz1, hcz2, hcz3, _, _, _, _⟩ := cells4 BKb.out
    have HR2a := Aside0.mk (HB2.out W2 (Kd.C_below HR0.out HBb.out))
    go_wp2_with (first | (go_at_call 11; refine HR2a.out.mono ?_; rintro e W3 ⟨v8, rfl, ho8, hb8⟩; refine of_halt ?_))
    unfold G.Halt
    obtain ⟨A8, c8, rfl, hc8, hC8⟩ := Kd.R_reads ho8
    have HC8 := Aside0.mk hC8
    have HBc := Aside0.mk (below_step HBb.out hb8)
    have HBbc := Aside0.mk hb8
    clear ho8 hc8 hC8 hb8 hcz0 hcz1 hcz2 hcz3 HR2a BKb
    have HC7c := Aside0.mk (Kd.C_below (Kd.C_below HC7.out HBab.out) HBbc.out)
    have HR3a := Aside0.mk (HRd.out W3 A7 c7 (Kd.C_below HT.out HBc.out) HC7c.out HD7.out)
    go_wp2_with (first | (go_at_call 12; refine HR3a.out.mono ?_; rintro e W4 ⟨v9, rfl, ho9, hb9⟩; refine of_halt ?_))
    unfold G.Halt
    obtain ⟨A9, c9, rfl, hc9, hC9⟩ := Kd.R_reads ho9
    have HC9 := Aside0.mk hC9
    have HD9 := Aside0.mk hc9
    have HBd := Aside0.mk (below_step HBc.out hb9)
    have HBcd := Aside0.mk hb9
    clear ho9 hc9 hC9 hb9 HR3a
    go_upto_region 7 with (fail)
    have BK5 := Aside0.mk (blk_new W4 (Obj.cells #[.int .u64 k, .int .i64 a, .int .i64 v, .slice A9 L.length c9] 25))
    have HBe := Aside0.mk (below_alloc HBd.out (Obj.cells #[.int .u64 k, .int .i64 a, .int .i64 v, .slice A9 L.length c9] 25))
    have HC95 := Aside0.mk (Kd.C_alloc HC9.out (Obj.cells #[.int .u64 k, .int .i64 a, .int .i64 v, .slice A9 L.length c9] 25))
    have HBce := Aside0.mk (below_step HBcd.out (below_alloc (Below.refl W4.heap.size W4) (Obj.cells #[.int .u64 k, .int .i64 a, .int .i64 v, .slice A9 L.length c9] 25)))
    clear HC9 HBd HBcd
    generalize hw5 : W4.alloc (Obj.cells #[.int .u64 k, .int .i64 a, .int .i64 v, .slice A9 L.length c9] 25) = W5 at *
    clear hw5
    generalize W4.heap.size = g5 at *
    have HR4a := Aside0.mk (HRf.out W5 (Kd.C_below HR1.out HBe.out))
    go_wp2_with (first | (go_at_call 13; refine HR4a.out.mono ?_; rintro e W6 ⟨v10, rfl, ho10, hb10⟩; refine of_halt ?_))
    unfold G.Halt
    obtain ⟨A10, c10, rfl, hc10, hC10⟩ := Kd.R_reads ho10
    have HC10 := Aside0.mk hC10
    have HD10 := Aside0.mk hc10
    have HBf := Aside0.mk (below_step HBe.out hb10)
    have HBef := Aside0.mk hb10
    have BK6 := Aside0.mk (blk_below BK5.out hb10)
    clear ho10 hc10 hC10 hb10 HR4a BK5
    go_upto_region 8 with (fail)
    have BK7 := Aside0.mk (blk_new W6 (Obj.cells #[.int .u64 k, .int .i64 a, .int .i64 v, .slice A10 L.length c10] 33))
    have BK67 := Aside0.mk (blk_alloc BK6.out (Obj.cells #[.int .u64 k, .int .i64 a, .int .i64 v, .slice A10 L.length c10] 33))
    have HBg := Aside0.mk (below_alloc HBf.out (Obj.cells #[.int .u64 k, .int .i64 a, .int .i64 v, .slice A10 L.length c10] 33))
    have HC107 := Aside0.mk (Kd.C_alloc HC10.out (Obj.cells #[.int .u64 k, .int .i64 a, .int .i64 v, .slice A10 L.length c10] 33))
    have HBeg := Aside0.mk (below_step HBef.out (below_alloc (Below.refl W6.heap.size W6) (Obj.cells #[.int .u64 k, .int .i64 a, .int .i64 v, .slice A10 L.length c10] 33)))
    clear HC10 HBf HBef BK6
    generalize hw7 : W6.alloc (Obj.cells #[.int .u64 k, .int .i64 a, .int .i64 v, .slice A10 L.length c10] 33) = W7 at *
    clear hw7
    generalize W6.heap.size = g7 at *
    have HBcg := Aside0.mk (below_step HBce.out HBeg.out)
    have hcv1 := Kd.C_string (P := Tryd.prog) (src := 26) (dst := 9) Tryd.underlying26 Tryd.underlying5 Tryd.underlying9 (c := c6) (Kd.C_below (Kd.C_below HC6.out HBbc.out) HBcg.out)
    have hcv2 := Kd.C_string (P := Tryd.prog) (src := 26) (dst := 9) Tryd.underlying26 Tryd.underlying5 Tryd.underlying9 (c := c8) (Kd.C_below HC8.out HBcg.out)
    have hcv3 := Kd.C_string (P := Tryd.prog) (src := 26) (dst := 9) Tryd.underlying26 Tryd.underlying5 Tryd.underlying9 (c := c7) (Kd.C_below HC7c.out HBcg.out)
    have hcv4 := Kd.C_string (P := Tryd.prog) (src := 26) (dst := 9) Tryd.underlying26 Tryd.underlying5 Tryd.underlying9 (c := c1) (Kd.C_below HR1.out HBg.out)
    obtain ⟨hd0, hd1, hd2, hd3, _, _, _, _⟩ := cells4 BK67.out
    obtain ⟨he0, he1, he2, he3, _, _, _, _⟩ := cells4 BK7.out
    have HS := Aside0.mk (colophonlaw25_same.calls ks k a v A9 c9 L k a v A10 c10 L true W7 (Kd.C_below HC95.out HBeg.out) HD9.out HC107.out HD10.out (by unfold colophonlaw25_same.f; rw [HSM.out]; rfl))
    go_wp2_with (first | (go_at_call 14; refine HS.out.mono ?_; rintro e W8 ⟨rfl, hb11⟩; refine of_halt ?_))
    unfold G.Halt
    have HBh := Aside0.mk (below_step HBg.out hb11)
    have HBch := Aside0.mk (below_step HBcg.out hb11)
    clear hb11 hcv1 hcv2 hcv3 hcv4 hd0 hd1 hd2 hd3 he0 he1 he2 he3 HS
    have hcv3 := Kd.C_string (P := Tryd.prog) (src := 26) (dst := 9) Tryd.underlying26 Tryd.underlying5 Tryd.underlying9 (c := c7) (Kd.C_below HC7c.out HBch.out)
    have hcv4 := Kd.C_string (P := Tryd.prog) (src := 26) (dst := 9) Tryd.underlying26 Tryd.underlying5 Tryd.underlying9 (c := c1) (Kd.C_below HR1.out HBh.out)
    have HWW := Aside0.mk (HWK.out W8 (Kd.C_below HT.out HBh.out))
    go_wp2_with (first | (go_at_call 9; refine HWW.out.mono ?_; rintro e w9 ⟨rfl, hb9⟩))
    go_ret
    exact ⟨rfl, below_step HBh.out hb9⟩
end Go.Proofs.YtogapedacdnfcaaDoor.X
