/- The document's Scan, by hand. -/
import Derived.Test.YtoehjojipmeagaaDoorHHdr
namespace Go.Proofs.YtoehjojipmeagaaDoor.X
open Go.RowKit Go.Proofs.YtoehjojipmeagaaDoorW.PrintWords Go.Proofs.YtoehjojipmeagaaDoorW.PrintLast Go.Proofs.YtoehjojipmeagaaDoorW.PrintMore Go.Proofs.YtoehjojipmeagaaDoor.G Go.Proofs.YtoehjojipmeagaaDoor.T Go.Proofs.YtoehjojipmeagaaDoor.Pure
set_option linter.unusedVariables false
set_option linter.unusedSimpArgs false

set_option maxHeartbeats 16000000 in
set_option maxRecDepth 1000000 in
theorem refScan_calls (A0 : Option Addr) (c0 : Nat) (l0 : List Int) (ep fi : Int) (w : World) (hr0 : Kd.C (Kd.int .u8) w A0 l0.length l0) (hc0 : l0.length ≤ c0) (hby : Bytes l0) (hl : l0.length ≤ 1000000) :
    Calls Tryd.prog 19 #[.slice A0 l0.length c0, .int .i64 ep, .int .i64 fi] w (ScanPost w (SC l0 ep fi).1 (SC l0 ep fi).2.1 (SC l0 ep fi).2.2) := by
  have info5 : (Tryd.prog.info? 5).map (fun i => (i.zero, i.size, i.bytes)) = some (some (.int .u8 0), 1, 1) := by kernel_rfl
  have info22 : (Tryd.prog.info? 22).map (fun i => (i.zero, i.size, i.bytes)) = some (some (.slice none 0 0), 1, 24) := by kernel_rfl
  obtain ⟨i5, hi5, hi5z, hi5s, hi5b⟩ := info_parts info5
  have hcutE : ∀ (E : Nat), E ≤ l0.length → ∀ W, (Instr.slice 22 (.slice A0 l0.length c0) (some (.int .i64 (E : Int))) none none).run Tryd.prog W = .ok (.slice (if c0 = E then A0 else A0.map (·.add (E * 1))) (l0.length - E) (c0 - E)) W := fun E hE W => by
    have := cut_from 22 5 .i64 Tryd.underlying22 hi5 1 hi5s A0 l0.length c0 (E : Int) (by omega) (by omega) W
    rwa [Int.toNat_natCast] at this
  have HCUT := Aside0.mk hcutE
  have HR := Aside0.mk hr0
  have HC0 := Aside0.mk hc0
  have HBY := Aside0.mk hby
  have HL := Aside0.mk hl
  clear hr0 hc0 hby hl hi5 hi5z hi5s hi5b hcutE info5
  obtain ⟨bs0, n0, r0, hSC⟩ : ∃ bs0 n0 r0, SC l0 ep fi = (bs0, n0, r0) := ⟨_, _, _, rfl⟩
  rw [hSC]
  unfold SC at hSC
  by_cases h1 : numB ep = true
  rotate_left
  · rw [if_neg (by simp [h1])] at hSC
    injection hSC with e1 e2
    injection e2 with e2 e3
    subst e1 e2 e3
    have h1' : numB ep = false := Bool.eq_false_iff.2 h1
    have H1 := Aside0.mk (fun W => h1' ▸ is_calls ep W)
    clear h1 h1'
    go_enter Tryd.func19, Tryd.ntmps19
    go_wp2_with (first | (go_at_call 24; (with_reducible refine (H1.out _).mono ?_); rintro e w' ⟨rfl, ⟨nd, rfl⟩⟩))
    go_ret3
    exact scanPost_nil (pw_below_drewN (Below.refl _ _) _)
  by_cases h2 : numB fi = true
  rotate_left
  · rw [if_neg (by simp [h2])] at hSC
    injection hSC with e1 e2
    injection e2 with e2 e3
    subst e1 e2 e3
    have h2' : numB fi = false := Bool.eq_false_iff.2 h2
    have H1 := Aside0.mk (fun W => h1 ▸ is_calls ep W)
    have H2 := Aside0.mk (fun W => h2' ▸ is_calls fi W)
    clear h1 h2 h2'
    go_enter Tryd.func19, Tryd.ntmps19
    go_wp2_with (first | (go_at_call 24; (with_reducible refine (H1.out _).mono ?_); rintro e w' ⟨rfl, ⟨nd, rfl⟩⟩) | (go_at_call 24; (with_reducible refine (H2.out _).mono ?_); rintro e w' ⟨rfl, ⟨nd2, rfl⟩⟩))
    go_ret3
    exact scanPost_nil (pw_below_drewN (Below.refl _ _) _)
  rw [if_pos (by simp [h1, h2])] at hSC
  injection hSC with e1 e2
  injection e2 with e2 e3
  subst e3
  have HSC0 := Aside0.mk (And.intro e1 e2)
  have H1 := Aside0.mk (fun W => h1 ▸ is_calls ep W)
  have H2 := Aside0.mk (fun W => h2 ▸ is_calls fi W)
  have HN0 := Aside0.mk (show 1 ≤ fi ∧ fi ≤ 2147483647 by simpa [numB] using h2)
  clear h1 h2 e1 e2
  go_enter Tryd.func19, Tryd.ntmps19
  go_wp2_with (first | (go_at_call 24; (with_reducible refine (H1.out _).mono ?_); rintro e w' ⟨rfl, ⟨nd, rfl⟩⟩) | (go_at_call 24; (with_reducible refine (H2.out _).mono ?_); rintro e w' ⟨rfl, ⟨nd2, rfl⟩⟩))
  go_loopg [9, 10, 11] (l0.length + 1) (fun n v9 v10 v11 w' => ∃ (E : Nat) (sq : Int) (hs : List Head) (bs : List (List Int)), v10 = .int .i64 (E : Int) ∧ v11 = .int .i64 sq ∧ 1 ≤ sq ∧ sq ≤ 2147483648 ∧ Aside0 (E ≤ l0.length ∧ hs.length * 14 ≤ E) ∧ Aside0 (l0.length - E < n) ∧ Aside0 ((bs0, n0) = (bs ++ (scan n (l0.drop E) ep sq).1, (E : Int) + (scan n (l0.drop E) ep sq).2)) ∧ Aside0 (Kd.R hdr 22 w' w.heap.size (fun _ => True) v9 hs) ∧ Aside0 (AllStay w hs bs) ∧ Aside0 (Below w.heap.size w w'))
  case atStart => exact ⟨0, fi, [], [], rfl, rfl, HN0.out.1, by have := HN0.out; omega, ⟨by simp⟩, ⟨by omega⟩, ⟨by rw [List.drop_zero, List.nil_append, ← HSC0.out.1, ← HSC0.out.2]; simp⟩, ⟨Kd.R_nil hdr _ _ _ _⟩, ⟨rfl, fun q hq => by simp at hq⟩, ⟨pw_below_drewN (Below.refl _ _) _⟩⟩
  case round =>
    obtain ⟨E, sq, hs, bs, rfl, rfl, hq1, hq2, HE, HN, HS, HO, HA, HB⟩ := hrel
    have hcut := HCUT.out E HE.out.1
    obtain ⟨PA, hPA⟩ : ∃ PA, PA = (if c0 = E then A0 else A0.map (·.add (E * 1))) := ⟨_, rfl⟩
    have HPC := Aside0.mk (fun W (hC : Kd.C (Kd.int .u8) W A0 l0.length l0) => by
      have := Kd.C_mid (lo := E) (hi := l0.length) (c := c0) hC HE.out.1 (Nat.le_refl _) HC0.out
      rw [List.take_length, show (Kd.int .u8).sz = 1 from rfl, ← hPA] at this
      exact this)
    rw [← hPA] at hcut
    have g0 : (0 : Int) ≤ (E : Int) := by omega
    clear hPA
    by_cases hq : sq ≤ 2147483647
    rotate_left
    · have b0 : decide (sq ≤ 2147483647) = false := decide_eq_false hq
      have h0 : (RD (l0.drop E) ep sq).2.2 ≠ 0 := by unfold RD; rw [if_neg (by simp [numB]; omega)]; decide
      have hh := HS.out
      rw [scan_stop _ _ _ _ h0] at hh
      simp only [List.append_nil, Int.add_zero] at hh
      injection hh with hh1 hh2
      have HH := Aside0.mk (And.intro hh1 hh2)
      clear hh1 hh2 h0 hq hcut
      go_wp2
      go_ret3
      rw [HH.out.1, HH.out.2]
      exact scanPost_stay HO.out HA.out HB.out
    have b0 : decide (sq ≤ 2147483647) = true := decide_eq_true hq
    by_cases h0 : (RD (l0.drop E) ep sq).2.2 = 0
    rotate_left
    · have hh := HS.out
      rw [scan_stop _ _ _ _ h0] at hh
      simp only [List.append_nil, Int.add_zero] at hh
      injection hh with hh1 hh2
      have HH := Aside0.mk (And.intro hh1 hh2)
      have hb0 : ((RD (l0.drop E) ep sq).2.2 != 0) = true := by simpa using h0
      have HRead := Aside0.mk (fun W hC => refRead_calls PA (c0 - E) (l0.drop E) ep sq W hC (by rw [List.length_drop]; have := HC0.out; omega) (HBY.out.drop E) (by rw [List.length_drop]; have := HL.out; omega))
      obtain ⟨X, n2, n3, hRD⟩ : ∃ X n2 n3, RD (l0.drop E) ep sq = (X, n2, n3) := ⟨_, _, _, rfl⟩
      rw [hRD] at hb0
      simp only [hRD] at HRead
      have HLD := Aside0.mk (List.length_drop (i := E) (l := l0))
      obtain ⟨D, hD⟩ : ∃ D, D = l0.drop E := ⟨_, rfl⟩
      rw [← hD] at HRead HPC
      have HDL := Aside0.mk (show D.length = l0.length - E by rw [hD, List.length_drop])
      rw [HDL.out] at HRead HPC
      clear hh1 hh2 h0 hq hRD hD HLD
      go_wp2_with (first | (go_at_call 17; refine (HRead.out _ (HPC.out _ (Kd.C_below HR.out HB.out))).mono ?_; rintro e W3 ⟨A8, c8, rfl, hc8, hC8, hb8⟩; have HB3 := Aside0.mk hb8; clear hc8 hC8 hb8))
      go_ret3
      rw [HH.out.1, HH.out.2]
      exact scanPost_stay (Kd.R_below HO.out HB3.out) HA.out (below_step HB.out HB3.out)
    obtain ⟨m, hm1, hm2, hRD, hn1, hn2, hxl⟩ := RD_ok (l0.drop E) ep sq (HBY.out.drop E) h0
    rw [List.length_drop] at hm2
    obtain ⟨n, rfl⟩ : ∃ n', gk = n' + 1 := ⟨gk - 1, by have := HN.out; omega⟩
    have HRead := Aside0.mk (fun W hC => refRead_calls PA (c0 - E) (l0.drop E) ep sq W hC (by rw [List.length_drop]; have := HC0.out; omega) (HBY.out.drop E) (by rw [List.length_drop]; have := HL.out; omega))
    have hsc := HS.out
    obtain ⟨X, hX⟩ : ∃ X, X = ((l0.drop E).drop 10).take m := ⟨_, rfl⟩
    rw [scan, if_pos h0, hRD, ← hX] at hsc
    simp only [hRD, ← hX] at HRead
    rw [← hX] at hxl
    simp only [List.drop_drop, show ((m : Int) + 14).toNat = m + 14 by omega] at hsc
    obtain ⟨D, hD⟩ : ∃ D, D = l0.drop E := ⟨_, rfl⟩
    rw [← hD] at HRead HPC
    have HDL := Aside0.mk (show D.length = l0.length - E by rw [hD, List.length_drop])
    rw [HDL.out] at HRead HPC
    have HSC := Aside0.mk hsc
    have HM := Aside0.mk (And.intro hm1 (And.intro hm2 hxl))
    clear hsc hRD h0 hm1 hm2 hn1 hn2 hX hxl hD HS hq
    go_wp2_with (first | (go_at_call 17; refine (HRead.out _ (HPC.out _ (Kd.C_below HR.out HB.out))).mono ?_; rintro e W3 ⟨A8, c8, rfl, hc8, hC8, hb8⟩; refine of_halt ?_))
    unfold G.Halt
    have HLX := Aside0.mk (show Stay w (A8, X.length, c8) X from ⟨rfl, hc8, fun W hW => hC8 W (by rw [HDL.out]; exact HPC.out _ (Kd.C_below HR.out hW))⟩)
    have HB3 := Aside0.mk hb8
    clear hb8 hC8 hc8
    go_wp2_with (first | ((with_reducible refine gate_dst (N := 43) rfl ?_); refine of_halt ?_))
    unfold G.Halt
    refine Kd.R_append hdr (w0 := w) w.heap.size rfl (.tmp 40) (.tmp 42) 36 22 (.slice none 0 0) 24 rfl Tryd.underlying36 info22 rfl (by decide) (by omega) u9 hs (A8, X.length, c8) [.slice A8 X.length c8] (fun _ => True) (fun _ => False) rfl rfl rfl (fun _ hk => hk.elim) (fun _ _ => trivial) (Kd.R_below HO.out HB3.out) (below_step HB.out HB3.out) ?aS ?aL ?_
    case aS => exact below_size (below_step HB.out HB3.out)
    case aL => have := HE.out; have := HL.out; omega
    intro v9' W7 ho7 hb7 hg7 hat7
    have HO7 := Aside0.mk ho7
    have HB7 := Aside0.mk hb7
    have e1 : wrap64 ((E : Int) + ((m : Int) + 14)) = ((E + (m + 14) : Nat) : Int) := by have := HM.out; have := HL.out; rw [Go.Proofs.YtoehjojipmeagaaDoor.E.w64' (by omega) (by omega)]; omega
    clear ho7 hb7 hg7 hat7
    have HS7 := Aside0.mk (show (bs0, n0) = ((bs ++ [X]) ++ (scan n (l0.drop (E + (m + 14))) ep (sq + 1)).1, ((E + (m + 14) : Nat) : Int) + (scan n (l0.drop (E + (m + 14))) ep (sq + 1)).2) by
      rw [HSC.out]
      refine Prod.ext (by simp) ?_
      show (E : Int) + (((m : Int) + 14) + _) = _
      push_cast
      omega)
    have HE7 := Aside0.mk (show E + (m + 14) ≤ l0.length ∧ (hs ++ [(A8, X.length, c8)]).length * 14 ≤ E + (m + 14) by
      have := HE.out; have := HM.out
      rw [List.length_append, List.length_singleton]
      omega)
    have HN7 := Aside0.mk (show l0.length - (E + (m + 14)) < n by have := HN.out; have := HM.out; omega)
    have hq3 := of_decide_eq_true b0
    have E1 := Aside0.mk e1
    clear e1
    go_wp2
    go_roundg n
    case measure => omega
    case rel => exact ⟨E + (m + 14), sq + 1, hs ++ [(A8, X.length, c8)], bs ++ [X], by rw [E1.out], by first | rfl | (congr 1; exact Go.Proofs.YtoehjojipmeagaaDoor.E.w64' (by omega) (by omega)), by omega, by omega, HE7, HN7, HS7, HO7, ⟨HA.out.snoc HLX.out⟩, HB7⟩
end Go.Proofs.YtoehjojipmeagaaDoor.X
