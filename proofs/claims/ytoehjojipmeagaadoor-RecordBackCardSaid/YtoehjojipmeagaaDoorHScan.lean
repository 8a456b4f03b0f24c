/- record.Scan by hand. -/
import Derived.Test.YtoehjojipmeagaaDoorHHdr
namespace Go.Proofs.YtoehjojipmeagaaDoor.X
open Go.RowKit Go.Proofs.YtoehjojipmeagaaDoorW.PrintWords Go.Proofs.YtoehjojipmeagaaDoorW.PrintLast Go.Proofs.YtoehjojipmeagaaDoorW.PrintMore Go.Proofs.YtoehjojipmeagaaDoor.G Go.Proofs.YtoehjojipmeagaaDoor.T Go.Proofs.YtoehjojipmeagaaDoor.Pure
set_option linter.unusedVariables false
set_option linter.unusedSimpArgs false

set_option maxHeartbeats 16000000 in
set_option maxRecDepth 1000000 in
theorem Scan_calls (A0 : Option Addr) (c0 : Nat) (l0 : List Int) (ep fi : Int) (w : World) (hT : Tab w) (hr0 : Kd.C (Kd.int .u8) w A0 l0.length l0) (hc0 : l0.length ≤ c0) (hby : Bytes l0) (hl : l0.length ≤ 1000000) :
    Calls Tryd.prog 18 #[.slice A0 l0.length c0, .int .i64 ep, .int .i64 fi] w (ScanPost w (SC l0 ep fi).1 (SC l0 ep fi).2.1 (SC l0 ep fi).2.2) := by
  have info5 : (Tryd.prog.info? 5).map (fun i => (i.zero, i.size, i.bytes)) = some (some (.int .u8 0), 1, 1) := by kernel_rfl
  have info22 : (Tryd.prog.info? 22).map (fun i => (i.zero, i.size, i.bytes)) = some (some (.slice none 0 0), 1, 24) := by kernel_rfl
  obtain ⟨i5, hi5, hi5z, hi5s, hi5b⟩ := info_parts info5
  have hcutE : ∀ (E : Nat), E ≤ l0.length → ∀ W, (Instr.slice 22 (.slice A0 l0.length c0) (some (.int .i64 (E : Int))) none none).run Tryd.prog W = .ok (.slice (if c0 = E then A0 else A0.map (·.add (E * 1))) (l0.length - E) (c0 - E)) W := fun E hE W => by
    have := cut_from 22 5 .i64 Tryd.underlying22 hi5 1 hi5s A0 l0.length c0 (E : Int) (by omega) (by omega) W
    rwa [Int.toNat_natCast] at this
  have HCUT := Aside0.mk hcutE
  have hlit := C_block (k := .i64) (w := w.alloc (.cells #[.int .i64 ep, .int .i64 fi] 3)) (g := w.heap.size) [ep, fi] (heap_alloc_new w _) rfl (by simp)
  have hnum := Aside0.mk (numbered_calls (some ⟨w.heap.size, 0, none⟩) 2 [ep, fi] _ hlit (by simp))
  have HB1 := Aside0.mk (below_alloc (Below.refl w.heap.size w) (.cells #[.int .i64 ep, .int .i64 fi] 3))
  have HT := Aside0.mk hT
  have HR := Aside0.mk hr0
  have HC0 := Aside0.mk hc0
  have HBY := Aside0.mk hby
  have HL := Aside0.mk hl
  clear hT hr0 hc0 hby hl hlit hi5 hi5z hi5s hi5b hcutE info5
  obtain ⟨bs0, n0, r0, hSC⟩ : ∃ bs0 n0 r0, SC l0 ep fi = (bs0, n0, r0) := ⟨_, _, _, rfl⟩
  rw [hSC]
  unfold SC at hSC
  by_cases hn : [ep, fi].all numB = true
  rotate_left
  · rw [if_neg hn] at hSC
    injection hSC with h1 h2
    injection h2 with h2 h3
    subst h1 h2 h3
    rw [Bool.eq_false_iff.2 hn] at hnum
    clear hn
    go_enter Tryd.func18, Tryd.ntmps18
    go_wp2
    go_step3
    go_wp2_with (first | (go_at_call 22; refine hnum.out.mono ?_; rintro e w' ⟨rfl, rfl⟩))
    try simp only [Exit.jump]
    go_ret3
    exact scanPost_nil HB1.out
  rw [if_pos hn] at hSC
  rw [hn] at hnum
  injection hSC with h1 h2
  injection h2 with h2 h3
  subst h3
  have HSC0 := Aside0.mk (And.intro h1 h2)
  have HN0 := Aside0.mk (show (1 ≤ ep ∧ ep ≤ 2147483647) ∧ (1 ≤ fi ∧ fi ≤ 2147483647) by simpa [numB] using hn)
  clear hn h1 h2
  go_enter Tryd.func18, Tryd.ntmps18
  go_wp2
  refine wp_scope_again 0 (fun a' w' => ∃ (v6 : Value) (E n : Nat) (sq : Int) (hs : List Head) (bs : List (List Int)) (u3 u4 u5 u8 u10 u11 u12 u13 u14 u15 u16 u17 u18 u19 u20 u21 u22 u23 u24 u25 u26 u27 u28 u29 u30 u31 u32 u33 u34 u35 u36 u37 u38 u39 u40 : Value), a' = { tmps := #[.slice A0 l0.length c0, .int .i64 ep, .int .i64 fi, u3, u4, u5, v6, .int .i64 (E : Int), u8, .int .i64 sq, u10, u11, u12, u13, u14, u15, u16, u17, u18, u19, u20, u21, u22, u23, u24, u25, u26, u27, u28, u29, u30, u31, u32, u33, u34, u35, u36, u37, u38, u39, u40], defers := [] } ∧ Aside0 (E ≤ l0.length ∧ hs.length * 14 ≤ E) ∧ Aside0 (l0.length - E < n) ∧ Aside0 ((bs0, n0) = (bs ++ (scan n (l0.drop E) ep sq).1, (E : Int) + (scan n (l0.drop E) ep sq).2)) ∧ Aside0 (Kd.R hdr 22 w' w.heap.size (fun _ => True) v6 hs) ∧ Aside0 (AllLie w' hs bs) ∧ Aside0 (Below w.heap.size w w')) (fun a' _ => l0.length + 1 - (intOf (a'.tmps.getD 7 undef)).toNat) rfl ?_ ?_
  · rintro a' wr ⟨v6, E, n, sq, hs, bs, u3, u4, u5, u8, u10, u11, u12, u13, u14, u15, u16, u17, u18, u19, u20, u21, u22, u23, u24, u25, u26, u27, u28, u29, u30, u31, u32, u33, u34, u35, u36, u37, u38, u39, u40, rfl, HE, HN, HS, HO, HA, HB⟩
    have hcut := HCUT.out E HE.out.1
    obtain ⟨PA, hPA⟩ : ∃ PA, PA = (if c0 = E then A0 else A0.map (·.add (E * 1))) := ⟨_, rfl⟩
    have HPC := Aside0.mk (fun W (hC : Kd.C (Kd.int .u8) W A0 l0.length l0) => by
      have := Kd.C_mid (lo := E) (hi := l0.length) (c := c0) hC HE.out.1 (Nat.le_refl _) HC0.out
      rw [List.take_length, show (Kd.int .u8).sz = 1 from rfl, ← hPA, List.length_drop] at this
      exact this)
    rw [← hPA] at hcut
    have hsc := HS.out
    have g0 : (0 : Int) ≤ (E : Int) := by omega
    clear hPA HS
    have hPC := True.intro
    by_cases h0 : (RD (l0.drop E) ep sq).2.2 = 0
    rotate_left
    · -- the end
      have hst := scan_stop n _ ep sq h0
      rw [hst] at hsc
      simp only [List.append_nil, Int.add_zero] at hsc
      have hb0 : ((RD (l0.drop E) ep sq).2.2 != 0) = true := by simpa using h0
      obtain ⟨kr, hkr⟩ := Ev.rounds (Read_ev (l0.drop E) ep sq (HBY.out.drop E) (by rw [List.length_drop]; have := HL.out; omega))
      obtain ⟨X, n2, n3, hRD⟩ : ∃ X n2 n3, RD (l0.drop E) ep sq = (X, n2, n3) := ⟨_, _, _, rfl⟩
      rw [hRD] at hb0 hkr
      have HRead := Aside0.mk (fun W hT hC => record_Read.calls kr PA (c0 - E) (l0.drop E) ep sq X n2 n3 W hT hC (by rw [List.length_drop]; have := HC0.out; omega) hkr)
      rw [List.length_drop] at HRead
      have HSC := Aside0.mk hsc
      clear hst hsc hkr hRD h0 hPC
      go_wp2_with (first | (go_at_call 16; refine (HRead.out _ (Kd.C_below HT.out HB.out) (HPC.out _ (Kd.C_below HR.out HB.out))).mono ?_; rintro e W3 ⟨v8, rfl, ho8, hb8⟩; have HB3 := Aside0.mk hb8; clear ho8 hb8))
      simp only [Exit.jump]
      go_ret3
      have hh := HSC.out
      injection hh with hh1 hh2
      rw [hh1, hh2]
      exact scanPost_of (Kd.R_below HO.out HB3.out) (HA.out.below HB3.out) (below_step HB.out HB3.out)
    obtain ⟨m, hm1, hm2, hRD, hn1, hn2, hxl⟩ := RD_ok (l0.drop E) ep sq (HBY.out.drop E) h0
    rw [List.length_drop] at hm2
    obtain ⟨n, rfl⟩ : ∃ n', n = n' + 1 := ⟨n - 1, by have := HN.out; omega⟩
    obtain ⟨kr, hkr⟩ := Ev.rounds (Read_ev (l0.drop E) ep sq (HBY.out.drop E) (by rw [List.length_drop]; have := HL.out; omega))
    rw [hRD] at hkr
    obtain ⟨X, hX⟩ : ∃ X, X = ((l0.drop E).drop 10).take m := ⟨_, rfl⟩
    rw [scan, if_pos h0, hRD, ← hX] at hsc
    rw [← hX] at hkr hxl
    simp only [List.drop_drop, show ((m : Int) + 14).toNat = m + 14 by omega] at hsc
    have HRead := Aside0.mk (fun W hT hC => record_Read.calls kr PA (c0 - E) (l0.drop E) ep sq X _ _ W hT hC (by rw [List.length_drop]; have := HC0.out; omega) hkr)
    rw [List.length_drop] at HRead
    have HSC := Aside0.mk hsc
    have HM := Aside0.mk (And.intro hm1 (And.intro hm2 hxl))
    have HN2 := Aside0.mk (show 1 ≤ sq ∧ sq ≤ 2147483647 by simpa [numB] using hn2)
    clear hsc hkr hRD h0 hPC hm1 hm2 hn1 hn2 hX hxl
    go_wp2_with (first | (go_at_call 16; refine (HRead.out _ (Kd.C_below HT.out HB.out) (HPC.out _ (Kd.C_below HR.out HB.out))).mono ?_; rintro e W3 ⟨v8, rfl, ho8, hb8⟩; refine of_halt ?_))
    unfold G.Halt
    obtain ⟨A8, c8, rfl, hc8, hC8⟩ := Kd.Q_reads ho8
    have HLX := Aside0.mk (lies_of_Q ho8)
    have HB3 := Aside0.mk hb8
    clear ho8 hb8 hC8 hc8
    go_wp2_with (first | ((with_reducible refine gate_dst (N := 35) rfl ?_); refine of_halt ?_))
    unfold G.Halt
    refine Kd.R_append hdr (w0 := w) w.heap.size rfl (.tmp 32) (.tmp 34) 36 22 (.slice none 0 0) 24 rfl Tryd.underlying36 info22 rfl (by decide) (by omega) v6 hs (A8, X.length, c8) [.slice A8 X.length c8] (fun _ => True) (fun _ => False) rfl rfl rfl (fun _ hk => hk.elim) (fun _ _ => trivial) (Kd.R_below HO.out HB3.out) (below_step HB.out HB3.out) ?aS ?aL ?_
    case aS => exact below_size (below_step HB.out HB3.out)
    case aL => have := HE.out; have := HL.out; omega
    intro v6' W7 ho7 hb7 hg7 hat7
    have HA7 := Aside0.mk (((HA.out.below HB3.out).snoc HLX.out).grown hg7 (row_typed (Kd.R_below HO.out HB3.out) (by decide)))
    have HO7 := Aside0.mk ho7
    have HB7 := Aside0.mk hb7
    have e1 : wrap64 ((E : Int) + ((m : Int) + 14)) = ((E + (m + 14) : Nat) : Int) := by have := HM.out; have := HL.out; rw [Go.Proofs.YtoehjojipmeagaaDoor.E.w64' (by omega) (by omega)]; omega
    have e2 : wrap64 (sq + 1) = sq + 1 := by have := HN2.out; exact Go.Proofs.YtoehjojipmeagaaDoor.E.w64' (by omega) (by omega)
    clear ho7 hb7 hg7 hat7
    go_wp2
    go_step3
    have HS7 := Aside0.mk (show (bs0, n0) = ((bs ++ [X]) ++ (scan n (l0.drop (E + (m + 14))) ep (sq + 1)).1, ((E + (m + 14) : Nat) : Int) + (scan n (l0.drop (E + (m + 14))) ep (sq + 1)).2) by
      rw [HSC.out]
      refine Prod.ext (by simp) ?_
      show (E : Int) + (((m : Int) + 14) + _) = _
      push_cast
      omega)
    have HE7 := Aside0.mk (show E + (m + 14) ≤ l0.length ∧ (hs ++ [(A8, X.length, c8)]).length * 14 ≤ E + (m + 14) by
      have := HE.out; have := HM.out
      rw [List.length_append, List.length_singleton]
      omega)
    have HN7 := Aside0.mk (show l0.length - (E + (m + 14)) < n by have := HN.out; have := HM.out; omega)
    rw [e1, e2]
    clear e1 e2
    refine ⟨rfl, ⟨v6', E + (m + 14), n, sq + 1, hs ++ [(A8, X.length, c8)], bs ++ [X], _, _, _, _, _, _, _, _, _, _, _, _, _, _, _, _, _, _, _, _, _, _, _, _, _, _, _, _, _, _, _, _, _, _, _, rfl, HE7, HN7, HS7, HO7, HA7, HB7⟩, ?_⟩
    simp [intOf]
    have := HE.out
    have := HM.out
    omega
  · intro enter
    have HEN := Aside0.mk enter
    clear enter
    go_wp2_with (first | (go_at_call 22; refine hnum.out.mono ?_; rintro e w' ⟨rfl, rfl⟩))
    go_step3
    go_step
    go_step
    refine wp_mono (HEN.out _ _ ⟨.slice none 0 0, 0, l0.length + 1, fi, [], [], _, _, _, _, _, _, _, _, _, _, _, _, _, _, _, _, _, _, _, _, _, _, _, _, _, _, _, _, _, _, _, _, _, _, _, rfl, ⟨by simp⟩, ⟨by omega⟩, ⟨?_⟩, ⟨Kd.R_nil hdr _ _ _ _⟩, ⟨rfl, fun q hq => by simp at hq⟩, HB1⟩) (fun _ _ _ h => h)
    rw [List.drop_zero, List.nil_append, ← HSC0.out.1, ← HSC0.out.2]
    simp
end Go.Proofs.YtoehjojipmeagaaDoor.X
