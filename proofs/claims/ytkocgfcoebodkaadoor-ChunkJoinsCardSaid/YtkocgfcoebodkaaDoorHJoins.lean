/- The law ChunkJoins, walked by hand. -/
import Derived.Test.YtkocgfcoebodkaaDoorHRefJoin
namespace Go.Proofs.YtkocgfcoebodkaaDoor.X
open Go.RowKit Go.Proofs.YtkocgfcoebodkaaDoorW.PrintWords Go.Proofs.YtkocgfcoebodkaaDoorW.PrintLast Go.Proofs.YtkocgfcoebodkaaDoorW.PrintMore Go.Proofs.YtkocgfcoebodkaaDoor.G Go.Proofs.YtkocgfcoebodkaaDoor.T Go.Proofs.YtkocgfcoebodkaaDoor.C
set_option linter.unusedVariables false
set_option linter.unusedSimpArgs false

def colophonlaw20_ChunkJoins.Pure : Prop := (∃ k, colophonlaw20_works.f k = some true) ∧ (∀ (l : List (List Int)) (t size : Int), l.length < 4611686018427387904 → ∃ k, chunk_Join.f k l t size = some (JN l t size)) ∧ ∀ (l : List (List Int)), l.length < 4611686018427387904 → ∃ k, colophonref18_Same.f k l l = some true
set_option maxHeartbeats 16000000 in
set_option maxRecDepth 100000 in
theorem colophonlaw20_ChunkJoins.walk (P : colophonlaw20_ChunkJoins.Pure) (B0 : Option Addr) (n0 c0 : Nat) (l : List (List Int)) (a1 a2 : Int) (w : World) (hT : Tab w) (f0 : l.length = n0 ∧ n0 ≤ c0 ∧ Kd.C (Kd.slice 5 (Kd.int .u8)) w B0 n0 l ∧ (∀ b ∈ l, ∀ n ∈ b, (Lit.int .u8 n).wf = true) ∧ ∀ b ∈ l, b.length * 1 ≤ 140737488351232) (w1 : (Lit.int .i64 a1).wf = true) (w2 : (Lit.int .i64 a2).wf = true) :
    Calls Tryd.prog 4 #[.slice B0 n0 c0, .int .i64 a1, .int .i64 a2] w fun e w' => e = .returned (.bool true) ∧ Below w.heap.size w w' := by
  obtain ⟨rfl, hc0, hr0, hwf, hsz⟩ := f0
  obtain ⟨⟨kw, hworks⟩, hJoin, hSame⟩ := P
  have HR := Aside0.mk hr0
  have HT := Aside0.mk hT
  have HC0 := Aside0.mk hc0
  have HBY := Aside0.mk (fun b hb => bytes_wf (hwf b hb))
  have HSZ := Aside0.mk hsz
  have HWk := Aside0.mk (fun W hT => colophonlaw20_works.calls kw true W hT hworks)
  clear hr0 hT hc0 w1 w2 hworks hwf hsz
  by_cases c1 : 200 < l.length
  · have c1b : decide (200 < (l.length : Int)) = true := decide_eq_true (by omega)
    have c1c : decide (200 < l.length) = true := decide_eq_true c1
    clear c1 hJoin hSame
    go_enter Tryd.func4, Tryd.ntmps4
    go_wp2_with (first | (go_at_call 8; refine (HWk.out _ HT.out).mono ?_; rintro e W1 ⟨rfl, hb1⟩))
    go_ret
    exact ⟨rfl, hb1⟩
  have c1b : decide (200 < (l.length : Int)) = false := decide_eq_false (by omega)
  have c1c : decide (200 < l.length) = false := decide_eq_false c1
  by_cases c2 : 100000 < a2 ∧ a2 ≤ 221184
  · have c2b : decide (100000 < a2) = true := decide_eq_true c2.1
    have c2c : decide (a2 ≤ 221184) = true := decide_eq_true c2.2
    clear c1 c2 hJoin hSame
    go_enter Tryd.func4, Tryd.ntmps4
    go_wp2_with (first | (go_at_call 8; refine (HWk.out _ HT.out).mono ?_; rintro e W1 ⟨rfl, hb1⟩))
    go_ret
    exact ⟨rfl, hb1⟩
  obtain ⟨kj, hj⟩ := hJoin l a1 a2 (by omega)
  obtain ⟨ks, hs⟩ := hSame l (by omega)
  have HRef := Aside0.mk (fun W hC => refJoin_calls B0 c0 l a1 a2 W hC HBY.out)
  generalize JN l a1 a2 = xr at hj HRef
  obtain ⟨X, r⟩ := xr
  have HJoin := Aside0.mk (fun A c W hT hC hc => chunk_Join.calls kj A c l a1 a2 X r W hT hC hc hj)
  have HSame := Aside0.mk (fun A c W h1 h2 h3 h4 => colophonref18_Same.calls ks A c l B0 c0 l true W h1 h2 h3 h4 hs)
  have HLL := Aside0.mk (show l.length ≤ 200 by omega)
  have info5 : (Tryd.prog.info? 5).map (fun i => (i.zero, i.size, i.bytes)) = some (some (.int .u8 0), 1, 1) := by kernel_rfl
  have info22 : (Tryd.prog.info? 22).map (fun i => (i.zero, i.size, i.bytes)) = some (some (.slice none 0 0), 1, 24) := by kernel_rfl
  have hcase : (decide (100000 < a2) = false) ∨ (decide (100000 < a2) = true ∧ decide (a2 ≤ 221184) = false) := by
    by_cases h : 100000 < a2
    · exact Or.inr ⟨decide_eq_true h, decide_eq_false (fun h2 => c2 ⟨h, h2⟩)⟩
    · exact Or.inl (decide_eq_false h)
  clear hj hs hJoin hSame c1 c2
  rcases hcase with d1 | ⟨d1, d2⟩
  all_goals
    go_enter Tryd.func4, Tryd.ntmps4
    go_wp2
    (try clear d2)
    clear d1 c1b c1c
    go_loopg [7, 29] (l.length + 1) (fun kq v7 v29 w' => ∃ (k : Nat) (V : World), v29 = .int .i64 (k : Int) ∧ V = w' ∧ Aside0 (k ≤ l.length) ∧ Aside0 (kq + k = l.length + 1) ∧ Aside0 (Kd.S (Kd.slice 5 (Kd.int .u8)) 22 w' w.heap.size (fun _ => True) v7 (l.take k)) ∧ Aside0 (Below w.heap.size w w'))
    case atStart => exact ⟨0, _, rfl, rfl, ⟨Nat.zero_le _⟩, ⟨rfl⟩, ⟨Kd.S_nil _ _ _ _ _⟩, ⟨Below.refl _ _⟩⟩
    case round =>
      obtain ⟨k, V, rfl, rfl, HI, HK, HO, HB⟩ := hrel
      by_cases c2 : k < l.length
      · have c2b : decide (k < l.length) = true := decide_eq_true c2
        obtain ⟨ad, A1, cc1, e, hx, hl1, hC1⟩ := at_L2 HR.out (k : Int) (by omega) (by omega)
        cases e
        obtain ⟨b, hbd⟩ : ∃ b, b = l.getD k [] := ⟨_, rfl⟩
        rw [rdL2, ← hbd] at hx hl1 hC1
        rw [Int.toNat_natCast] at hx
        replace hx := (HB.out.cell (World.block_lt_of_cell? w _ hx)).trans hx
        have hbm : b ∈ l := by rw [hbd, List.getD_eq_getElem?_getD, List.getElem?_eq_getElem c2]; exact List.getElem_mem _
        have p1 : ((k : Int) < (l.length : Int)) = True := eq_true (Int.ofNat_lt.2 c2)
        have q1 : (k < l.length) = True := eq_true c2
        have HBL := Aside0.mk (HSZ.out b hbm)
        have HTK := Aside0.mk (show l.take k ++ [b] = l.take (k + 1) by rw [List.take_succ_eq_append_getElem c2, hbd, List.getD_eq_getElem?_getD, List.getElem?_eq_getElem c2]; rfl)
        have HC2 := Aside0.mk c2
        have HC1 := Aside0.mk hC1
        clear hbd c2 hbm hC1 hl1
        go_wp2_with (first | ((with_reducible refine gate_dst (N := 36) rfl ?_); refine of_halt ?_))
        unfold G.Halt
        have hO : ∀ W : World, Kd.R (Kd.int .u8) 5 (W.alloc (Obj.cells #[] 5)) W.heap.size (fun _ => True) (.slice (some ⟨W.heap.size, 0, none⟩) 0 0) [] := fun W => ⟨fun _ _ => trivial, OwnRow.lit W W.heap.size (ps := []) (inner := []) (Reps.none _ _) (Nat.le_refl _) (by simp)⟩
        refine Kd.R_append_row (w0 := V) (Value.int .u8) 0 V.heap.size rfl (.tmp 34) (.tmp 35) 22 5 (.int .u8 0) 1 rfl Tryd.underlying22 info5 rfl (by omega) (.slice (some ⟨V.heap.size, 0, none⟩) 0 0) [] b A1 b.length cc1 (fun _ => True) rfl rfl (fun _ _ => trivial) (hO V) (Kd.C_alloc (Kd.C_below HC1.out HB.out) _) (below_alloc (Below.refl _ _) _) (below_alloc (Below.refl _ _) _).size (by have := HBL.out; simp; omega) ?_
        intro v36 W1 ho0 hb hg hat
        simp only [List.nil_append] at ho0
        have n0_ := Aside0.mk (Kd.S_elder' HO.out (Kd.R_base ho0) hb)
        have n1_ := Aside0.mk (Kd.R_lower ho0 (below_size HB.out))
        have n2_ := Aside0.mk (below_step HB.out hb)
        clear HO HB hb hg hat ho0 hO hx HC1
        obtain ⟨A36, c36, rfl⟩ := Kd.R_slice n1_.out
        go_wp2_with (first | ((with_reducible refine gate_builtin (b := .append) (xs := #[.tmp 33, .tmp 37]) rfl ?_); at_builtin; refine of_halt ?_))
        unfold G.Halt
        refine Kd.S_append (Kd.slice 5 (Kd.int .u8)) (w0 := w) w.heap.size rfl (.tmp 33) (.tmp 37) 24 22 (.slice none 0 0) 24 rfl Tryd.underlying24 info22 rfl (by decide) (by omega) _ (l.take k) b [.slice A36 b.length c36] (fun _ => True) (fun k_ => some k_ = (.slice A36 b.length c36 : Value).ownBlock) rfl rfl ?aP (fun k_ hk_ => ((Kd.R_mono (ok' := fun k_ => ((fun _ => True)) k_ ∧ some k_ ≠ (_ : Value).ownBlock) (Kd.R_apart' (n1_.out) (Kd.S_typed n0_.out) (by decide)) (fun k_ hk => ⟨trivial, hk.2⟩))).1 k_ hk_.symm) ?aF ?aO ?aB ?aS ?aL ?_
        case aP => exact Kd.M_row (Kd.R_mono (Kd.R_tight rfl (Kd.R_mono (ok' := fun k_ => ((fun _ => True)) k_ ∧ some k_ ≠ (_ : Value).ownBlock) (Kd.R_apart' (n1_.out) (Kd.S_typed n0_.out) (by decide)) (fun k_ hk => ⟨trivial, hk.2⟩))) (fun _ h_ => h_))
        case aB => exact n2_.out
        case aF => exact fun _ _ => trivial
        case aO => exact Kd.S_mono n0_.out (fun k_ hk => ⟨trivial, fun e_ => hk.2 e_⟩)
        case aS => exact below_size n2_.out
        case aL => have := HLL.out; have := HC2.out; rw [List.length_take]; omega
        intro v38 W2 ho hb hg hat
        rw [HTK.out] at ho
        have HO2 := Aside0.mk ho
        have HB2 := Aside0.mk hb
        clear ho hb hg hat n0_ n1_ n2_
        go_wp2
        go_roundg (gk - 1)
        case measure => have := HK.out; have := HC2.out; omega
        case rel => exact ⟨k + 1, _, by rw [show wrap64 ((k : Int) + 1) = ((k + 1 : Nat) : Int) from by have := HLL.out; have := HC2.out; unfold wrap64; omega], rfl, ⟨by have := HC2.out; omega⟩, ⟨by have := HK.out; have := HC2.out; omega⟩, HO2, HB2⟩
      · have c2b : decide (k < l.length) = false := decide_eq_false c2
        obtain rfl : k = l.length := by have := HI.out; omega
        have ho := HO.out
        rw [List.take_length] at ho
        obtain ⟨A7, c7, rfl, hl7, hC7⟩ := Kd.S_reads ho
        have HO7 := Aside0.mk ho
        have HL7 := Aside0.mk hl7
        have HJ := Aside0.mk (HJoin.out A7 c7 _ (Kd.C_below HT.out HB.out) hC7 hl7)
        clear ho hl7 hC7 c2 HO HJoin info5 info22 HK HI
        go_wp2_with (first | (go_at_call 14; refine HJ.out.mono ?_; rintro e W3 ⟨v8, rfl, ho8, hb8⟩; refine of_halt ?_))
        unfold G.Halt
        obtain ⟨A8, c8, rfl, hc8, hC8⟩ := Kd.R_reads ho8
        have HQ3 := Aside0.mk (Kd.Q_of_R ho8)
        have HB3 := Aside0.mk hb8
        have HC8 := Aside0.mk hC8
        clear ho8 hb8 hC8 hc8 HJ
        have HR2 := Aside0.mk (HRef.out W3 (Kd.C_below HR.out (below_step HB.out HB3.out)))
        go_wp2_with (first | (go_at_call 15; refine HR2.out.mono ?_; rintro e W4 ⟨A11, c11, rfl, hC11, hb11⟩; refine of_halt ?_))
        unfold G.Halt
        have HB4 := Aside0.mk (below_step HB3.out hb11)
        have HQ4 := Aside0.mk (Kd.Q_below HQ3.out hb11)
        have hcv1 := Kd.C_string (P := Tryd.prog) (src := 22) (dst := 9) Tryd.underlying22 Tryd.underlying5 Tryd.underlying9 (c := c8) (Kd.C_below HC8.out hb11)
        have hcv2 := Kd.C_string (P := Tryd.prog) (src := 22) (dst := 9) Tryd.underlying22 Tryd.underlying5 Tryd.underlying9 (c := c11) hC11
        clear hb11 hC11 HR2
        go_upto_block 2 with (fail)
        clear hcv1 hcv2 c2b
        go_wp2
        go_loopg [66] (X.length + 1) (fun kq v66 w5 => ∃ (y : List Int) (x : Int), v66 = .int .i64 x ∧ Aside0 (0 ≤ x ∧ x ≤ X.length) ∧ Aside0 (kq + x.toNat = X.length + 1) ∧ Aside0 (y.length = X.length) ∧ Aside0 (Kd.Q (Kd.int .u8) 5 w5 V.heap.size (fun _ => True) (.slice A8 X.length c8) y) ∧ Aside0 (Below V.heap.size V w5))
        case atStart => exact ⟨X, 0, rfl, ⟨by omega⟩, ⟨rfl⟩, ⟨rfl⟩, HQ4, HB4⟩
        case round =>
          clear HQ4 HB4 HQ3 HB3
          obtain ⟨y, x, rfl, HIx, HKx, HY, HQ, HBx⟩ := hrel
          by_cases c2 : x < (X.length : Int)
          · have c2b : decide (x < (X.length : Int)) = true := decide_eq_true c2
            obtain ⟨g, o, cap, e, hgb, _⟩ := Kd.Q_form HQ.out (by have := HY.out; have := HIx.out; omega)
            injection e with e1 e2 e3
            subst e1 e3
            clear e2
            obtain ⟨hx, hf⟩ := Kd.Q_cell 0 HQ.out x HIx.out.1 c2
            have p1 : (0 ≤ x) = True := eq_true HIx.out.1
            have q1 : (x < (X.length : Int)) = True := eq_true c2
            have HC2 := Aside0.mk c2
            have HG := Aside0.mk hgb
            clear c2 hgb
            go_wp2
            go_roundg (gk - 1)
            case measure => have := HKx.out; have := HIx.out; have := HC2.out; omega
            case rel => exact ⟨_, x + 1, by rw [show wrap64 (x + 1) = x + 1 from by have := HIx.out; have := HC2.out; have := Kd.C_max HC8.out; unfold wrap64; omega], ⟨by have := HIx.out; have := HC2.out; omega⟩, ⟨by have := HKx.out; have := HIx.out; have := HC2.out; omega⟩, ⟨by rw [List.length_set]; exact HY.out⟩, ⟨(Kd.Q_putg HQ.out x HIx.out.1 HC2.out _).1⟩, ⟨HBx.out.setCell (p := ⟨g, o + x.toNat, none⟩) HG.out _⟩⟩
          · have h4 : x = X.length := by have := HIx.out; omega
            have c2b : decide (x < (X.length : Int)) = false := decide_eq_false c2
            have HBw := Aside0.mk (below_step HB.out HBx.out)
            have HS := Aside0.mk (HSame.out A7 c7 _ (Kd.S_reads' (Kd.S_below HO7.out HBx.out)).2.2 HL7.out (Kd.C_below HR.out HBw.out) HC0.out)
            go_wp2_with (first | (go_at_call 11; refine HS.out.mono ?_; rintro e W8 ⟨rfl, ⟨nd, rfl⟩⟩; have HW := Aside0.mk (HWk.out _ (Kd.C_below HT.out (pw_below_drewN HBw.out nd)))) | (go_at_call 8; refine HW.out.mono ?_; rintro e w9 ⟨rfl, hb9⟩))
            go_ret
            exact ⟨rfl, below_step (pw_below_drewN HBw.out _) hb9⟩
end Go.Proofs.YtkocgfcoebodkaaDoor.X
