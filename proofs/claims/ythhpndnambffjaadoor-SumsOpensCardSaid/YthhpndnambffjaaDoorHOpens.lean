/- The law SumsOpens, walked by hand. -/
import Derived.Test.YthhpndnambffjaaDoorHRefOpen2
namespace Go.Proofs.YthhpndnambffjaaDoor.X
open Go.RowKit Go.Proofs.YthhpndnambffjaaDoorW.PrintWords Go.Proofs.YthhpndnambffjaaDoorW.PrintLast Go.Proofs.YthhpndnambffjaaDoorW.PrintMore Go.Proofs.YthhpndnambffjaaDoor.G Go.Proofs.YthhpndnambffjaaDoor.T
set_option linter.unusedVariables false
set_option linter.unusedSimpArgs false

/-- The pure statement: what is sealed, and what is opened, is as the document has it. -/
def colophonlaw02_SumsOpens.Pure : Prop := ∀ (l : List Int), Bytes l → l.length ≤ 140737488351232 → sums_Seal.f l = some (l ++ bytes4 (crc l)) ∧ (∃ k, colophonref02_Seal.f k l = some (l ++ bytes4 (crc l))) ∧ sums_Open.f l = some (RO l)
def sevens : List Int := [7, 7, 7, 7, 7]
set_option maxHeartbeats 16000000 in
set_option maxRecDepth 100000 in
theorem colophonlaw02_SumsOpens.walk (P : colophonlaw02_SumsOpens.Pure) (a0 : Option Addr) (len0 cap0 : Nat) (z0 : List Int) (w : World) (hT : Tab w) (w0 : (a0 = none ∧ len0 = 0 ∧ cap0 = 0 ∧ z0 = []) ∨ ∃ x, a0 = some x ∧ len0 ≤ cap0 ∧ cap0 ≤ maxLen ∧ z0.length = cap0 ∧ (∀ i, i < z0.length → w.cell? (x.add i) = some (.int .u8 (z0.getD i 0))) ∧ ∀ n ∈ z0, (Lit.int .u8 n).wf = true) (y0 : len0 * 1 ≤ 140737488351232) :
    Calls Tryd.prog 4 #[.slice a0 len0 cap0] w fun e w' => e = .returned (.bool true) ∧ Below w.heap.size w w' := by
  obtain ⟨l0, rfl, hr0, hm0, hw0, hc0⟩ := ReadsInt.ofRowC w0
  have hby := bytes_wf hw0
  have hll : l0.length ≤ 140737488351232 := by omega
  obtain ⟨hA, ⟨k, hB⟩, hOp⟩ := P l0 hby hll
  have HR := Aside0.mk (show Kd.C (Kd.int .u8) w a0 l0.length l0 from Kd.C_of_reads (d := (0 : Int)) (h1 := fun _ => rfl) hr0)
  have HT := Aside0.mk hT
  have HL := Aside0.mk hll
  have HC0 := Aside0.mk hc0
  have HRef := Aside0.mk (fun W hC => refOpen_calls a0 cap0 l0 W hC hc0 hby hll)
  have HRefS := Aside0.mk (fun W h2 => colophonref02_Seal.calls k a0 cap0 l0 _ W h2 hc0 hB)
  generalize hRO : RO l0 = rr at *
  obtain ⟨X, n2⟩ := rr
  generalize hSL : l0 ++ bytes4 (crc l0) = SL at *
  have HSeal := Aside0.mk (fun W A c hT hC hc => sums_Seal.calls A c l0 SL W hT hC hc hA)
  have HOpen := Aside0.mk (fun W A c hT hC hc => sums_Open.calls A c l0 X n2 W hT hC hc hOp)
  have info5 : (Tryd.prog.info? 5).map (fun i => (i.zero, i.size, i.bytes)) = some (some (.int .u8 0), 1, 1) := by kernel_rfl
  have hnm : colophonlaw02_names.f = some true := rfl
  have C0 := Aside0.mk (fun W => colophonlaw02_names.calls true W hnm)
  clear hr0 hT w0 P hm0 hw0 hc0 hby hll hA hB hOp hRO hSL y0 hnm
  go_enter Tryd.func4, Tryd.ntmps4
  go_wp2_with (first | ((with_reducible refine gate_dst (N := 12) rfl ?_); refine of_halt ?_))
  unfold G.Halt
  have hO : Kd.R (Kd.int .u8) 5 (w.alloc (Obj.cells #[] 5)) w.heap.size (fun _ => True) (.slice (some ⟨w.heap.size, 0, none⟩) 0 0) [] := ⟨fun _ _ => trivial, OwnRow.lit w w.heap.size (ps := []) (inner := []) (Reps.none _ _) (Nat.le_refl _) (by simp)⟩
  refine Kd.R_append_row (w0 := w) (Value.int .u8) 0 w.heap.size rfl (.tmp 10) (.tmp 11) 22 5 (.int .u8 0) 1 rfl Tryd.underlying22 info5 rfl (by omega) (.slice (some ⟨w.heap.size, 0, none⟩) 0 0) [] l0 a0 l0.length cap0 (fun _ => True) rfl rfl (fun _ _ => trivial) hO (Kd.C_alloc HR.out _) (below_alloc (Below.refl _ _) _) (by simp) (by have := HL.out; simp; omega) ?_
  intro v12 W1 ho12 hb12 hg12 hat12
  simp only [List.nil_append] at ho12
  have HB1 := Aside0.mk hb12
  have HO12 := Aside0.mk ho12
  clear ho12 hb12 hg12 hat12 hO
  go_wp2_with (first | ((with_reducible refine gate_dst (N := 14) rfl ?_); refine of_halt ?_))
  unfold G.Halt
  have hbk := heap_alloc_new W1 (Obj.cells #[.int .u8 7, .int .u8 7, .int .u8 7, .int .u8 7, .int .u8 7] 5)
  refine Kd.R_append_row (w0 := w) (Value.int .u8) 0 w.heap.size rfl (.tmp 12) (.tmp 13) 22 5 (.int .u8 0) 1 rfl Tryd.underlying22 info5 rfl (by omega) v12 l0 sevens (some ⟨W1.heap.size, 0, none⟩) 5 5 (fun _ => True) rfl rfl (fun _ _ => trivial) (Kd.R_alloc HO12.out _) (C_block sevens hbk rfl (by decide)) (below_alloc HB1.out _) (Nat.le_trans HB1.out.size (by simp)) (by have := HL.out; omega) ?_
  intro v14 W2 ho14 hb14 hg14 hat14
  clear hg14 hat14 hbk
  obtain ⟨A3, c3, rfl, hc3, hC3⟩ := Kd.R_reads ho14
  have hl5 : (l0 ++ sevens).length = l0.length + 5 := by simp [sevens]
  rw [hl5] at hc3 hC3
  have hcell7 : ∀ W, Kd.C (Kd.int .u8) W A3 (l0.length + 5) (l0 ++ sevens) → ∃ ad, A3 = some ad ∧ W.cell? (ad.add l0.length) = some (.int .u8 7) := by
    intro W hC
    obtain ⟨ad, e, hx⟩ := Kd.at_int hC (l0.length : Int) (by omega) (by omega)
    refine ⟨ad, e, ?_⟩
    rw [Int.toNat_natCast] at hx
    rw [hx]
    simp [rd, sevens]
  obtain ⟨ad3, rfl, _⟩ := hcell7 _ hC3
  have hcell : ∀ W, Kd.C (Kd.int .u8) W (some ad3) (l0.length + 5) (l0 ++ sevens) → W.cell? (ad3.add l0.length) = some (.int .u8 7) := by
    intro W hC
    obtain ⟨ad, e, hx⟩ := hcell7 W hC
    injection e with e
    subst e
    exact hx
  have hown : ∀ W, Kd.C (Kd.int .u8) W (some ad3) (l0.length + 5) (l0 ++ sevens) → Kd.C (Kd.int .u8) W (some ad3) l0.length l0 := by
    intro W hC
    rw [← hl5] at hC
    have := Kd.C_take (m := l0.length) hC (by omega)
    rwa [List.take_left] at this
  have HCell := Aside0.mk hcell
  have HOwn := Aside0.mk hown
  have HB2 := Aside0.mk hb14
  have HC3 := Aside0.mk hC3
  have hc3a : (l0.length ≤ c3) = True := eq_true (by omega)
  have hc3b : (l0.length + 1 ≤ c3) = True := eq_true (by omega)
  have hc3c : l0.length ≤ c3 := by omega
  clear ho14 hb14 hC3 hcell7 hcell hown HB1 HO12
  have HR1 := Aside0.mk (HSeal.out W2 (some ad3) c3 (Kd.C_below HT.out HB2.out) (HOwn.out _ HC3.out) hc3c)
  go_wp2_with (first | (go_at_call 13; refine HR1.out.mono ?_; rintro e W3 ⟨v4, rfl, ho4, hb4⟩; refine of_halt ?_))
  unfold G.Halt
  obtain ⟨A4, c4, rfl, _, hC4⟩ := Kd.R_reads ho4
  have HC4 := Aside0.mk hC4
  have HB3 := Aside0.mk (below_step HB2.out hb4)
  have HC3b := Aside0.mk (Kd.C_below HC3.out hb4)
  have HC3f := Aside0.mk HC3b.out
  clear ho4 hb4 hC4 HR1 HC3
  have HR2 := Aside0.mk (HOpen.out W3 (some ad3) c3 (Kd.C_below HT.out HB3.out) (HOwn.out _ HC3b.out) hc3c)
  go_wp2_with (first | (go_at_call 14; refine HR2.out.mono ?_; rintro e W4 ⟨v5, rfl, ho5, hb5⟩; refine of_halt ?_))
  unfold G.Halt
  obtain ⟨A5, c5, rfl, _, hC5⟩ := Kd.R_reads ho5
  have HQ5 := Aside0.mk (Kd.Q_of_R ho5)
  have HB5 := Aside0.mk hb5
  have HC4b := Aside0.mk (Kd.C_below HC4.out hb5)
  have HC3c := Aside0.mk (Kd.C_below HC3b.out hb5)
  have HC5 := Aside0.mk hC5
  clear hC5 ho5 hb5 HR2
  have HRf := Aside0.mk (HRef.out W4 (Kd.C_below HR.out (below_step HB3.out HB5.out)))
  go_wp2_with (first | (go_at_call 15; refine HRf.out.mono ?_; rintro e W5 ⟨A7, c7, rfl, hC7, hb7⟩; refine of_halt ?_))
  unfold G.Halt
  have HB6 := Aside0.mk (below_step HB5.out hb7)
  have HQ6 := Aside0.mk (Kd.Q_below HQ5.out hb7)
  have HC4c := Aside0.mk (Kd.C_below HC4b.out hb7)
  have HC3d := Aside0.mk (Kd.C_below HC3c.out hb7)
  have HC5c := Aside0.mk (Kd.C_below HC5.out hb7)
  have HC7c := Aside0.mk hC7
  have HRc := Aside0.mk (Kd.C_below HR.out (below_step HB3.out HB6.out))
  clear hb7 hC7 HRf HRef HSeal HOpen HC4 HC4b HC3b HC3c HC5 HQ5
  have HS1 := Aside0.mk (fun W (hC : Kd.C (Kd.int .u8) W A4 SL.length SL) => Kd.C_string (P := Tryd.prog) (src := 22) (dst := 9) Tryd.underlying22 Tryd.underlying5 Tryd.underlying9 (c := c4) hC)
  have HS2 := Aside0.mk (fun W (hC : Kd.C (Kd.int .u8) W A5 X.length X) => Kd.C_string (P := Tryd.prog) (src := 22) (dst := 9) Tryd.underlying22 Tryd.underlying5 Tryd.underlying9 (c := c5) hC)
  have HS3 := Aside0.mk (fun W (hC : Kd.C (Kd.int .u8) W A7 X.length X) => Kd.C_string (P := Tryd.prog) (src := 22) (dst := 9) Tryd.underlying22 Tryd.underlying5 Tryd.underlying9 (c := c7) hC)
  have HS4 := Aside0.mk (fun W (hC : Kd.C (Kd.int .u8) W (some ad3) (l0.length + 5) (l0 ++ sevens)) => Kd.C_string (P := Tryd.prog) (src := 22) (dst := 9) Tryd.underlying22 Tryd.underlying5 Tryd.underlying9 (c := c3) (HOwn.out W hC))
  have HS5 := Aside0.mk (fun W (hC : Kd.C (Kd.int .u8) W a0 l0.length l0) => Kd.C_string (P := Tryd.prog) (src := 22) (dst := 9) Tryd.underlying22 Tryd.underlying5 Tryd.underlying9 (c := cap0) hC)
  have hq : ∀ s : String, (s.toList == s.toList) = true := fun s => beq_self_eq_true _
  have hq2 : (n2 == n2) = true := beq_self_eq_true _
  have e1 : wrap64 ((l0.length : Int) + 1) = (l0.length : Int) + 1 := by have := HL.out; unfold wrap64; omega
  have e2 : ((l0.length : Int) + 1).toNat = l0.length + 1 := by omega
  have g1 : (0 ≤ (l0.length : Int) + 1) = True := eq_true (by omega)
  have g2 : ((l0.length : Int) + 1 ≤ (c3 : Int)) = True := eq_true (by have := of_eq_true hc3b; omega)
  have g3 : ((l0.length : Int) < (l0.length : Int) + 1) = True := eq_true (by omega)
  have g4 : ((l0.length : Int) < ((l0.length + 1 : Nat) : Int)) = True := eq_true (by omega)
  go_upto_region 5 with (fail)
  refine start_ (n := 37) (S := fun w' => (convert 22 9 (.slice A4 SL.length c4)).run Tryd.prog w' = .ok (.string (strOfNums SL)) w' ∧ (convert 22 9 (.slice A5 X.length c5)).run Tryd.prog w' = .ok (.string (strOfNums X)) w' ∧ (convert 22 9 (.slice A7 X.length c7)).run Tryd.prog w' = .ok (.string (strOfNums X)) w' ∧ (convert 22 9 (.slice (some ad3) l0.length c3)).run Tryd.prog w' = .ok (.string (strOfNums l0)) w' ∧ (convert 22 9 (.slice a0 l0.length cap0)).run Tryd.prog w' = .ok (.string (strOfNums l0)) w' ∧ w'.cell? (ad3.add l0.length) = some (.int .u8 7)) (ds := []) #[false, false, false, false, false, false, false, false, false, false, false, false, false, false, false, false, false, false, false, false, false, false, false, false, false, false, false, false, false, false, false, false, false, false, false, false, false] (by kernel_rfl) rfl rfl ⟨HS1.out _ (Kd.C_drew HC4c.out), HS2.out _ (Kd.C_drew HC5c.out), HS3.out _ (Kd.C_drew HC7c.out), HS4.out _ (Kd.C_drew HC3d.out), HS5.out _ (Kd.C_drew HRc.out), HCell.out _ (Kd.C_drew HC3d.out)⟩ (fun hHeld => ?_)
  refine pure_ (i := 0) (N := some 30) (v := ?_) (a' := ?_) #[true, false, false, false, false, false, false, false, false, false, false, false, false, false, false, false, false, false, false, false, false, false, false, false, false, false, false, false, false, false, false, false, false, false, false, false, false] rfl rfl (by kernel_rfl) (fun _ _ _ h => h) (Or.inl ⟨by rfl, ?_⟩) ?_ ?_
  rotate_left
  · intro w'
    go_simp
    with_reducible rfl
  rotate_left
  · simp only [Act.put, List.setIfInBounds_toArray, List.set_cons_zero, List.set_cons_succ, i64_w, i32_w]
    rfl
  refine pure_ (i := 2) (N := some 32) (v := ?_) (a' := ?_) #[true, false, true, false, false, false, false, false, false, false, false, false, false, false, false, false, false, false, false, false, false, false, false, false, false, false, false, false, false, false, false, false, false, false, false, false, false] rfl rfl (by kernel_rfl) (fun _ _ _ h => h) (Or.inl ⟨by rfl, ?_⟩) ?_ ?_
  rotate_left
  · intro w'
    go_simp
    with_reducible rfl
  rotate_left
  · simp only [Act.put, List.setIfInBounds_toArray, List.set_cons_zero, List.set_cons_succ, i64_w, i32_w]
    rfl
  refine take_ (i := 1) (N := some 31) (v := ?_) (a' := ?_) #[true, true, true, false, false, false, false, false, false, false, false, false, false, false, false, false, false, false, false, false, false, false, false, false, false, false, false, false, false, false, false, false, false, false, false, false, false] rfl rfl (by kernel_rfl) (fun _ _ _ h => h) (Or.inl ⟨by rfl, ?_⟩) hHeld ?_ ?_
  rotate_left
  · rintro w' ⟨s0, s1, s2, s3, s4, s5⟩
    go_simp
    with_reducible rfl
  rotate_left
  · simp only [Act.put, List.setIfInBounds_toArray, List.set_cons_zero, List.set_cons_succ, i64_w, i32_w]
    rfl
  refine one_ (i := 3) (N := some 33) #[true, true, true, true, false, false, false, false, false, false, false, false, false, false, false, false, false, false, false, false, false, false, false, false, false, false, false, false, false, false, false, false, false, false, false, false, false] rfl rfl (by kernel_rfl) (by decide) (fun K hK => ?_)
  refine goes_ Tryd.func16 (by kernel_rfl) rfl #[.slice a0 l0.length cap0] (by rfl) rfl rfl (by simp only [List.map_toArray, List.map_cons, List.map_nil]; rfl) ?_
  with_reducible refine (HRefS.out _ (Kd.C_drew HRc.out)).mono ?_
  rintro e W6 ⟨v8, rfl, ho8, hb8⟩
  refine ⟨_, rfl, ?_⟩
  have hcv8 := own_string (P := Tryd.prog) (src := 22) (dst := 9) Tryd.underlying22 Tryd.underlying5 Tryd.underlying9 (Kd.own_of_R ho8)
  obtain ⟨A8, c8, rfl⟩ := Kd.R_slice ho8
  have HB8 := Aside0.mk (below_step (below_drew1 (Below.refl W5.heap.size W5)) hb8)
  clear ho8 hb8
  refine hK.out _ _ ⟨HS1.out _ (Kd.C_below HC4c.out HB8.out), HS2.out _ (Kd.C_below HC5c.out HB8.out), HS3.out _ (Kd.C_below HC7c.out HB8.out), HS4.out _ (Kd.C_below HC3d.out HB8.out), HS5.out _ (Kd.C_below HRc.out HB8.out), HCell.out _ (Kd.C_below HC3d.out HB8.out)⟩ (fun hHeld => ?_)
  clear hK K
  refine norm_ (a' := ?_) ?_ ?_
  rotate_left
  · show Act.put _ (some 33) _ = _
    simp only [Act.put, List.setIfInBounds_toArray, List.set_cons_zero, List.set_cons_succ, i64_w, i32_w]
    rfl
  refine one_ (i := 4) (N := some 34) #[true, true, true, true, true, false, false, false, false, false, false, false, false, false, false, false, false, false, false, false, false, false, false, false, false, false, false, false, false, false, false, false, false, false, false, false, false] rfl rfl (by kernel_rfl) (by decide) (fun K hK => ?_)
  refine value_ (w1 := ?_) (v := ?_) (by rfl) rfl ?_ ?_
  rotate_left 2
  · go_simp
    constructor
    · rfl
    · rfl
  refine hK.out _ _ ⟨HS1.out _ (Kd.C_below HC4c.out HB8.out), HS2.out _ (Kd.C_below HC5c.out HB8.out), HS3.out _ (Kd.C_below HC7c.out HB8.out), HS4.out _ (Kd.C_below HC3d.out HB8.out), HS5.out _ (Kd.C_below HRc.out HB8.out), HCell.out _ (Kd.C_below HC3d.out HB8.out)⟩ (fun hHeld => ?_)
  clear hK K
  refine norm_ (a' := ?_) ?_ ?_
  rotate_left
  · show Act.put _ (some 34) _ = _
    simp only [Act.put, List.setIfInBounds_toArray, List.set_cons_zero, List.set_cons_succ, i64_w, i32_w]
    rfl
  refine pure_ (i := 5) (N := some 35) (v := ?_) (a' := ?_) #[true, true, true, true, true, true, false, false, false, false, false, false, false, false, false, false, false, false, false, false, false, false, false, false, false, false, false, false, false, false, false, false, false, false, false, false, false] rfl rfl (by kernel_rfl) (fun _ _ _ h => h) (Or.inl ⟨by rfl, ?_⟩) ?_ ?_
  rotate_left
  · intro w'
    go_simp
    with_reducible rfl
  rotate_left
  · simp only [Act.put, List.setIfInBounds_toArray, List.set_cons_zero, List.set_cons_succ, i64_w, i32_w]
    rfl
  refine pure_ (i := 6) (N := some 36) (v := ?_) (a' := ?_) #[true, true, true, true, true, true, true, false, false, false, false, false, false, false, false, false, false, false, false, false, false, false, false, false, false, false, false, false, false, false, false, false, false, false, false, false, false] rfl rfl (by kernel_rfl) (fun _ _ _ h => h) (Or.inl ⟨by rfl, ?_⟩) ?_ ?_
  rotate_left
  · intro w'
    go_simp
    with_reducible rfl
  rotate_left
  · simp only [Act.put, List.setIfInBounds_toArray, List.set_cons_zero, List.set_cons_succ, i64_w, i32_w]
    rfl
  refine pure_ (i := 7) (N := some 37) (v := ?_) (a' := ?_) #[true, true, true, true, true, true, true, true, false, false, false, false, false, false, false, false, false, false, false, false, false, false, false, false, false, false, false, false, false, false, false, false, false, false, false, false, false] rfl rfl (by kernel_rfl) (fun _ _ _ h => h) (Or.inl ⟨by rfl, ?_⟩) ?_ ?_
  rotate_left
  · intro w'
    go_simp
    with_reducible rfl
  rotate_left
  · simp only [Act.put, List.setIfInBounds_toArray, List.set_cons_zero, List.set_cons_succ, i64_w, i32_w]
    rfl
  refine pure_ (i := 9) (N := some 39) (v := ?_) (a' := ?_) #[true, true, true, true, true, true, true, true, false, true, false, false, false, false, false, false, false, false, false, false, false, false, false, false, false, false, false, false, false, false, false, false, false, false, false, false, false] rfl rfl (by kernel_rfl) (fun _ _ _ h => h) (Or.inl ⟨by rfl, ?_⟩) ?_ ?_
  rotate_left
  · intro w'
    go_simp
    with_reducible rfl
  rotate_left
  · simp only [Act.put, List.setIfInBounds_toArray, List.set_cons_zero, List.set_cons_succ, i64_w, i32_w]
    rfl
  refine take_ (i := 8) (N := some 38) (v := ?_) (a' := ?_) #[true, true, true, true, true, true, true, true, true, true, false, false, false, false, false, false, false, false, false, false, false, false, false, false, false, false, false, false, false, false, false, false, false, false, false, false, false] rfl rfl (by kernel_rfl) (fun _ _ _ h => h) (Or.inl ⟨by rfl, ?_⟩) hHeld ?_ ?_
  rotate_left
  · rintro w' ⟨s0, s1, s2, s3, s4, s5⟩
    go_simp
    with_reducible rfl
  rotate_left
  · simp only [Act.put, List.setIfInBounds_toArray, List.set_cons_zero, List.set_cons_succ, i64_w, i32_w]
    rfl
  refine take_ (i := 10) (N := some 40) (v := ?_) (a' := ?_) #[true, true, true, true, true, true, true, true, true, true, true, false, false, false, false, false, false, false, false, false, false, false, false, false, false, false, false, false, false, false, false, false, false, false, false, false, false] rfl rfl (by kernel_rfl) (fun _ _ _ h => h) (Or.inl ⟨by rfl, ?_⟩) hHeld ?_ ?_
  rotate_left
  · rintro w' ⟨s0, s1, s2, s3, s4, s5⟩
    go_simp
    with_reducible rfl
  rotate_left
  · simp only [Act.put, List.setIfInBounds_toArray, List.set_cons_zero, List.set_cons_succ, i64_w, i32_w]
    rfl
  refine pure_ (i := 11) (N := some 41) (v := ?_) (a' := ?_) #[true, true, true, true, true, true, true, true, true, true, true, true, false, false, false, false, false, false, false, false, false, false, false, false, false, false, false, false, false, false, false, false, false, false, false, false, false] rfl rfl (by kernel_rfl) (fun _ _ _ h => h) (Or.inl ⟨by rfl, ?_⟩) ?_ ?_
  rotate_left
  · intro w'
    go_simp
    with_reducible rfl
  rotate_left
  · simp only [Act.put, List.setIfInBounds_toArray, List.set_cons_zero, List.set_cons_succ, i64_w, i32_w]
    rfl
  refine pure_ (i := 12) (N := some 42) (v := ?_) (a' := ?_) #[true, true, true, true, true, true, true, true, true, true, true, true, true, false, false, false, false, false, false, false, false, false, false, false, false, false, false, false, false, false, false, false, false, false, false, false, false] rfl rfl (by kernel_rfl) (fun _ _ _ h => h) (Or.inl ⟨by rfl, ?_⟩) ?_ ?_
  rotate_left
  · intro w'
    go_simp
    with_reducible rfl
  rotate_left
  · simp only [Act.put, List.setIfInBounds_toArray, List.set_cons_zero, List.set_cons_succ, i64_w, i32_w]
    rfl
  refine pure_ (i := 13) (N := some 43) (v := ?_) (a' := ?_) #[true, true, true, true, true, true, true, true, true, true, true, true, true, true, false, false, false, false, false, false, false, false, false, false, false, false, false, false, false, false, false, false, false, false, false, false, false] rfl rfl (by kernel_rfl) (fun _ _ _ h => h) (Or.inl ⟨by rfl, ?_⟩) ?_ ?_
  rotate_left
  · intro w'
    go_simp
    with_reducible rfl
  rotate_left
  · simp only [Act.put, List.setIfInBounds_toArray, List.set_cons_zero, List.set_cons_succ, i64_w, i32_w]
    rfl
  refine pure_ (i := 14) (N := some 44) (v := ?_) (a' := ?_) #[true, true, true, true, true, true, true, true, true, true, true, true, true, true, true, false, false, false, false, false, false, false, false, false, false, false, false, false, false, false, false, false, false, false, false, false, false] rfl rfl (by kernel_rfl) (fun _ _ _ h => h) (Or.inl ⟨by rfl, ?_⟩) ?_ ?_
  rotate_left
  · intro w'
    go_simp
    with_reducible rfl
  rotate_left
  · simp only [Act.put, List.setIfInBounds_toArray, List.set_cons_zero, List.set_cons_succ, i64_w, i32_w]
    rfl
  refine pure_ (i := 15) (N := some 45) (v := ?_) (a' := ?_) #[true, true, true, true, true, true, true, true, true, true, true, true, true, true, true, true, false, false, false, false, false, false, false, false, false, false, false, false, false, false, false, false, false, false, false, false, false] rfl rfl (by kernel_rfl) (fun _ _ _ h => h) (Or.inl ⟨by rfl, ?_⟩) ?_ ?_
  rotate_left
  · intro w'
    go_simp
    with_reducible rfl
  rotate_left
  · simp only [Act.put, List.setIfInBounds_toArray, List.set_cons_zero, List.set_cons_succ, i64_w, i32_w]
    rfl
  refine pure_ (i := 16) (N := some 46) (v := ?_) (a' := ?_) #[true, true, true, true, true, true, true, true, true, true, true, true, true, true, true, true, true, false, false, false, false, false, false, false, false, false, false, false, false, false, false, false, false, false, false, false, false] rfl rfl (by kernel_rfl) (fun _ _ _ h => h) (Or.inl ⟨by rfl, ?_⟩) ?_ ?_
  rotate_left
  · intro w'
    go_simp
    with_reducible rfl
  rotate_left
  · simp only [Act.put, List.setIfInBounds_toArray, List.set_cons_zero, List.set_cons_succ, i64_w, i32_w]
    rfl
  refine pure_ (i := 17) (N := some 47) (v := ?_) (a' := ?_) #[true, true, true, true, true, true, true, true, true, true, true, true, true, true, true, true, true, true, false, false, false, false, false, false, false, false, false, false, false, false, false, false, false, false, false, false, false] rfl rfl (by kernel_rfl) (fun _ _ _ h => h) (Or.inl ⟨by rfl, ?_⟩) ?_ ?_
  rotate_left
  · intro w'
    go_simp
    with_reducible rfl
  rotate_left
  · simp only [Act.put, List.setIfInBounds_toArray, List.set_cons_zero, List.set_cons_succ, i64_w, i32_w]
    rfl
  refine pure_ (i := 18) (N := some 48) (v := ?_) (a' := ?_) #[true, true, true, true, true, true, true, true, true, true, true, true, true, true, true, true, true, true, true, false, false, false, false, false, false, false, false, false, false, false, false, false, false, false, false, false, false] rfl rfl (by kernel_rfl) (fun _ _ _ h => h) (Or.inl ⟨by rfl, ?_⟩) ?_ ?_
  rotate_left
  · intro w'
    go_simp
    with_reducible rfl
  rotate_left
  · simp only [Act.put, List.setIfInBounds_toArray, List.set_cons_zero, List.set_cons_succ, i64_w, i32_w]
    rfl
  refine pure_ (i := 19) (N := some 49) (v := ?_) (a' := ?_) #[true, true, true, true, true, true, true, true, true, true, true, true, true, true, true, true, true, true, true, true, false, false, false, false, false, false, false, false, false, false, false, false, false, false, false, false, false] rfl rfl (by kernel_rfl) (fun _ _ _ h => h) (Or.inl ⟨by rfl, ?_⟩) ?_ ?_
  rotate_left
  · intro w'
    go_simp
    with_reducible rfl
  rotate_left
  · simp only [Act.put, List.setIfInBounds_toArray, List.set_cons_zero, List.set_cons_succ, i64_w, i32_w]
    rfl
  refine pure_ (i := 21) (N := some 51) (v := ?_) (a' := ?_) #[true, true, true, true, true, true, true, true, true, true, true, true, true, true, true, true, true, true, true, true, false, true, false, false, false, false, false, false, false, false, false, false, false, false, false, false, false] rfl rfl (by kernel_rfl) (fun _ _ _ h => h) (Or.inl ⟨by rfl, ?_⟩) ?_ ?_
  rotate_left
  · intro w'
    go_simp
    with_reducible rfl
  rotate_left
  · simp only [Act.put, List.setIfInBounds_toArray, List.set_cons_zero, List.set_cons_succ, i64_w, i32_w]
    rfl
  refine take_ (i := 20) (N := some 50) (v := ?_) (a' := ?_) #[true, true, true, true, true, true, true, true, true, true, true, true, true, true, true, true, true, true, true, true, true, true, false, false, false, false, false, false, false, false, false, false, false, false, false, false, false] rfl rfl (by kernel_rfl) (fun _ _ _ h => h) (Or.inl ⟨by rfl, ?_⟩) hHeld ?_ ?_
  rotate_left
  · rintro w' ⟨s0, s1, s2, s3, s4, s5⟩
    go_simp
    with_reducible rfl
  rotate_left
  · simp only [Act.put, List.setIfInBounds_toArray, List.set_cons_zero, List.set_cons_succ, i64_w, i32_w]
    rfl
  refine take_ (i := 22) (N := some 52) (v := ?_) (a' := ?_) #[true, true, true, true, true, true, true, true, true, true, true, true, true, true, true, true, true, true, true, true, true, true, true, false, false, false, false, false, false, false, false, false, false, false, false, false, false] rfl rfl (by kernel_rfl) (fun _ _ _ h => h) (Or.inl ⟨by rfl, ?_⟩) hHeld ?_ ?_
  rotate_left
  · rintro w' ⟨s0, s1, s2, s3, s4, s5⟩
    go_simp
    with_reducible rfl
  rotate_left
  · simp only [Act.put, List.setIfInBounds_toArray, List.set_cons_zero, List.set_cons_succ, i64_w, i32_w]
    rfl
  refine pure_ (i := 23) (N := some 53) (v := ?_) (a' := ?_) #[true, true, true, true, true, true, true, true, true, true, true, true, true, true, true, true, true, true, true, true, true, true, true, true, false, false, false, false, false, false, false, false, false, false, false, false, false] rfl rfl (by kernel_rfl) (fun _ _ _ h => h) (Or.inl ⟨by rfl, ?_⟩) ?_ ?_
  rotate_left
  · intro w'
    go_simp
    with_reducible rfl
  rotate_left
  · simp only [Act.put, List.setIfInBounds_toArray, List.set_cons_zero, List.set_cons_succ, i64_w, i32_w]
    rfl
  refine pure_ (i := 24) (N := some 54) (v := ?_) (a' := ?_) #[true, true, true, true, true, true, true, true, true, true, true, true, true, true, true, true, true, true, true, true, true, true, true, true, true, false, false, false, false, false, false, false, false, false, false, false, false] rfl rfl (by kernel_rfl) (fun _ _ _ h => h) (Or.inl ⟨by rfl, ?_⟩) ?_ ?_
  rotate_left
  · intro w'
    go_simp
    with_reducible rfl
  rotate_left
  · simp only [Act.put, List.setIfInBounds_toArray, List.set_cons_zero, List.set_cons_succ, i64_w, i32_w]
    rfl
  refine pure_ (i := 25) (N := some 55) (v := ?_) (a' := ?_) #[true, true, true, true, true, true, true, true, true, true, true, true, true, true, true, true, true, true, true, true, true, true, true, true, true, true, false, false, false, false, false, false, false, false, false, false, false] rfl rfl (by kernel_rfl) (fun _ _ _ h => h) (Or.inl ⟨by rfl, ?_⟩) ?_ ?_
  rotate_left
  · intro w'
    go_simp
    with_reducible rfl
  rotate_left
  · simp only [Act.put, List.setIfInBounds_toArray, List.set_cons_zero, List.set_cons_succ, i64_w, i32_w]
    rfl
  refine pure_ (i := 26) (N := some 56) (v := ?_) (a' := ?_) #[true, true, true, true, true, true, true, true, true, true, true, true, true, true, true, true, true, true, true, true, true, true, true, true, true, true, true, false, false, false, false, false, false, false, false, false, false] rfl rfl (by kernel_rfl) (fun _ _ _ h => h) (Or.inl ⟨by rfl, ?_⟩) ?_ ?_
  rotate_left
  · intro w'
    go_simp
    with_reducible rfl
  rotate_left
  · simp only [Act.put, List.setIfInBounds_toArray, List.set_cons_zero, List.set_cons_succ, i64_w, i32_w]
    rfl
  refine pure_ (i := 27) (N := some 57) (v := ?_) (a' := ?_) #[true, true, true, true, true, true, true, true, true, true, true, true, true, true, true, true, true, true, true, true, true, true, true, true, true, true, true, true, false, false, false, false, false, false, false, false, false] rfl rfl (by kernel_rfl) (fun _ _ _ h => h) (Or.inl ⟨by rfl, ?_⟩) ?_ ?_
  rotate_left
  · intro w'
    go_simp
    with_reducible rfl
  rotate_left
  · simp only [Act.put, List.setIfInBounds_toArray, List.set_cons_zero, List.set_cons_succ, i64_w, i32_w]
    rfl
  refine pure_ (i := 28) (N := some 58) (v := ?_) (a' := ?_) #[true, true, true, true, true, true, true, true, true, true, true, true, true, true, true, true, true, true, true, true, true, true, true, true, true, true, true, true, true, false, false, false, false, false, false, false, false] rfl rfl (by kernel_rfl) (fun _ _ _ h => h) (Or.inl ⟨by rfl, ?_⟩) ?_ ?_
  rotate_left
  · intro w'
    go_simp
    with_reducible rfl
  rotate_left
  · simp only [Act.put, List.setIfInBounds_toArray, List.set_cons_zero, List.set_cons_succ, i64_w, i32_w]
    rfl
  refine pure_ (i := 29) (N := some 59) (v := ?_) (a' := ?_) #[true, true, true, true, true, true, true, true, true, true, true, true, true, true, true, true, true, true, true, true, true, true, true, true, true, true, true, true, true, true, false, false, false, false, false, false, false] rfl rfl (by kernel_rfl) (fun _ _ _ h => h) (Or.inl ⟨by rfl, ?_⟩) ?_ ?_
  rotate_left
  · intro w'
    go_simp
    with_reducible rfl
  rotate_left
  · simp only [Act.put, List.setIfInBounds_toArray, List.set_cons_zero, List.set_cons_succ, i64_w, i32_w]
    rfl
  refine pure_ (i := 30) (N := some 60) (v := ?_) (a' := ?_) #[true, true, true, true, true, true, true, true, true, true, true, true, true, true, true, true, true, true, true, true, true, true, true, true, true, true, true, true, true, true, true, false, false, false, false, false, false] rfl rfl (by kernel_rfl) (fun _ _ _ h => h) (Or.inl ⟨by rfl, ?_⟩) ?_ ?_
  rotate_left
  · intro w'
    go_simp
    with_reducible rfl
  rotate_left
  · simp only [Act.put, List.setIfInBounds_toArray, List.set_cons_zero, List.set_cons_succ, i64_w, i32_w]
    rfl
  refine pure_ (i := 31) (N := some 61) (v := ?_) (a' := ?_) #[true, true, true, true, true, true, true, true, true, true, true, true, true, true, true, true, true, true, true, true, true, true, true, true, true, true, true, true, true, true, true, true, false, false, false, false, false] rfl rfl (by kernel_rfl) (fun _ _ _ h => h) (Or.inl ⟨by rfl, ?_⟩) ?_ ?_
  rotate_left
  · intro w'
    go_simp
    with_reducible rfl
  rotate_left
  · simp only [Act.put, List.setIfInBounds_toArray, List.set_cons_zero, List.set_cons_succ, i64_w, i32_w]
    rfl
  refine pure_ (i := 32) (N := some 62) (v := ?_) (a' := ?_) #[true, true, true, true, true, true, true, true, true, true, true, true, true, true, true, true, true, true, true, true, true, true, true, true, true, true, true, true, true, true, true, true, true, false, false, false, false] rfl rfl (by kernel_rfl) (fun _ _ _ h => h) (Or.inl ⟨by rfl, ?_⟩) ?_ ?_
  rotate_left
  · intro w'
    go_simp
    with_reducible rfl
  rotate_left
  · simp only [Act.put, List.setIfInBounds_toArray, List.set_cons_zero, List.set_cons_succ, i64_w, i32_w]
    rfl
  refine pure_ (i := 33) (N := some 63) (v := ?_) (a' := ?_) #[true, true, true, true, true, true, true, true, true, true, true, true, true, true, true, true, true, true, true, true, true, true, true, true, true, true, true, true, true, true, true, true, true, true, false, false, false] rfl rfl (by kernel_rfl) (fun _ _ _ h => h) (Or.inl ⟨by rfl, ?_⟩) ?_ ?_
  rotate_left
  · intro w'
    go_simp
    with_reducible rfl
  rotate_left
  · simp only [Act.put, List.setIfInBounds_toArray, List.set_cons_zero, List.set_cons_succ, i64_w, i32_w]
    rfl
  refine take_ (i := 34) (N := some 64) (v := ?_) (a' := ?_) #[true, true, true, true, true, true, true, true, true, true, true, true, true, true, true, true, true, true, true, true, true, true, true, true, true, true, true, true, true, true, true, true, true, true, true, false, false] rfl rfl (by kernel_rfl) (fun _ _ _ h => h) (Or.inl ⟨by rfl, ?_⟩) hHeld ?_ ?_
  rotate_left
  · rintro w' ⟨s0, s1, s2, s3, s4, s5⟩
    go_simp
    with_reducible rfl
  rotate_left
  · simp only [Act.put, List.setIfInBounds_toArray, List.set_cons_zero, List.set_cons_succ, i64_w, i32_w]
    rfl
  refine pure_ (i := 35) (N := some 65) (v := ?_) (a' := ?_) #[true, true, true, true, true, true, true, true, true, true, true, true, true, true, true, true, true, true, true, true, true, true, true, true, true, true, true, true, true, true, true, true, true, true, true, true, false] rfl rfl (by kernel_rfl) (fun _ _ _ h => h) (Or.inl ⟨by rfl, ?_⟩) ?_ ?_
  rotate_left
  · intro w'
    go_simp
    with_reducible rfl
  rotate_left
  · simp only [Act.put, List.setIfInBounds_toArray, List.set_cons_zero, List.set_cons_succ, i64_w, i32_w]
    rfl
  refine pure_ (i := 36) (N := some 66) (v := ?_) (a' := ?_) #[true, true, true, true, true, true, true, true, true, true, true, true, true, true, true, true, true, true, true, true, true, true, true, true, true, true, true, true, true, true, true, true, true, true, true, true, true] rfl rfl (by kernel_rfl) (fun _ _ _ h => h) (Or.inl ⟨by rfl, ?_⟩) ?_ ?_
  rotate_left
  · intro w'
    go_simp
    with_reducible rfl
  rotate_left
  · simp only [Act.put, List.setIfInBounds_toArray, List.set_cons_zero, List.set_cons_succ, i64_w, i32_w]
    rfl
  refine done_ (by kernel_rfl) ?_
  have HW7 := Aside0.mk (below_step HB6.out HB8.out)
  have HQ7 := Aside0.mk (Kd.Q_below HQ6.out HB8.out)
  have HC3e := Aside0.mk (Kd.C_below HC3d.out HB8.out)
  go_wp2
  go_loopg [9] (X.length + 1) (fun kq v51 w' => ∃ (y : List Int) (x : Int), v51 = .int .i64 x ∧ Aside0 (0 ≤ x ∧ x ≤ X.length) ∧ Aside0 (kq + x.toNat = X.length + 1) ∧ Aside0 (y.length = X.length) ∧ Aside0 (Kd.Q (Kd.int .u8) 5 w' W3.heap.size (fun _ => True) (.slice A5 X.length c5) y) ∧ Aside0 (Below W3.heap.size W3 w'))
  case atStart => exact ⟨X, 0, rfl, ⟨by omega⟩, ⟨rfl⟩, ⟨rfl⟩, HQ7, HW7⟩
  case round =>
    obtain ⟨y, x, rfl, HI, HK, HY, HQ, HB⟩ := hrel
    by_cases c2 : x < (X.length : Int)
    · have c2b : decide (x < (X.length : Int)) = true := decide_eq_true c2
      obtain ⟨g, o, cap, e, hgb, _⟩ := Kd.Q_form HQ.out (by have := HY.out; have := HI.out; omega)
      injection e with e1 e2 e3
      subst e1 e3
      clear e2
      obtain ⟨hx, hf⟩ := Kd.Q_cell 0 HQ.out x HI.out.1 c2
      have p1 : (0 ≤ x) = True := eq_true HI.out.1
      have q1 : (x < (X.length : Int)) = True := eq_true c2
      have HC2 := Aside0.mk c2
      have HG := Aside0.mk hgb
      clear c2 hgb
      go_wp2
      go_roundg (gk - 1)
      case measure => have := HK.out; have := HI.out; have := HC2.out; omega
      case rel => exact ⟨_, x + 1, by rw [show wrap64 (x + 1) = x + 1 from by have := HI.out; have := HC2.out; have := Kd.C_max HC5c.out; unfold wrap64; omega], ⟨by have := HI.out; have := HC2.out; omega⟩, ⟨by have := HK.out; have := HI.out; have := HC2.out; omega⟩, ⟨by rw [List.length_set]; exact HY.out⟩, ⟨(Kd.Q_putg HQ.out x HI.out.1 HC2.out _).1⟩, ⟨HB.out.setCell (p := ⟨g, o + x.toNat, none⟩) HG.out _⟩⟩
    · have h4 : x = X.length := by have := HI.out; omega
      have c2b : decide (x < (X.length : Int)) = false := decide_eq_false c2
      have HBw := Aside0.mk (below_step HB3.out HB.out)
      have hcv4 := fun nd => HS4.out _ (Kd.C_drewN (Kd.C_below HC3f.out HB.out) nd)
      have hcv5 := fun nd => HS5.out _ (Kd.C_drewN (Kd.C_below HR.out HBw.out) nd)
      go_wp2_with (first | ((with_reducible refine gate_callee (f := 10) rfl ?_); refine goesL_ (some 81) rfl rfl Tryd.func10 (by kernel_rfl) rfl #[] rfl (by (try simp only [List.map_toArray, List.map_cons, List.map_nil]); first | done | rfl) ?_; refine (C0.out _).mono ?_; rintro e w9 ⟨rfl, ⟨nd, rfl⟩⟩; refine ⟨_, rfl, ?_⟩))
      go_ret
      exact ⟨rfl, pw_below_drewN HBw.out _⟩
end Go.Proofs.YthhpndnambffjaaDoor.X
