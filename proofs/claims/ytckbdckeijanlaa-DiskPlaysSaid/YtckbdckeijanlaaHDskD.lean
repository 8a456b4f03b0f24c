/- The disk: Write, what it takes. By hand. -/
import Derived.Test.YtckbdckeijanlaaHDskC
import Derived.Test.YtckbdckeijanlaaHBig
import Derived.Test.YtckbdckeijanlaaHHalt
namespace Go.Proofs.Ytckbdckeijanlaa.G
open Go.RowKit Go.Proofs.YtckbdckeijanlaaW.PrintWords Go.Proofs.YtckbdckeijanlaaW.PrintLast Go.Proofs.YtckbdckeijanlaaW.PrintMore Go.Proofs.Ytckbdckeijanlaa.Dsk
set_option linter.unusedVariables false
set_option linter.unusedSimpArgs false
def zeroW : Value := .agg ((Value.int .i64 0 :: List.replicate 64 (.int .u8 0)).toArray)
theorem infoW : (Try.prog.info? 64).map (fun i => (i.zero, i.size, i.bytes)) = some (some zeroW, 65, 72) := by kernel_rfl
theorem infoS : (Try.prog.info? 62).map (fun i => (i.zero, i.size, i.bytes)) = some (some (.agg (List.replicate 64 (Value.int .u8 0)).toArray), 64, 64) := by kernel_rfl
theorem zeroW_size : zeroW.cells.size = 65 := rfl
theorem sizeS : (Try.prog.info? 62).map (·.size) = some 64 := by kernel_rfl
theorem sizeW : (Try.prog.info? 64).map (·.size) = some 65 := by kernel_rfl
theorem builtW : Try.prog.built 64 = fun parts => Instr.fill (#[(0, 1), (1, 64)][·]?) zeroW.cells parts := by
  have h : ∀ parts, Try.prog.built 64 parts = Instr.fill (#[(0, 1), (1, 64)][·]?) zeroW.cells parts := fun parts => by kernel_rfl
  exact funext h
theorem build_write (n : Int) (xs : List Int) (hx : xs.length = 64) (W : World) : (Instr.build 64 #[(0, .int .i64 n), (1, .agg (bts xs).toArray)]).run Try.prog W = .ok (.agg (Value.int .i64 n :: bts xs).toArray) W := by
  refine run_build W _ _ _ ?_
  rw [builtW]
  show Instr.fill _ _ [(0, Value.int .i64 n), (1, .agg (bts xs).toArray)] = _
  have hb : (bts xs).length = 64 := (bts_length xs).trans hx
  rw [fill_one _ _ 0 0 1 _ _ rfl rfl (by decide), fill_one _ _ 1 1 64 _ _ rfl (by simp [Value.cells, hb]) (by simp [Value.cells]; decide), Instr.fill]
  congr 1
  apply Array.ext'
  have e : (zeroW.cells.toList.take 0 ++ (Value.int .i64 n).cells.toList ++ zeroW.cells.toList.drop (0 + 1)) = Value.int .i64 n :: List.replicate 64 (.int .u8 0) := rfl
  simp only [e]
  show List.take 1 (Value.int .i64 n :: List.replicate 64 (.int .u8 0)) ++ bts xs ++ List.drop (1 + 64) (Value.int .i64 n :: List.replicate 64 (.int .u8 0)) = _
  simp
/-- A sector's bytes that lie in line, as a value. -/
theorem load_bts (W : World) (pb : Addr) (xs : List Int) (hx : xs.length = 64) (h : ∀ i u, (bts xs)[i]? = some u → W.cell? (pb.add i) = some u) : (Instr.loadAt 62 (.pointer (some pb))).run Try.prog W = .ok (.agg (bts xs).toArray) W := by
  have hl : (loadCells pb (bts xs).length).run Try.prog W = .ok (bts xs).toArray W := run_loadCells_list (P := Try.prog) W pb (bts xs) h
  have hagg : (isAgg 62).run Try.prog W = .ok true W := by
    unfold isAgg
    rw [Sem.run_bind, run_underlying Try.underlying62 W]
    rfl
  have hs := sizeS
  cases hq : Try.prog.info? 62 with
  | none => simp [hq] at hs
  | some i =>
    have hs : i.size = (bts xs).length := by rw [bts_length, hx]; simpa [hq] using hs
    simp only [Instr.loadAt, Instr.sureAddr, Sem.run_bind, Sem.run_pure, Result.andThen_ok]
    simp [loadVar, Sem.run_bind, hagg, sizeOf, typeInfo, hq, hs, hl]
theorem arr_at (V : World) (pb : Addr) (cm : Nat) : (Instr.arrayAt 62 (.slice (some pb) 64 cm)).run Try.prog V = .ok (.pointer (some pb)) V := by
  unfold Instr.arrayAt
  rw [Sem.run_bind, run_underlying Try.underlying62 V]
  rfl
set_option maxHeartbeats 8000000 in
set_option maxRecDepth 100000 in
theorem Write_ok (F : Nat → Prop) (g gl cl : Nat) (d : Dk) (wv : Value) (n : Int) (pb : Addr) (xs : List Int) (cm : Nat) (W : World) (h : Mem F g gl cl d wv W) (hS : isS d n = true) (hd : down d = false) (hx : xs.length = 64) (hb : ∀ i u, (bts xs)[i]? = some u → W.cell? (pb.add i) = some u)
    (hst : d.steps < 4611686018427387904) (hln : d.left.getD 0 < 9223372036854775808) (hwl : d.waits.length < 1000000000) :
    Calls Try.prog 12 #[.pointer (some ⟨g, 0, none⟩), .int .i64 n, .slice (some pb) 64 cm] W (MemPost F g (write d n xs).1 W (.returned (.int .i64 0))) := by
  have HW := Aside0.mk (wrong_calls F g gl cl d wv n W h)
  rw [hS] at HW
  have HD := Aside0.mk (down_calls F g gl cl d wv W h)
  rw [hd] at HD
  have hF : ∀ V, Below W.heap.size W V → V.cell? ⟨g, 1, none⟩ = some wv ∧ (Instr.loadAt 62 (.pointer (some pb))).run Try.prog V = .ok (.agg (bts xs).toArray) V := fun V hV =>
    ⟨(h.below hV).cells.2.1, load_bts V pb xs hx (fun i u hu => pw_cell_below hV (hb i u hu))⟩
  have HF := Aside0.mk hF
  have HM := Aside0.mk h
  have hgl : gl < W.heap.size := Kd.R_lt h.lies gl rfl
  have HFR := Aside0.mk (fun k (hk : W.drew.heap.size ≤ k) => show (F k ∨ W.heap.size ≤ k) ∧ k ≠ g ∧ k ≠ gl from ⟨.inr hk, fun e => by have := blk_lt h.blk; have : W.heap.size ≤ k := hk; omega, fun e => by have : W.heap.size ≤ k := hk; omega⟩)
  have HWV := Aside0.mk (show wrtK.R 64 W.drew 0 (fun k => (F k ∨ W.heap.size ≤ k) ∧ k ≠ g ∧ k ≠ gl) wv (d.waits.map encW) from Kd.R_drew (Kd.R_mono h.waits (fun k hk => ⟨.inl hk.1, hk.2⟩)))
  have HLN := Aside0.mk (show ((d.waits.map encW).length + 1) * 72 ≤ 140737488355328 by rw [List.length_map]; omega)
  have HX := Aside0.mk hx
  have HS := Aside0.mk (And.intro hS hd)
  have HN := Aside0.mk (And.intro hst (And.intro hln hwl))
  have harr : ∀ V : World, (Instr.arrayAt 62 (.slice (some pb) 64 cm)).run Try.prog V = .ok (.pointer (some pb)) V := fun V => arr_at V pb cm
  clear h hS hd hx hb hF hst hln hwl hgl
  go_enter Try.func12, Try.ntmps12
  go_upto_region 8 with (first | (go_at_call 26; refine HW.out.mono ?_; rintro e w5 ⟨rfl, hw5⟩; obtain rfl := hw5.symm) | (go_at_call 27; refine HD.out.mono ?_; rintro e w6 ⟨rfl, hw6⟩; obtain rfl := hw6.symm))
  refine start_ (n := 15) (S := fun w' => w'.cell? ⟨g, 1, none⟩ = some wv ∧ (Instr.loadAt 62 (.pointer (some pb))).run Try.prog w' = .ok (.agg (bts xs).toArray) w') (ds := [11, 14]) #[false, false, false, false, false, false, false, false, false, false, false, false, false, false, false] (by kernel_rfl) rfl rfl ⟨(HF.out _ (below_drew1 (Below.refl _ _))).1, (HF.out _ (below_drew1 (Below.refl _ _))).2⟩ (fun hHeld => ?_)
  refine pure_ (i := 0) (N := some 22) (v := ?_) (a' := ?_) #[true, false, false, false, false, false, false, false, false, false, false, false, false, false, false] rfl rfl (by kernel_rfl) (fun _ _ _ h => h) (Or.inl ⟨by rfl, ?_⟩) ?_ ?_
  rotate_left
  · intro w'
    go_simp
    with_reducible rfl
  rotate_left
  · simp only [Act.put, List.setIfInBounds_toArray, List.set_cons_zero, List.set_cons_succ, i64_w, i32_w]
    rfl
  refine pure_ (i := 1) (N := some 23) (v := ?_) (a' := ?_) #[true, true, false, false, false, false, false, false, false, false, false, false, false, false, false] rfl rfl (by kernel_rfl) (fun _ _ _ h => h) (Or.inl ⟨by rfl, ?_⟩) ?_ ?_
  rotate_left
  · intro w'
    go_simp
    with_reducible rfl
  rotate_left
  · simp only [Act.put, List.setIfInBounds_toArray, List.set_cons_zero, List.set_cons_succ, i64_w, i32_w]
    rfl
  refine pure_ (i := 2) (N := some 24) (v := ?_) (a' := ?_) #[true, true, true, false, false, false, false, false, false, false, false, false, false, false, false] rfl rfl (by kernel_rfl) (fun _ _ _ h => h) (Or.inl ⟨by rfl, ?_⟩) ?_ ?_
  rotate_left
  · intro w'
    go_simp
    with_reducible rfl
  rotate_left
  · simp only [Act.put, List.setIfInBounds_toArray, List.set_cons_zero, List.set_cons_succ, i64_w, i32_w]
    rfl
  refine pure_ (i := 3) (N := some 25) (v := ?_) (a' := ?_) #[true, true, true, true, false, false, false, false, false, false, false, false, false, false, false] rfl rfl (by kernel_rfl) (fun _ _ _ h => h) (Or.inl ⟨by rfl, ?_⟩) ?_ ?_
  rotate_left
  · intro w'
    go_simp
    with_reducible rfl
  rotate_left
  · simp only [Act.put, List.setIfInBounds_toArray, List.set_cons_zero, List.set_cons_succ, i64_w, i32_w]
    rfl
  refine pure_ (i := 5) (N := some 27) (v := ?_) (a' := ?_) #[true, true, true, true, false, true, false, false, false, false, false, false, false, false, false] rfl rfl (by kernel_rfl) (fun _ _ _ h => h) (Or.inl ⟨by rfl, ?_⟩) ?_ ?_
  rotate_left
  · intro w'
    go_simp
    with_reducible rfl
  rotate_left
  · simp only [Act.put, List.setIfInBounds_toArray, List.set_cons_zero, List.set_cons_succ, i64_w, i32_w]
    rfl
  refine pure_ (i := 6) (N := some 28) (v := ?_) (a' := ?_) #[true, true, true, true, false, true, true, false, false, false, false, false, false, false, false] rfl rfl (by kernel_rfl) (fun _ _ _ h => h) (Or.inl ⟨by rfl, ?_⟩) ?_ ?_
  rotate_left
  · intro w'
    go_simp
    with_reducible rfl
  rotate_left
  · simp only [Act.put, List.setIfInBounds_toArray, List.set_cons_zero, List.set_cons_succ, i64_w, i32_w]
    rfl
  refine pure_ (i := 7) (N := some 29) (v := ?_) (a' := ?_) #[true, true, true, true, false, true, true, true, false, false, false, false, false, false, false] rfl rfl (by kernel_rfl) (fun _ _ _ h => h) (Or.inl ⟨by rfl, ?_⟩) ?_ ?_
  rotate_left
  · intro w'
    go_simp
    with_reducible rfl
  rotate_left
  · simp only [Act.put, List.setIfInBounds_toArray, List.set_cons_zero, List.set_cons_succ, i64_w, i32_w]
    rfl
  refine take_ (i := 4) (N := some 26) (v := ?_) (a' := ?_) #[true, true, true, true, true, true, true, true, false, false, false, false, false, false, false] rfl rfl (by kernel_rfl) (fun _ _ _ h => h) (Or.inl ⟨by rfl, ?_⟩) hHeld ?_ ?_
  rotate_left
  · rintro w' ⟨s0, s1⟩
    go_simp
    with_reducible rfl
  rotate_left
  · simp only [Act.put, List.setIfInBounds_toArray, List.set_cons_zero, List.set_cons_succ, i64_w, i32_w]
    rfl
  refine one_ (i := 8) (N := some 30) #[true, true, true, true, true, true, true, true, true, false, false, false, false, false, false] rfl rfl (by kernel_rfl) (by decide) (fun K hK => ?_)
  refine value_ (by rfl) rfl (exec_load 62 _ (.pointer (some pb)) _ rfl (by rfl) hHeld.2) ?_
  refine hK.out _ _ ⟨hHeld.1, hHeld.2⟩ (fun hHeld => ?_)
  clear hK K
  refine norm_ (a' := ?_) ?_ ?_
  rotate_left
  · show Act.put _ (some 30) _ = _
    simp only [Act.put, List.setIfInBounds_toArray, List.set_cons_zero, List.set_cons_succ, i64_w, i32_w]
    rfl
  refine one_ (i := 9) (N := some 31) #[true, true, true, true, true, true, true, true, true, true, false, false, false, false, false] rfl rfl (by kernel_rfl) (by decide) (fun K hK => ?_)
  refine value_ (by rfl) rfl (exec_build2 64 0 1 _ _ (.int .i64 n) (.agg (bts xs).toArray) _ rfl (by rfl) (by rfl) (build_write n xs HX.out _)) ?_
  refine hK.out _ _ ⟨hHeld.1, hHeld.2⟩ (fun hHeld => ?_)
  clear hK K
  refine norm_ (a' := ?_) ?_ ?_
  rotate_left
  · show Act.put _ (some 31) _ = _
    simp only [Act.put, List.setIfInBounds_toArray, List.set_cons_zero, List.set_cons_succ, i64_w, i32_w]
    rfl
  refine one_ (i := 10) (N := some 32) #[true, true, true, true, true, true, true, true, true, true, true, false, false, false, false] rfl rfl (by kernel_rfl) (by decide) (fun K hK => ?_)
  refine value_ (by rfl) rfl (exec_buildSlice1 49 1 0 _ (.agg (Value.int .i64 n :: bts xs).toArray) _ rfl (by rfl) (buildSlice_one 49 64 65 72 zeroW _ Try.underlying49 infoW (by omega) (by omega) zeroW_size (by simp [Value.cells, bts_length, HX.out]) _)) ?_
  refine hK.out _ _ ⟨(HF.out _ (below_alloc (below_drew1 (Below.refl _ _)) _)).1, (HF.out _ (below_alloc (below_drew1 (Below.refl _ _)) _)).2⟩ (fun hHeld => ?_)
  clear hK K
  refine norm_ (a' := ?_) ?_ ?_
  rotate_left
  · show Act.put _ (some 32) _ = _
    simp only [Act.put, List.setIfInBounds_toArray, List.set_cons_zero, List.set_cons_succ, i64_w, i32_w]
    rfl
  refine last_ (i := 11) (N := some 33) #[true, true, true, true, true, true, true, true, true, true, true, true, false, false, false] rfl rfl (by kernel_rfl) (by decide) (fun K hK => ?_)
  refine Kd.R_append_step wrtK (w0 := W) (W := W.drew) 0 (by rfl) (.tmp 26) (.tmp 32) 49 64 zeroW 72 rfl Try.underlying49 infoW zeroW_size (by decide) (by omega) wv (d.waits.map encW) (n, xs) (Value.int .i64 n :: bts xs) (fun k => (F k ∨ W.heap.size ≤ k) ∧ k ≠ g ∧ k ≠ gl) (fun _ => False) rfl rfl (wrtK_M _ _ _ (n, xs) HX.out) (fun _ hk => hk.elim) HFR.out HWV.out (below_drew1 (Below.refl _ _)) (Nat.zero_le _) HLN.out ?_
  intro v7 w7 ho7 hb7 hg7 hat7
  obtain ⟨A7, c7, rfl⟩ := Kd.R_slice ho7
  generalize hl7 : (d.waits.map encW ++ [(n, xs)]).length = L7 at *
  have hkp7 : Kp F W w7 := ⟨hg7.os, hg7.tape, hg7.output, hg7.size, fun k hk hn => hg7.block k hk (fun e => hn ((HM.out.waits.1 k e.symm).1))⟩
  have hc7 : w7.cell? ⟨g, 1, none⟩ = some wv ∧ w7.frozen? ⟨g, 1, none⟩ = false := by
    have h1 : w7.heap[g]? = W.heap[g]? := hg7.block g (blk_lt HM.out.blk) (fun e => (HM.out.waits.1 g e.symm).2.1 rfl)
    have h2 := h1.trans HM.out.blk
    exact ⟨(blk_cell h2 1).trans rfl, blk_frozen h2 1⟩
  have HO7 := Aside0.mk (And.intro ho7 (And.intro hb7 (And.intro hg7 hkp7)))
  have HL7 := Aside0.mk hl7
  obtain ⟨hd7, hz7⟩ := hc7
  clear ho7 hb7 hg7 hkp7 hat7 hl7
  refine hK.out _ _ ?_
  clear hK K
  refine norm_ (a' := ?_) ?_ ?_
  rotate_left
  · show Act.put _ (some 33) _ = _
    simp only [Act.put, List.setIfInBounds_toArray, List.set_cons_zero, List.set_cons_succ, i64_w, i32_w]
    rfl
  refine pure_ (i := 12) (N := some 34) (v := ?_) (a' := ?_) #[true, true, true, true, true, true, true, true, true, true, true, true, true, false, false] rfl rfl (by kernel_rfl) (fun _ _ _ h => h) (Or.inl ⟨by rfl, ?_⟩) ?_ ?_
  rotate_left
  · intro w'
    go_simp
    with_reducible rfl
  rotate_left
  · simp only [Act.put, List.setIfInBounds_toArray, List.set_cons_zero, List.set_cons_succ, i64_w, i32_w]
    rfl
  refine pure_ (i := 13) (N := some 35) (v := ?_) (a' := ?_) #[true, true, true, true, true, true, true, true, true, true, true, true, true, true, false] rfl rfl (by kernel_rfl) (fun _ _ _ h => h) (Or.inl ⟨by rfl, ?_⟩) ?_ ?_
  rotate_left
  · intro w'
    go_simp
    with_reducible rfl
  rotate_left
  · simp only [Act.put, List.setIfInBounds_toArray, List.set_cons_zero, List.set_cons_succ, i64_w, i32_w]
    rfl
  refine last_ (i := 14) (N := none) #[true, true, true, true, true, true, true, true, true, true, true, true, true, true, true] rfl rfl (by kernel_rfl) (by decide) (fun K hK => ?_)
  refine skip_ (w1 := ?_) (by rfl) rfl ?_ ?_
  rotate_left
  · go_simp
    rfl
  refine hK.out _ _ ?_
  clear hK K
  refine done_ (by kernel_rfl) ?_
  have hh7 : ∀ k, k = g ∨ k = gl → w7.heap[k]? = W.heap[k]? := fun k hk => HO7.out.2.2.1.block k (by rcases hk with rfl | rfl; exact blk_lt HM.out.blk; exact Kd.R_lt HM.out.lies _ rfl) (fun e => by
    have := HM.out.waits.1 k e.symm
    rcases hk with rfl | rfl
    · exact this.2.1 rfl
    · exact this.2.2 rfl)
  have hM8 : Mem (fun k => F k ∨ W.heap.size ≤ k) g gl cl ⟨d.lies, d.waits ++ [(n.toNat, xs)], d.steps, d.left⟩ (.slice A7 L7 c7) (w7.setCell ⟨g, 1, none⟩ (.slice A7 L7 c7)) := by
    have hn0 : ((n.toNat : Nat) : Int) = n := Int.toNat_of_nonneg (of_decide_eq_true HS.out.1).1
    refine ⟨blk_put ((hh7 g (.inl rfl)).trans HM.out.blk) 1 _ rfl, .inl HM.out.fg, .inl HM.out.fl, HM.out.ne, Kd.R_step HM.out.lies (fun k hk _ => ?_), ?_, ?_⟩
    · exact (Below.heap_setCell _ _ _ k (by rw [hk]; exact HM.out.ne)).trans (hh7 k (.inr hk))
    · have h9 := Kd.R_far HO7.out.1 (p := ⟨g, 1, none⟩) (fun k hk => hk.2.1) (.slice A7 L7 c7)
      have e : (d.waits ++ [(n.toNat, xs)]).map encW = d.waits.map encW ++ [(n, xs)] := by
        rw [List.map_append, List.map_singleton, encW, hn0]
      show Kd.R _ _ _ _ _ _ ((d.waits ++ [(n.toNat, xs)]).map encW)
      rw [e]
      exact h9
    · refine ⟨HM.out.ok.some_, HM.out.ok.lies, fun w hw => ?_⟩
      rcases List.mem_append.1 hw with hw | hw
      · exact HM.out.ok.waits w hw
      · obtain rfl : w = (n.toNat, xs) := by simpa using hw
        exact ⟨isS_lt (d := d) HS.out.1, HX.out⟩
  have hkp8 : Kp F W (w7.setCell ⟨g, 1, none⟩ (.slice A7 L7 c7)) := HO7.out.2.2.2.set (p := ⟨g, 1, none⟩) (.inl HM.out.fg) _
  have hwr : (write d n xs).1 = stepped ⟨d.lies, d.waits ++ [(n.toNat, xs)], d.steps, d.left⟩ := by
    unfold write
    rw [HS.out.1, if_neg (by simp), if_neg (by rw [HX.out]; simp), HS.out.2, if_neg (by simp)]
  have HWR := Aside0.mk hwr
  have HStep := Aside0.mk (step_calls _ g gl cl _ _ _ hM8 HN.out.1 HS.out.2 HN.out.2.1)
  have HK8 := Aside0.mk hkp8
  have HFG := Aside0.mk HM.out.fg
  clear hM8 hh7 hkp8 hd7 hz7 HO7 HL7 hwr harr HW HD
  generalize (w7.setCell ⟨g, 1, none⟩ (.slice A7 L7 c7)) = W8 at *
  go_wp2_with (first | (go_at_call 28; refine HStep.out.mono ?_; rintro e w9 ⟨rfl, hM9, hk9⟩))
  go_ret
  exact ⟨rfl, gl, cl, _, _, by rw [HWR.out]; exact hM9, fun k hk => hk, HK8.out.trans hk9 (fun q _ hq => by rw [hq]; exact HFG.out)⟩
end Go.Proofs.Ytckbdckeijanlaa.G
